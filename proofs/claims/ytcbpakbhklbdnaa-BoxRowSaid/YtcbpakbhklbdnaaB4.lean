/- Walks: whether a row is valid, whether it belongs to a box (the program's and the reference's). -/
import Derived.Test.YtcbpakbhklbdnaaB3
namespace Go.Proofs.Ytcbpakbhklbdnaa
open Go.ChangeShapes Go.WideShapes Go.ChangeAt Go.RowKit
set_option linter.unusedVariables false

theorem valid_at (v : PVal) (b : Bool) (w : World) (hv : v.Wf) (h : Hid (validB v = b)) :
    Calls Try.prog 26 #[.agg v.cells.toArray] w fun e w' => e = .returned (.bool b) ∧ Below w.heap.size w w' := by
  have := valid_any v w hv
  rw [h.out] at this
  exact this
theorem in_at (s : PSide) (v : PVal) (b : Bool) (w : World) (h : Hid (sideIn s v = b)) :
    Calls Try.prog 27 #[.agg s.cells.toArray, .agg v.cells.toArray] w fun e w' => e = .returned (.bool b) ∧ Below w.heap.size w w' := by
  have := in_any s v w
  rw [h.out] at this
  exact this

def validR (vs : List PVal) : Bool := vs.all validB && decide (vs.length ≤ 12)
theorem validR_no {vs : List PVal} {k : Nat} (hk : k < vs.length) (h : validB vs[k] = false) : validR vs = false := by
  unfold validR
  rw [Bool.and_eq_false_iff]; left
  rw [List.all_eq_false]
  exact ⟨_, List.getElem_mem hk, by simp [h]⟩

set_option maxHeartbeats 2000000 in
theorem validR_any (vs : List PVal) (v : Value) (w : World) (hv : SliceRep valRep (Lt w.heap.size) w vs v) :
    Calls Try.prog 10 #[v] w fun e w' => e = .returned (.bool (validR vs)) ∧ Below w.heap.size w w' := by
  obtain ⟨a, cap, rfl, hcap, hcap2, hl⟩ := hv.shape
  have HV := Lib.hid hv; clear hv
  go_enter Try.func10, Try.ntmps10
  go_wp2
  go_loopw [7] (fun i wr => ∃ k : Nat, k ≤ vs.length ∧ i = .int .i64 k ∧ Below w.heap.size w wr ∧ (vs.take k).all validB = true) (fun i _ => vs.length - (intOf i).toNat)
  case atStart => exact ⟨0, Nat.zero_le _, rfl, Below.refl _ _, rfl⟩
  case round =>
    obtain ⟨k, hk, rfl, hb, hall⟩ := hrel
    have HA := Lib.hid hall; clear hall
    have hsz := hb.size
    by_cases hlt : k < vs.length
    · obtain ⟨b, off, rfl, hb1, hwf, c0, c1, c2⟩ := (HV.out.below hb).val k hlt
      have HN : Hid (validB vs[k] = false → validR vs = false) := Lib.hid (validR_no hlt)
      have HY : Hid (validB vs[k] = true → (vs.take (k + 1)).all validB = true) := Lib.hid (all_take_succ hlt HA.out)
      generalize hs : vs[k] = s at *
      clear hs HA
      have HB := Lib.hid hb; clear hb
      have HW := Lib.hid hwf; clear hwf
      cases hvb : validB s
      all_goals
        have HE := Lib.hid hvb; clear hvb
        go_wp2_with (go_at_call 26; refine (valid_at s _ _ HW.out HE).mono ?_; rintro e w1 ⟨rfl, hb1⟩)
        have HB1 : Hid (Below w.heap.size w w1) := Lib.hid ((HB.out.alloc hsz _).trans (hb1.mono (by simp; omega)))
      · go_ret
        exact ⟨by rw [HN.out HE.out]; rfl, HB1.out⟩
      · go_roundw
        case rel => exact ⟨k + 1, by omega, by go_num, HB1.out, HY.out HE.out⟩
        case measure => simp [intOf]; omega
    · have hke : k = vs.length := by omega
      have HR : Hid (validR vs = decide (vs.length ≤ 12)) := Lib.hid (by unfold validR; rw [← List.take_length (l := vs), ← hke, HA.out]; simp [hke])
      clear hke HA
      by_cases h10 : vs.length ≤ 12
      all_goals
        go_wp2
        go_ret
        refine ⟨?_, hb⟩
        rw [HR.out]; simp [h10]; omega
end Go.Proofs.Ytcbpakbhklbdnaa
