/- Boxes as plain data, and the walk of the reference's Right. -/
import Derived.Test.YtcbpakbhklbdnaaRows
import Derived.Test.YtcbpakbhklbdnaaBase
import Derived.Test.YtcbpakbhklbdnaaStr
import Derived.WalkKit
import Derived.ProofKit
import Derived.LoopTactic
import Derived.Outline
import Derived.WalkLawsBesides
import Derived.Laws.StructEq
import Derived.Deep.Light
namespace Go.Proofs.Ytcbpakbhklbdnaa
open Go.ChangeShapes Go.WideShapes Go.ChangeAt Go.RowKit
set_option linter.unusedVariables false

structure PSide where
  null : Bool
  other : Bool
  low : Int
  high : Int
  frm : ByteArray
  to : ByteArray
def PSide.cells (s : PSide) : List Value := [.bool s.null, .bool s.other, .int .i64 s.low, .int .i64 s.high, .string s.frm, .string s.to]
structure PSide.Wf (s : PSide) : Prop where
  l1 : -9223372036854775808 ≤ s.low
  l2 : s.low ≤ 9223372036854775807
  h1 : -9223372036854775808 ≤ s.high
  h2 : s.high ≤ 9223372036854775807
  f : s.frm.size ≤ 140737488355328
  t : s.to.size ≤ 140737488355328
def sideRep : Rep PSide := .flatW 6 PSide.cells PSide.Wf (fun _ => rfl)

theorem SliceRep.side {S : Nat → Prop} {w : World} {ss : List PSide} {a : Option Addr} {n cap : Nat} (h : SliceRep sideRep S w ss (.slice a n cap)) (k : Nat) (hk : k < ss.length) :
    ∃ b off, a = some ⟨b, off, none⟩ ∧ S b ∧ ss[k].Wf ∧ w.cell? ⟨b, off + k * 6, none⟩ = some (.bool ss[k].null) ∧ w.cell? ⟨b, off + k * 6 + 1, none⟩ = some (.bool ss[k].other) ∧ w.cell? ⟨b, off + k * 6 + 2, none⟩ = some (.int .i64 ss[k].low)
      ∧ w.cell? ⟨b, off + k * 6 + 3, none⟩ = some (.int .i64 ss[k].high) ∧ w.cell? ⟨b, off + k * 6 + 4, none⟩ = some (.string ss[k].frm) ∧ w.cell? ⟨b, off + k * 6 + 5, none⟩ = some (.string ss[k].to) := by
  obtain ⟨b, off, l, ha, hb, ⟨hl, hw⟩, hc⟩ := h.at k hk
  subst hl
  exact ⟨b, off, ha, hb, hw, hc 0 (by simp [PSide.cells]), hc 1 (by simp [PSide.cells]), hc 2 (by simp [PSide.cells]), hc 3 (by simp [PSide.cells]), hc 4 (by simp [PSide.cells]), hc 5 (by simp [PSide.cells])⟩

def sideZero (s : PSide) : Bool := s.null && !s.other && s.low == 0 && s.high == 0 && s.frm.toList == [] && s.to.toList == []
def sideRight (s : PSide) : Bool :=
  (s.null || s.other) && decide (s.low ≤ s.high) && sle s.frm s.to && decide (s.frm.size + s.to.size ≤ 100) && (s.other || sideZero s)

def rightB (ss : List PSide) : Bool := ss.all sideRight && decide (ss.length ≤ 10)
theorem right_no {ss : List PSide} {k : Nat} (hk : k < ss.length) (h : sideRight ss[k] = false) : rightB ss = false := by
  unfold rightB
  rw [Bool.and_eq_false_iff]; left
  rw [List.all_eq_false]
  exact ⟨_, List.getElem_mem hk, by simp [h]⟩
theorem all_take_succ {α : Type} {f : α → Bool} {l : List α} {k : Nat} (hk : k < l.length) (h : (l.take k).all f = true) (h' : f l[k] = true) : (l.take (k + 1)).all f = true := by
  rw [List.take_succ_eq_append_getElem hk, List.all_append, h]; simp [h']

set_option maxHeartbeats 4000000 in
theorem right_any (t : Int) (ss : List PSide) (v : Value) (w : World) (hv : SliceRep sideRep (Lt w.heap.size) w ss v) :
    Calls Try.prog 9 #[.agg #[.int .i64 t, v]] w fun e w' => e = .returned (.bool (rightB ss)) ∧ Below w.heap.size w w' := by
  obtain ⟨a, cap, rfl, hcap, hcap2, hl⟩ := hv.shape
  have HV := Lib.hid hv; clear hv
  go_enter Try.func9, Try.ntmps9
  go_wp2
  obtain ⟨w0, H0⟩ : ∃ w0, Hid (w0 = w.alloc (Obj.cells #[Value.int IntKind.i64 t, Value.slice a ss.length cap] 24)) := ⟨_, Lib.hid rfl⟩
  have hc0 : w0.cell? ⟨w.heap.size, 1, none⟩ = some (Value.slice a ss.length cap) := by rw [H0.out, World.cell?_alloc_at _ _ _ _ rfl]; rfl
  have hz0 : w.heap.size < w0.heap.size := by rw [H0.out]; simp
  have hb0 : Below w.heap.size w w0 := by rw [H0.out]; exact (Below.refl _ _).alloc (Nat.le_refl _) _
  have HC0 := Lib.hid hc0; clear hc0
  rw [← H0.out]
  go_loopw [3] (fun i wr => ∃ k : Nat, k ≤ ss.length ∧ i = .int .i64 k ∧ Below (w.heap.size + 1) w0 wr ∧ (ss.take k).all sideRight = true)
     (fun i _ => ss.length - (intOf i).toNat)
  case atStart => exact ⟨0, Nat.zero_le _, rfl, Below.refl _ _, rfl⟩
  case round =>
    obtain ⟨k, hk, rfl, hb, hall⟩ := hrel
    have HA := Lib.hid hall; clear hall
    have hc1 : wr.cell? ⟨w.heap.size, 1, none⟩ = some (Value.slice a ss.length cap) := by rw [hb.cell (by simp)]; exact HC0.out
    have hbb : Below w.heap.size w wr := hb0.trans (hb.mono (by simp))
    have hsz := hb.size
    by_cases hlt : k < ss.length
    · obtain ⟨b, off, rfl, hb1, ⟨l1, l2, h1, h2, hf, ht⟩, c0, c1, c2, c3, c4, c5⟩ := (HV.out.below hbb).side k hlt
      have HN : Hid (sideRight ss[k] = false → rightB ss = false) := Lib.hid (right_no hlt)
      have HY : Hid (sideRight ss[k] = true → (ss.take (k + 1)).all sideRight = true) := Lib.hid (all_take_succ hlt HA.out)
      generalize hs : ss[k] = s at *
      clear hs HA
      have HB := Lib.hid hbb; have HB1 := Lib.hid hb; clear hbb hb hb1
      cases hsle : sle s.frm s.to
      all_goals
        have HE := Lib.hid hsle
        simp only [sle, slt, Bool.or_eq_true, Bool.or_eq_false_iff, beq_iff_eq, beq_eq_false_iff_ne, ne_eq] at hsle
        first
          | have hs1 := hsle.1
            have hs2 := hsle.2
            clear hsle
          | skip
        go_wp2
      all_goals
        first
          | (go_ret
             refine ⟨?_, HB.out.trans (((Below.refl _ _).alloc (by omega) _).mono (by omega))⟩
             rw [HN.out (by have HE' := HE.out; clear HE HV H0 HC0 HN HY HB HB1; go_light; simp only [sideRight, sideZero, HE']; grind)]
             rfl)
          | (go_roundw
             case rel => exact ⟨k + 1, by omega, by go_num, HB1.out.alloc (by omega) _, HY.out (by have HE' := HE.out; clear HE HV H0 HC0 HN HY HB HB1; go_light; simp only [sideRight, sideZero, HE']; grind)⟩
             case measure => simp [intOf]; omega)
    · have hke : k = ss.length := by omega
      have HR : Hid (rightB ss = decide (ss.length ≤ 10)) := Lib.hid (by unfold rightB; rw [← List.take_length (l := ss), ← hke, HA.out]; simp [hke])
      clear hke HA
      by_cases h10 : ss.length ≤ 10
      all_goals
        go_wp2
        go_ret
        refine ⟨?_, hbb⟩
        rw [HR.out]; simp [h10]; omega
end Go.Proofs.Ytcbpakbhklbdnaa
