/- Walks: whether a value belongs to a side, whether a value is valid. -/
import Derived.Test.YtcbpakbhklbdnaaB2
namespace Go.Proofs.Ytcbpakbhklbdnaa
open Go.ChangeShapes Go.WideShapes Go.ChangeAt Go.RowKit
set_option linter.unusedVariables false

/-- Whether a value belongs to a side. -/
def sideIn (s : PSide) (v : PVal) : Bool :=
  if v.kind = 0 then s.null else if v.kind = 1 then s.other && decide (s.low ≤ v.int) && decide (v.int ≤ s.high) else s.other && sle s.frm v.text && sle v.text s.to

set_option maxHeartbeats 1000000 in
theorem in_any (s : PSide) (v : PVal) (w : World) :
    Calls Try.prog 27 #[.agg s.cells.toArray, .agg v.cells.toArray] w fun e w' => e = .returned (.bool (sideIn s v)) ∧ Below w.heap.size w w' := by
  unfold PSide.cells PVal.cells
  go_enter Try.func27, Try.ntmps27
  go_wp2
  all_goals
    go_ret
    refine ⟨?_, ((Below.refl _ _).alloc (Nat.le_refl _) _).alloc (by simp) _⟩
    refine congrArg (fun b => Ending.returned (.bool b)) ?_
    simp only [sideIn, sle, slt]
    go_light
    grind

/-- Whether all characters are printable. -/
def printableB (l : List UInt8) : Bool := l.all fun c => decide (32 ≤ (c.toNat : Int)) && decide ((c.toNat : Int) ≤ 126)
def validB (v : PVal) : Bool :=
  if v.kind = 0 then v.int == 0 && v.text.toList.isEmpty else if v.kind = 1 then v.text.toList.isEmpty else if v.kind = 2 then v.int == 0 && printableB v.text.data.toList && decide (v.text.size ≤ 16) else false

theorem printable_no {l : List UInt8} {k : Nat} (hk : k < l.length) (h : ¬ (32 ≤ (l[k].toNat : Int) ∧ (l[k].toNat : Int) ≤ 126)) : printableB l = false := by
  unfold printableB
  rw [List.all_eq_false]
  exact ⟨_, List.getElem_mem hk, by simpa using h⟩

set_option maxHeartbeats 1000000 in
theorem printable_any (s : ByteArray) (w : World) (hs : s.size ≤ 140737488355328) :
    Calls Try.prog 28 #[.string s] w fun e w' => e = .returned (.bool (printableB s.data.toList)) ∧ w = w' := by
  go_enter Try.func28, Try.ntmps28
  go_wp2
  go_loop [3] (fun i => ∃ k : Nat, k ≤ s.size ∧ i = .int .i64 k ∧ (s.data.toList.take k).all (fun c => decide (32 ≤ (c.toNat : Int)) && decide ((c.toNat : Int) ≤ 126)) = true) (fun i => s.size - (intOf i).toNat)
  case atStart => exact ⟨0, Nat.zero_le _, rfl, rfl⟩
  case round =>
    obtain ⟨k, hk, rfl, hall⟩ := hrel
    have HA := Lib.hid hall; clear hall
    by_cases hlt : k < s.size
    · have hlen : k < s.data.toList.length := by simpa using hlt
      have hel : s.data.toList[k] = s[k] := rfl
      have HN : Hid (¬ (32 ≤ (s[k].toNat : Int) ∧ (s[k].toNat : Int) ≤ 126) → printableB s.data.toList = false) := Lib.hid (fun h => printable_no hlen (by rw [hel]; exact h))
      have HY : Hid ((32 ≤ (s[k].toNat : Int) ∧ (s[k].toNat : Int) ≤ 126) → (s.data.toList.take (k + 1)).all (fun c => decide (32 ≤ (c.toNat : Int)) && decide ((c.toNat : Int) ≤ 126)) = true) :=
        Lib.hid (fun h => all_take_succ hlen HA.out (by rw [hel]; simpa using h))
      clear hel HA
      go_wp2
      all_goals
        first
          | (go_ret
             refine ⟨?_, rfl⟩
             rw [HN.out (by omega)]
             rfl)
          | (go_round
             case rel => exact ⟨k + 1, by omega, by go_num, HY.out (by omega)⟩
             case measure => simp [intOf]; omega)
    · have hke : k = s.size := by omega
      have HR : Hid (printableB s.data.toList = true) := Lib.hid (by
        unfold printableB
        have : s.data.toList.take k = s.data.toList := List.take_of_length_le (by simp; omega)
        rw [← this]; exact HA.out)
      clear hke HA
      go_wp2
      go_ret
      refine ⟨?_, rfl⟩
      rw [HR.out]; rfl

theorem printable_at (s : ByteArray) (p : Bool) (w : World) (hs : s.size ≤ 140737488355328) (h : Hid (printableB s.data.toList = p)) :
    Calls Try.prog 28 #[.string s] w fun e w' => e = .returned (.bool p) ∧ w = w' := by
  have := printable_any s w hs
  rw [h.out] at this
  exact this

set_option maxHeartbeats 2000000 in
theorem valid_any (v : PVal) (w : World) (hv : v.Wf) :
    Calls Try.prog 26 #[.agg v.cells.toArray] w fun e w' => e = .returned (.bool (validB v)) ∧ Below w.heap.size w w' := by
  obtain ⟨k1, k2, i1, i2, ht⟩ := hv
  unfold PVal.cells
  go_enter Try.func26, Try.ntmps26
  cases hp : printableB v.text.data.toList
  all_goals
    have HPP := Lib.hid hp; clear hp
    go_wp2_with (go_at_call 28; refine (printable_at _ _ _ ht HPP).mono ?_; rintro e w' ⟨rfl, rfl⟩)
  all_goals
    go_ret
    refine ⟨?_, (Below.refl _ _).alloc (Nat.le_refl _) _⟩
    refine congrArg (fun b => Ending.returned (.bool b)) ?_
    simp only [validB, HPP.out]
    go_light
    grind
end Go.Proofs.Ytcbpakbhklbdnaa
