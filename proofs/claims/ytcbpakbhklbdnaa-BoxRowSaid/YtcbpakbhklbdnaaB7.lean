/- Walks: whether two boxes meet (the program's). -/
import Derived.Test.YtcbpakbhklbdnaaB6
import Derived.Lib.MinMax
namespace Go.Proofs.Ytcbpakbhklbdnaa
open Go.ChangeShapes Go.WideShapes Go.ChangeAt Go.RowKit
set_option linter.unusedVariables false
attribute [local go_sem] Lib.run_max_strs Lib.run_min_strs

def sideMeet (s t : PSide) : Bool :=
  (s.null && t.null) || (s.other && t.other && decide (max s.low t.low ≤ min s.high t.high) && sle (Lib.maxS s.frm t.frm) (Lib.minS s.to t.to))
/-- Two lists of sides of one length, not empty, related side by side. -/
def pairs (f : PSide → PSide → Bool) (ss ts : List PSide) : Bool := (ss.zip ts).all fun p => f p.1 p.2
theorem pairs_no {f : PSide → PSide → Bool} {ss ts : List PSide} {k : Nat} (hk : k < ss.length) (hk' : k < ts.length) (h : f ss[k] ts[k] = false) : pairs f ss ts = false := by
  unfold pairs
  rw [List.all_eq_false]
  have hz : k < (ss.zip ts).length := by simp; omega
  exact ⟨(ss.zip ts)[k], List.getElem_mem hz, by simp [h]⟩
theorem take_zip_take {α β : Type} (l : List α) (m : List β) (k : Nat) : (l.take k).zip (m.take k) = (l.zip m).take k := by
  induction k generalizing l m with
  | zero => simp
  | succ k ih => cases l <;> cases m <;> simp [ih]
theorem pairs_succ {f : PSide → PSide → Bool} {ss ts : List PSide} {k : Nat} (hk : k < ss.length) (hk' : k < ts.length) (h : pairs f (ss.take k) (ts.take k) = true) (h' : f ss[k] ts[k] = true) :
    pairs f (ss.take (k + 1)) (ts.take (k + 1)) = true := by
  unfold pairs at *
  have hz : k < (ss.zip ts).length := by simp; omega
  rw [take_zip_take] at h ⊢
  exact all_take_succ hz h (by simp [h'])
def meetB (t : Int) (ss : List PSide) (t' : Int) (ts : List PSide) : Bool := t == t' && ss.length == ts.length && !(ss.length == 0) && pairs sideMeet ss ts

set_option maxHeartbeats 4000000 in
theorem meet_loop (t : Int) (ss ts : List PSide) (sv tv : Value) (w : World) (hs : SliceRep sideRep (Lt w.heap.size) w ss sv) (ht : SliceRep sideRep (Lt w.heap.size) w ts tv) (hlen : ss.length = ts.length) (hne : ss.length ≠ 0) :
    Calls Try.prog 14 #[.agg #[.int .i64 t, sv], .agg #[.int .i64 t, tv]] w fun e w' => e = .returned (.bool (pairs sideMeet ss ts)) ∧ Below w.heap.size w w' := by
  obtain ⟨a, n, cap, rfl, HN, hcap, hcap2, hl⟩ := hs.opn
  obtain ⟨a', n', cap', rfl, HN', hcap', hcap2', hl'⟩ := ht.opn
  obtain rfl : n' = n := by rw [← HN.out, ← HN'.out, hlen]
  have HS := Lib.hid hs; clear hs
  have HT := Lib.hid ht; clear ht
  have h0 : 0 < n' := by have := HN.out; omega
  have h0' : ((n' : Int) == 0) = false := beq_eq_false_iff_ne.2 (by omega)
  clear hlen hne
  go_enter Try.func14, Try.ntmps14
  go_wp2
  obtain ⟨w0, H0⟩ : ∃ w0, Hid (w0 = (w.alloc (Obj.cells #[Value.int IntKind.i64 t, Value.slice a n' cap] 33)).alloc (Obj.cells #[Value.int IntKind.i64 t, Value.slice a' n' cap'] 33)) := ⟨_, Lib.hid rfl⟩
  have hb0 : Below w.heap.size w w0 := by rw [H0.out]; exact ((Below.refl _ _).alloc (Nat.le_refl _) _).alloc (by simp) _
  have hc0 : w0.cell? ⟨w.heap.size + 1, 1, none⟩ = some (Value.slice a' n' cap') := by rw [H0.out, World.cell?_alloc_at _ _ _ _ (by simp)]; rfl
  have hz0 : w.heap.size + 2 ≤ w0.heap.size := by rw [H0.out]; simp
  have HC0 := Lib.hid hc0; clear hc0
  rw [← H0.out]
  go_loopw [32] (fun i wr => ∃ k : Nat, k ≤ n' ∧ i = .int .i64 k ∧ Below (w.heap.size + 2) w0 wr ∧ pairs sideMeet (ss.take k) (ts.take k) = true) (fun i _ => n' - (intOf i).toNat)
  case atStart => exact ⟨0, Nat.zero_le _, rfl, Below.refl _ _, rfl⟩
  case round =>
    obtain ⟨k, hk, rfl, hb, hall⟩ := hrel
    have HA := Lib.hid hall; clear hall
    have hsz := hb.size
    have hc1 : wr.cell? ⟨w.heap.size + 1, 1, none⟩ = some (Value.slice a' n' cap') := by rw [hb.cell (by simp)]; exact HC0.out
    have hbb : Below w.heap.size w wr := hb0.trans (hb.mono (by simp))
    by_cases hlt : k < n'
    · have hks : k < ss.length := by rw [HN.out]; exact hlt
      have hkt : k < ts.length := by rw [HN'.out]; exact hlt
      obtain ⟨b, off, rfl, hb1, hwf, c0, c1, c2, c3, c4, c5⟩ := (HS.out.below hbb).side k hks
      obtain ⟨b', off', rfl, hb1', hwf', d0, d1, d2, d3, d4, d5⟩ := (HT.out.below hbb).side k hkt
      have HNo : Hid (sideMeet ss[k] ts[k] = false → pairs sideMeet ss ts = false) := Lib.hid (pairs_no hks hkt)
      have HY : Hid (sideMeet ss[k] ts[k] = true → pairs sideMeet (ss.take (k + 1)) (ts.take (k + 1)) = true) := Lib.hid (pairs_succ hks hkt HA.out)
      generalize ss[k] = s at *
      generalize ts[k] = x at *
      have hlt1 : b < wr.heap.size := Nat.lt_of_lt_of_le hb1 hbb.size
      have hlt2 : b' < wr.heap.size := Nat.lt_of_lt_of_le hb1' hbb.size
      have hz1 : w.heap.size + 1 < wr.heap.size := by omega
      clear HA hb1 hb1' hwf hwf'
      have HB := Lib.hid hbb; have HB1 := Lib.hid hb; clear hbb hb
      go_wp2
      all_goals
        first
          | (go_ret
             refine ⟨?_, HB.out.trans ((((Below.refl _ _).alloc (Nat.le_refl _) _).alloc (by simp) _).mono (by omega))⟩
             rw [HNo.out (by clear HS HT H0 HC0 HNo HY HB HB1; go_light; simp only [sideMeet, sle, slt]; grind)]
             rfl)
          | (go_roundw
             case rel => exact ⟨k + 1, by omega, by go_num, (HB1.out.alloc (by omega) _).alloc (by simp; omega) _, HY.out (by clear HS HT H0 HC0 HNo HY HB HB1; go_light; simp only [sideMeet, sle, slt]; grind)⟩
             case measure => simp [intOf]; omega)
    · have hke : k = n' := by omega
      have e1 : ss.take k = ss := List.take_of_length_le (by rw [HN.out]; omega)
      have e2 : ts.take k = ts := List.take_of_length_le (by rw [HN'.out]; omega)
      have hr : Hid (pairs sideMeet ss ts = true) := Lib.hid (by rw [← e1, ← e2]; exact HA.out)
      clear hke HA e1 e2
      go_wp2
      go_ret
      exact ⟨by rw [hr.out]; rfl, hbb⟩
end Go.Proofs.Ytcbpakbhklbdnaa
