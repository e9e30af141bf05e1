/- Walks: loops over two lists side by side: whether two boxes meet (the reference's), are the same, whether a row's types fit a box, whether two rows fit. -/
import Derived.Test.YtcbpakbhklbdnaaB8rmeet
import Derived.Deep.QuietTactic
import Derived.BigQuiet
import Derived.WalkSmall
namespace Go.Proofs.Ytcbpakbhklbdnaa
open Go.ChangeShapes Go.WideShapes Go.ChangeAt Go.RowKit
set_option linter.unusedVariables false
attribute [local go_sem] Lib.run_max_strs Lib.run_min_strs


set_option maxHeartbeats 800000 in
theorem fits_loop (ss : List PVal) (ts : List PVal) (sv tv : Value) (w : World) (hs : SliceRep valRep (Lt w.heap.size) w ss sv) (ht : SliceRep valRep (Lt w.heap.size) w ts tv) (hlen : ss.length = ts.length) :
    Calls Try.prog 23 #[sv, tv] w fun e w' => e = .returned (.bool (allZip valFits ss ts)) ∧ Below w.heap.size w w' := by
  obtain ⟨a, n, cap, rfl, HN, hcap, hcap2, hl⟩ := hs.opn
  obtain ⟨a', n', cap', rfl, HN', hcap', hcap2', hl'⟩ := ht.opn
  obtain rfl : n' = n := by rw [← HN.out, ← HN'.out, hlen]
  have HS := Lib.hid hs; clear hs
  have HT := Lib.hid ht; clear ht
  clear hlen
  go_enter Try.func23, Try.ntmps23
  go_wp2
  go_loopw [8] (fun i wr => ∃ k : Nat, k ≤ n' ∧ i = .int .i64 k ∧ Below (w.heap.size) w wr ∧ allZip valFits (ss.take k) (ts.take k) = true) (fun i _ => n' - (intOf i).toNat)
  case atStart => exact ⟨0, Nat.zero_le _, rfl, Below.refl _ _, rfl⟩
  case round =>
    obtain ⟨k, hk, rfl, hb, hall⟩ := hrel
    have HA := Lib.hid hall; clear hall
    have hsz := hb.size
    have hbb : Below w.heap.size w wr := hb
    by_cases hlt : k < n'
    · have hks : k < ss.length := by rw [HN.out]; exact hlt
      have hkt : k < ts.length := by rw [HN'.out]; exact hlt
      obtain ⟨b, off, rfl, hb1, hwf, c0, c1, c2⟩ := (HS.out.below hbb).val k hks
      obtain ⟨b', off', rfl, hb1', hwf', d0, d1, d2⟩ := (HT.out.below hbb).val k hkt
      have HNo : Hid (valFits ss[k] ts[k] = false → allZip valFits ss ts = false) := Lib.hid (allZip_no hks hkt)
      have HY : Hid (valFits ss[k] ts[k] = true → allZip valFits (ss.take (k + 1)) (ts.take (k + 1)) = true) := Lib.hid (allZip_succ hks hkt HA.out)
      generalize ss[k] = s at *
      generalize ts[k] = x at *
      have hlt1 : b < wr.heap.size := Nat.lt_of_lt_of_le hb1 hbb.size
      have hlt2 : b' < wr.heap.size := Nat.lt_of_lt_of_le hb1' hbb.size
      clear HA hb1 hb1' hwf hwf'
      have HB := Lib.hid hbb; have HB1 := Lib.hid hb; clear hbb hb
      have hI : (k : Int) < (n' : Int) := by omega
      have hI0 : (0 : Int) ≤ (k : Int) := by omega
      cases hkk : (s.kind == x.kind) <;> cases h2 : (s.int == x.int) <;> cases h3 : (s.text.toList == x.text.toList)
      all_goals
        go_wp2
        go_quiet (fail)
        go_wp2
      all_goals
        first
          | (go_ret
             refine ⟨?_, (by repeat (first | exact HB.out | refine Below.drew ?_ | refine (below_drewN ?_ _) | refine Below.alloc ?_ (by first | omega | (simp; omega)) _))⟩
             rw [HNo.out (by clear HS HT HNo HY HB HB1; go_light; simp only [valFits, valEq]; grind)]
             rfl)
          | (go_roundw
             case rel => exact ⟨k + 1, by omega, by go_num, (by repeat (first | exact HB1.out | refine Below.drew ?_ | refine (below_drewN ?_ _) | refine Below.alloc ?_ (by first | omega | (simp; omega)) _)), HY.out (by clear HS HT HNo HY HB HB1; go_light; simp only [valFits, valEq]; grind)⟩
             case measure => simp [intOf]; omega)
    · have hke : k = n' := by omega
      have e1 : ss.take k = ss := List.take_of_length_le (by rw [HN.out]; omega)
      have e2 : ts.take k = ts := List.take_of_length_le (by rw [HN'.out]; omega)
      have hr : Hid (allZip valFits ss ts = true) := Lib.hid (by rw [← e1, ← e2]; exact HA.out)
      clear hke HA e1 e2
      go_wp2
      go_ret
      exact ⟨by rw [hr.out]; rfl, hbb⟩
end Go.Proofs.Ytcbpakbhklbdnaa
