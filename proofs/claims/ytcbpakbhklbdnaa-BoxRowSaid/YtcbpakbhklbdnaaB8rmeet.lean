/- Walks: loops over two lists side by side: whether two boxes meet (the reference's), are the same, whether a row's types fit a box, whether two rows fit. -/
import Derived.Test.YtcbpakbhklbdnaaB7
import Derived.BigRegion
namespace Go.Proofs.Ytcbpakbhklbdnaa
open Go.ChangeShapes Go.WideShapes Go.ChangeAt Go.RowKit
set_option linter.unusedVariables false
attribute [local go_sem] Lib.run_max_strs Lib.run_min_strs

def allZip {α β : Type} (f : α → β → Bool) (ss : List α) (ts : List β) : Bool := (ss.zip ts).all fun p => f p.1 p.2
theorem allZip_no {α β : Type} {f : α → β → Bool} {ss : List α} {ts : List β} {k : Nat} (hk : k < ss.length) (hk' : k < ts.length) (h : f ss[k] ts[k] = false) : allZip f ss ts = false := by
  unfold allZip
  rw [List.all_eq_false]
  have hz : k < (ss.zip ts).length := by simp; omega
  exact ⟨(ss.zip ts)[k], List.getElem_mem hz, by simp [h]⟩
theorem allZip_succ {α β : Type} {f : α → β → Bool} {ss : List α} {ts : List β} {k : Nat} (hk : k < ss.length) (hk' : k < ts.length) (h : allZip f (ss.take k) (ts.take k) = true) (h' : f ss[k] ts[k] = true) :
    allZip f (ss.take (k + 1)) (ts.take (k + 1)) = true := by
  unfold allZip at *
  have hz : k < (ss.zip ts).length := by simp; omega
  rw [take_zip_take] at h ⊢
  exact all_take_succ hz h (by simp [h'])

def sideEq (s t : PSide) : Bool := s.null == t.null && s.other == t.other && s.low == t.low && s.high == t.high && s.frm.toList == t.frm.toList && s.to.toList == t.to.toList
def sideTyped (s : PSide) (v : PVal) : Bool := !((v.kind == 1 && (!s.frm.toList.isEmpty || !s.to.toList.isEmpty)) || (v.kind == 2 && (!(s.low == 0) || !(s.high == 0))))
def valEq (u v : PVal) : Bool := u.kind == v.kind && u.int == v.int && u.text.toList == v.text.toList
def valFits (u v : PVal) : Bool := !(u.kind == v.kind && !valEq u v)

set_option maxHeartbeats 4000000 in
theorem rmeet_loop (t : Int) (t2 : Int) (ss : List PSide) (ts : List PSide) (sv tv : Value) (w : World) (hs : SliceRep sideRep (Lt w.heap.size) w ss sv) (ht : SliceRep sideRep (Lt w.heap.size) w ts tv) (hlen : ss.length = ts.length) (hne : ss.length ≠ 0) (htt : Hid (t = t2)) :
    Calls Try.prog 15 #[.agg #[.int .i64 t, sv], .agg #[.int .i64 t2, tv]] w fun e w' => e = .returned (.bool (allZip sideMeet ss ts)) ∧ Below w.heap.size w w' := by
  obtain ⟨a, n, cap, rfl, HN, hcap, hcap2, hl⟩ := hs.opn
  obtain ⟨a', n', cap', rfl, HN', hcap', hcap2', hl'⟩ := ht.opn
  obtain rfl : n' = n := by rw [← HN.out, ← HN'.out, hlen]
  obtain rfl := htt.out
  have HS := Lib.hid hs; clear hs
  have HT := Lib.hid ht; clear ht
  have h0 : 0 < n' := by have := HN.out; omega
  have h0' : ((n' : Int) == 0) = false := beq_eq_false_iff_ne.2 (by omega)
  clear hlen hne
  go_enter Try.func15, Try.ntmps15
  go_wp2
  obtain ⟨w0, H0⟩ : ∃ w0, Hid (w0 = ((w.alloc (Obj.cells #[Value.int IntKind.i64 t, Value.slice a n' cap] 24)).alloc (Obj.cells #[Value.int IntKind.i64 t, Value.slice a' n' cap'] 24))) := ⟨_, Lib.hid rfl⟩
  have hb0 : Below w.heap.size w w0 := by rw [H0.out]; exact ((Below.refl _ _).alloc (Nat.le_refl _) _).alloc (by simp) _
  have hc0' : w0.cell? ⟨w.heap.size + 0, 1, none⟩ = some (Value.slice a n' cap) := by rw [H0.out, World.cell?_alloc_past _ _ _ (by simp), World.cell?_alloc_at _ _ _ _ (by simp)]; rfl
  have HC0 := Lib.hid hc0'; clear hc0'
  have hc1' : w0.cell? ⟨w.heap.size + 1, 1, none⟩ = some (Value.slice a' n' cap') := by rw [H0.out, World.cell?_alloc_at _ _ _ _ (by simp)]; rfl
  have HC1 := Lib.hid hc1'; clear hc1'
  have hz0 : w.heap.size + 2 ≤ w0.heap.size := by rw [H0.out]; simp
  rw [← H0.out]
  go_loopw [5] (fun i wr => ∃ k : Nat, k ≤ n' ∧ i = .int .i64 k ∧ Below (w.heap.size + 2) w0 wr ∧ allZip sideMeet (ss.take k) (ts.take k) = true) (fun i _ => n' - (intOf i).toNat)
  case atStart => exact ⟨0, Nat.zero_le _, rfl, Below.refl _ _, rfl⟩
  case round =>
    obtain ⟨k, hk, rfl, hb, hall⟩ := hrel
    have HA := Lib.hid hall; clear hall
    have hsz := hb.size
    have hc0w : wr.cell? ⟨w.heap.size, 1, none⟩ = some (Value.slice a n' cap) := by rw [hb.cell (by simp)]; exact HC0.out
    have hc1w : wr.cell? ⟨w.heap.size + 1, 1, none⟩ = some (Value.slice a' n' cap') := by rw [hb.cell (by simp)]; exact HC1.out
    have hbb : Below w.heap.size w wr := hb0.trans (hb.mono (by simp))
    by_cases hlt : k < n'
    · have hks : k < ss.length := by rw [HN.out]; exact hlt
      have hkt : k < ts.length := by rw [HN'.out]; exact hlt
      obtain ⟨b, off, rfl, hb1, hwf, c0, c1, c2, c3, c4, c5⟩ := (HS.out.below hbb).side k hks
      obtain ⟨b', off', rfl, hb1', hwf', d0, d1, d2, d3, d4, d5⟩ := (HT.out.below hbb).side k hkt
      have HNo : Hid (sideMeet ss[k] ts[k] = false → allZip sideMeet ss ts = false) := Lib.hid (allZip_no hks hkt)
      have HY : Hid (sideMeet ss[k] ts[k] = true → allZip sideMeet (ss.take (k + 1)) (ts.take (k + 1)) = true) := Lib.hid (allZip_succ hks hkt HA.out)
      generalize ss[k] = s at *
      generalize ts[k] = x at *
      have hlt1 : b < wr.heap.size := Nat.lt_of_lt_of_le hb1 hbb.size
      have hlt2 : b' < wr.heap.size := Nat.lt_of_lt_of_le hb1' hbb.size
      have hz1 : w.heap.size < wr.heap.size := by omega
      have hz2 : w.heap.size + 1 < wr.heap.size := by omega
      clear HA hb1 hb1' hwf hwf'
      have HB := Lib.hid hbb; have HB1 := Lib.hid hb; clear hbb hb
      go_wp2
      go_region
      all_goals go_wp2
      all_goals
        first
          | (go_ret
             refine ⟨?_, (by repeat (first | exact HB.out | refine Below.drew ?_ | refine (below_drewN ?_ _) | refine Below.alloc ?_ (by first | omega | (simp; omega)) _))⟩
             rw [HNo.out (by clear HS HT HNo HY HB HB1 H0 HC0 HC1; go_light; simp only [sideMeet, sle, slt]; grind)]
             rfl)
          | (go_roundw
             case rel => exact ⟨k + 1, by omega, by go_num, (by repeat (first | exact HB1.out | refine Below.drew ?_ | refine (below_drewN ?_ _) | refine Below.alloc ?_ (by first | omega | (simp; omega)) _)), HY.out (by clear HS HT HNo HY HB HB1 H0 HC0 HC1; go_light; simp only [sideMeet, sle, slt]; grind)⟩
             case measure => simp [intOf]; omega)
    · have hke : k = n' := by omega
      have e1 : ss.take k = ss := List.take_of_length_le (by rw [HN.out]; omega)
      have e2 : ts.take k = ts := List.take_of_length_le (by rw [HN'.out]; omega)
      have hr : Hid (allZip sideMeet ss ts = true) := Lib.hid (by rw [← e1, ← e2]; exact HA.out)
      clear hke HA e1 e2
      go_wp2
      go_ret
      exact ⟨by rw [hr.out]; rfl, hbb⟩
end Go.Proofs.Ytcbpakbhklbdnaa
