/- Walks: whether a row belongs to a box (the program's and the reference's). -/
import Derived.Test.YtcbpakbhklbdnaaB4
import Derived.StillTailTactics
namespace Go.Proofs.Ytcbpakbhklbdnaa
open Go.ChangeShapes Go.WideShapes Go.ChangeAt Go.RowKit
set_option linter.unusedVariables false

/-- Whether a row belongs to a box. -/
def containsB (ss : List PSide) (vs : List PVal) : Bool := !(ss.length == 0) && ss.length == vs.length && (ss.zip vs).all fun p => sideIn p.1 p.2

theorem zip_all_no {ss : List PSide} {vs : List PVal} {k : Nat} (hk : k < ss.length) (hk' : k < vs.length) (h : sideIn ss[k] vs[k] = false) : containsB ss vs = false := by
  unfold containsB
  rw [Bool.and_eq_false_iff]; right
  rw [List.all_eq_false]
  have hz : k < (ss.zip vs).length := by simp; omega
  refine ⟨(ss.zip vs)[k], List.getElem_mem hz, ?_⟩
  simp [h]
theorem zip_take_succ {ss : List PSide} {vs : List PVal} {k : Nat} (hk : k < ss.length) (hk' : k < vs.length) (h : ((ss.zip vs).take k).all (fun p => sideIn p.1 p.2) = true) (h' : sideIn ss[k] vs[k] = true) :
    ((ss.zip vs).take (k + 1)).all (fun p => sideIn p.1 p.2) = true := by
  have hz : k < (ss.zip vs).length := by simp; omega
  exact all_take_succ hz h (by simp [h'])

set_option maxHeartbeats 2000000 in
theorem rcontains_any (t : Int) (ss : List PSide) (sv : Value) (vs : List PVal) (v : Value) (w : World) (hs : SliceRep sideRep (Lt w.heap.size) w ss sv) (hv : SliceRep valRep (Lt w.heap.size) w vs v) :
    Calls Try.prog 13 #[.agg #[.int .i64 t, sv], v] w fun e w' => e = .returned (.bool (containsB ss vs)) ∧ Below w.heap.size w w' := by
  obtain ⟨a, n, cap, rfl, HN, hcap, hcap2, hl⟩ := hs.opn
  obtain ⟨a', n', cap', rfl, HN', hcap', hcap2', hl'⟩ := hv.opn
  have HS := Lib.hid hs; clear hs
  have HV := Lib.hid hv; clear hv
  by_cases h0 : n = 0
  · have hr : Hid (containsB ss vs = false) := Lib.hid (by simp [containsB, HN.out, h0])
    go_enter Try.func13, Try.ntmps13
    go_wp2
    go_ret
    exact ⟨by rw [hr.out]; rfl, (Below.refl _ _).alloc (Nat.le_refl _) _⟩
  have h0' : ((n : Int) == 0) = false := beq_eq_false_iff_ne.2 (by omega)
  by_cases he : n = n'
  · subst he
    have HR : Hid (∀ b, ((ss.zip vs).all fun p => sideIn p.1 p.2) = b → containsB ss vs = b) := Lib.hid (by
      intro b hb
      have e1 : (ss.length == 0) = false := beq_eq_false_iff_ne.2 (by rw [HN.out]; omega)
      have e2 : (ss.length == vs.length) = true := by rw [HN.out, HN'.out]; simp
      rw [containsB, e1, e2, hb]; simp)
    go_enter Try.func13, Try.ntmps13
    go_wp2
    obtain ⟨w0, H0⟩ : ∃ w0, Hid (w0 = w.alloc (Obj.cells #[Value.int IntKind.i64 t, Value.slice a n cap] 24)) := ⟨_, Lib.hid rfl⟩
    have hc0 : w0.cell? ⟨w.heap.size, 1, none⟩ = some (Value.slice a n cap) := by rw [H0.out, World.cell?_alloc_at _ _ _ _ rfl]; rfl
    have hz0 : w.heap.size < w0.heap.size := by rw [H0.out]; simp
    have hb0 : Below w.heap.size w w0 := by rw [H0.out]; exact (Below.refl _ _).alloc (Nat.le_refl _) _
    have HC0 := Lib.hid hc0; clear hc0
    rw [← H0.out]
    go_loopw [5] (fun i wr => ∃ k : Nat, k ≤ n ∧ i = .int .i64 k ∧ Below (w.heap.size + 1) w0 wr ∧ ((ss.zip vs).take k).all (fun p => sideIn p.1 p.2) = true) (fun i _ => n - (intOf i).toNat)
    case atStart => exact ⟨0, Nat.zero_le _, rfl, Below.refl _ _, rfl⟩
    case round =>
      obtain ⟨k, hk, rfl, hb, hall⟩ := hrel
      have HA := Lib.hid hall; clear hall
      have hsz := hb.size
      have hc1 : wr.cell? ⟨w.heap.size, 1, none⟩ = some (Value.slice a n cap) := by rw [hb.cell (by simp)]; exact HC0.out
      have hbb : Below w.heap.size w wr := hb0.trans (hb.mono (by simp))
      by_cases hlt : k < n
      · have hks : k < ss.length := by rw [HN.out]; exact hlt
        have hkv : k < vs.length := by rw [HN'.out]; exact hlt
        obtain ⟨b, off, rfl, hb1, hwf, c0, c1, c2, c3, c4, c5⟩ := (HS.out.below hbb).side k hks
        obtain ⟨b', off', rfl, hb1', hwf', d0, d1, d2⟩ := (HV.out.below hbb).val k hkv
        have HNo : Hid (sideIn ss[k] vs[k] = false → containsB ss vs = false) := Lib.hid (zip_all_no hks hkv)
        have HY : Hid (sideIn ss[k] vs[k] = true → ((ss.zip vs).take (k + 1)).all (fun p => sideIn p.1 p.2) = true) := Lib.hid (zip_take_succ hks hkv HA.out)
        generalize ss[k] = s at *
        generalize vs[k] = x at *
        clear HA hb1 hb1' hwf hwf'
        have HB := Lib.hid hbb; have HB1 := Lib.hid hb; clear hbb hb
        cases hsi : sideIn s x
        all_goals
          have HE := Lib.hid hsi; clear hsi
          go_wp2
          go_still_tail 9, (by kernel_rfl)
          change wpList _ _ _ _ _ wr.drew
          go_wp2_with (go_at_call 27; refine (in_at s x _ _ HE).mono ?_; rintro e w1 ⟨rfl, hb1⟩)
          have HBa : Hid (Below w.heap.size w w1) := Lib.hid (HB.out.drew.trans (hb1.mono (by simp; omega)))
          have HBb : Hid (Below (w.heap.size + 1) w0 w1) := Lib.hid (HB1.out.drew.trans (hb1.mono (by simp; omega)))
          clear hb1
        · go_ret
          exact ⟨by rw [HNo.out HE.out]; rfl, HBa.out⟩
        · go_roundw
          case rel => exact ⟨k + 1, by omega, by go_num, HBb.out, HY.out HE.out⟩
          case measure => simp [intOf]; omega
      · have hke : k = n := by omega
        have hz : (ss.zip vs).take k = ss.zip vs := List.take_of_length_le (by simp [HN.out, HN'.out]; omega)
        have hr : Hid (containsB ss vs = true) := Lib.hid (HR.out true (by rw [← hz]; exact HA.out))
        clear hz hke HA
        go_wp2
        go_ret
        exact ⟨by rw [hr.out]; rfl, hbb⟩
  · have hr : Hid (containsB ss vs = false) := Lib.hid (by simp [containsB, HN.out, HN'.out, he])
    have he' : ((n : Int) != (n' : Int)) = true := by rw [bne_iff_ne]; omega
    clear he h0
    go_enter Try.func13, Try.ntmps13
    go_wp2
    go_ret
    exact ⟨by rw [hr.out]; rfl, (Below.refl _ _).alloc (Nat.le_refl _) _⟩

set_option maxHeartbeats 2000000 in
theorem contains_any (t : Int) (ss : List PSide) (sv : Value) (vs : List PVal) (v : Value) (w : World) (hs : SliceRep sideRep (Lt w.heap.size) w ss sv) (hv : SliceRep valRep (Lt w.heap.size) w vs v) :
    Calls Try.prog 11 #[.agg #[.int .i64 t, sv], v] w fun e w' => e = .returned (.bool (containsB ss vs)) ∧ Below w.heap.size w w' := by
  obtain ⟨a, n, cap, rfl, HN, hcap, hcap2, hl⟩ := hs.opn
  obtain ⟨a', n', cap', rfl, HN', hcap', hcap2', hl'⟩ := hv.opn
  have HS := Lib.hid hs; clear hs
  have HV := Lib.hid hv; clear hv
  by_cases h0 : n = 0
  · have hr : Hid (containsB ss vs = false) := Lib.hid (by simp [containsB, HN.out, h0])
    go_enter Try.func11, Try.ntmps11
    go_wp2
    go_ret
    exact ⟨by rw [hr.out]; rfl, (Below.refl _ _).alloc (Nat.le_refl _) _⟩
  have h0' : ((n : Int) == 0) = false := beq_eq_false_iff_ne.2 (by omega)
  by_cases he : n = n'
  · subst he
    have HR : Hid (∀ b, ((ss.zip vs).all fun p => sideIn p.1 p.2) = b → containsB ss vs = b) := Lib.hid (by
      intro b hb
      have e1 : (ss.length == 0) = false := beq_eq_false_iff_ne.2 (by rw [HN.out]; omega)
      have e2 : (ss.length == vs.length) = true := by rw [HN.out, HN'.out]; simp
      rw [containsB, e1, e2, hb]; simp)
    go_enter Try.func11, Try.ntmps11
    go_wp2
    obtain ⟨w0, H0⟩ : ∃ w0, Hid (w0 = w.alloc (Obj.cells #[Value.int IntKind.i64 t, Value.slice a n cap] 33)) := ⟨_, Lib.hid rfl⟩
    have hc0 : w0.cell? ⟨w.heap.size, 1, none⟩ = some (Value.slice a n cap) := by rw [H0.out, World.cell?_alloc_at _ _ _ _ rfl]; rfl
    have hz0 : w.heap.size < w0.heap.size := by rw [H0.out]; simp
    have hb0 : Below w.heap.size w w0 := by rw [H0.out]; exact (Below.refl _ _).alloc (Nat.le_refl _) _
    have HC0 := Lib.hid hc0; clear hc0
    rw [← H0.out]
    go_loopw [22] (fun i wr => ∃ k : Nat, k ≤ n ∧ i = .int .i64 k ∧ Below (w.heap.size + 1) w0 wr ∧ ((ss.zip vs).take k).all (fun p => sideIn p.1 p.2) = true) (fun i _ => n - (intOf i).toNat)
    case atStart => exact ⟨0, Nat.zero_le _, rfl, Below.refl _ _, rfl⟩
    case round =>
      obtain ⟨k, hk, rfl, hb, hall⟩ := hrel
      have HA := Lib.hid hall; clear hall
      have hsz := hb.size
      have hc1 : wr.cell? ⟨w.heap.size, 1, none⟩ = some (Value.slice a n cap) := by rw [hb.cell (by simp)]; exact HC0.out
      have hbb : Below w.heap.size w wr := hb0.trans (hb.mono (by simp))
      by_cases hlt : k < n
      · have hks : k < ss.length := by rw [HN.out]; exact hlt
        have hkv : k < vs.length := by rw [HN'.out]; exact hlt
        obtain ⟨b, off, rfl, hb1, hwf, c0, c1, c2, c3, c4, c5⟩ := (HS.out.below hbb).side k hks
        obtain ⟨b', off', rfl, hb1', hwf', d0, d1, d2⟩ := (HV.out.below hbb).val k hkv
        have HNo : Hid (sideIn ss[k] vs[k] = false → containsB ss vs = false) := Lib.hid (zip_all_no hks hkv)
        have HY : Hid (sideIn ss[k] vs[k] = true → ((ss.zip vs).take (k + 1)).all (fun p => sideIn p.1 p.2) = true) := Lib.hid (zip_take_succ hks hkv HA.out)
        generalize ss[k] = s at *
        generalize vs[k] = x at *
        have hlt1 : b < wr.heap.size := Nat.lt_of_lt_of_le hb1 hbb.size
        have hlt2 : b' < wr.heap.size := Nat.lt_of_lt_of_le hb1' hbb.size
        clear HA hb1 hb1' hwf hwf'
        have HB := Lib.hid hbb; have HB1 := Lib.hid hb; clear hbb hb
        have hz1 : w.heap.size < wr.heap.size := by omega
        have HQ : Hid (sle s.frm x.text = !slt x.text s.frm) := Lib.hid (sle_iff _ _)
        go_wp2
        all_goals
          first
            | (go_ret
               refine ⟨?_, HB.out.trans ((((Below.refl _ _).alloc (Nat.le_refl _) _).alloc (by simp) _).mono (by omega))⟩
               rw [HNo.out (by have e1 := HQ.out; clear HQ HS HV H0 HC0 HNo HY HB HB1; go_light; simp only [sideIn, sle, slt] at e1 ⊢; grind)]
               rfl)
            | (go_roundw
               case rel => exact ⟨k + 1, by omega, by go_num, (HB1.out.alloc (by omega) _).alloc (by simp; omega) _, HY.out (by have e1 := HQ.out; clear HQ HS HV H0 HC0 HNo HY HB HB1; go_light; simp only [sideIn, sle, slt] at e1 ⊢; grind)⟩
               case measure => simp [intOf]; omega)
      · have hke : k = n := by omega
        have hz : (ss.zip vs).take k = ss.zip vs := List.take_of_length_le (by simp [HN.out, HN'.out]; omega)
        have hr : Hid (containsB ss vs = true) := Lib.hid (HR.out true (by rw [← hz]; exact HA.out))
        clear hz hke HA
        go_wp2
        go_ret
        exact ⟨by rw [hr.out]; rfl, hbb⟩
  · have hr : Hid (containsB ss vs = false) := Lib.hid (by simp [containsB, HN.out, HN'.out, he])
    have he' : ((n' : Int) != (n : Int)) = true := by rw [bne_iff_ne]; omega
    clear he h0
    go_enter Try.func11, Try.ntmps11
    go_wp2
    go_ret
    exact ⟨by rw [hr.out]; rfl, (Below.refl _ _).alloc (Nat.le_refl _) _⟩
end Go.Proofs.Ytcbpakbhklbdnaa
