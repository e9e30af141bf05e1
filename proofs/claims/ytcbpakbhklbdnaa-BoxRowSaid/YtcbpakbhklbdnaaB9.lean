/- Walks: the box of a row (the program's). -/
import Derived.Test.YtcbpakbhklbdnaaB6
namespace Go.Proofs.Ytcbpakbhklbdnaa
open Go.ChangeShapes Go.WideShapes Go.ChangeAt Go.RowKit
set_option linter.unusedVariables false


def rowSide (v : PVal) : PSide :=
  if v.kind = 0 then ⟨true, false, 0, 0, ⟨#[]⟩, ⟨#[]⟩⟩ else if v.kind = 1 then ⟨false, true, v.int, v.int, ⟨#[]⟩, ⟨#[]⟩⟩ else ⟨false, true, 0, 0, v.text, v.text⟩
theorem rowSide_wf {v : PVal} (h : v.Wf) : (rowSide v).Wf := by
  obtain ⟨k1, k2, i1, i2, t⟩ := h
  have he : (⟨#[]⟩ : ByteArray).size = 0 := rfl
  unfold rowSide
  split
  · constructor <;> simp [he]
  · split
    · constructor <;> simp [he] <;> omega
    · constructor <;> simp <;> omega

/-- What a round of the loop keeps: the local box's block, the slice in it. -/
def RowInv (w wr : World) (T : TypeId) (E : TypeId) (B1 B2 : Nat) (t : Int) (ss : List PSide) (va : Option Addr) (n vc : Nat) : Prop :=
  wr.heap[B1]? = some (.cells #[.int .i64 0, .slice none 0 0] T (0, 0)) ∧ wr.heap[B2]? = some (.cells #[.int .i64 t, .slice va n vc] T (0, 0)) ∧
    Below w.heap.size w wr ∧ Owns sideRep (fun _ => False) wr (w.heap.size + 2) E ss (.slice va n vc)

theorem RowInv.next {w wr wx w1 : World} {T E : TypeId} {t : Int} {ss : List PSide} {va : Option Addr} {n vc : Nat} {s : PSide} {v' : Value} {ls : List (List Value)}
    (h : RowInv w wr T E w.heap.size (w.heap.size + 1) t ss va n vc) (hll : ls.length = n) (hls : ss.length = n) (hr : ∀ k (hk : k < ss.length) (hk' : k < ls.length), sideRep.rep (fun _ => False) wr ss[k] ls[k]) (hs : s.Wf)
    (hown : wr.ownsRow (w.heap.size + 2) E 6 (.slice va n vc) n ls.flatten) (hbx : Below wr.heap.size wr wx) (hgrow : wx.grownBy w1 (Value.slice va n vc).ownBlock) (hown' : w1.ownsRow (w.heap.size + 2) E 6 v' (n + 1) (ls.flatten ++ s.cells)) :
    ∃ va' vc', v' = .slice va' (n + 1) vc' ∧ w1.heap[w.heap.size]? = some (.cells #[.int .i64 0, .slice none 0 0] T (0, 0)) ∧ w1.heap[w.heap.size + 1]? = some (.cells #[.int .i64 t, .slice va n vc] T (0, 0)) ∧
      RowInv w (w1.setCell ⟨w.heap.size + 1, 1, none⟩ (.slice va' (n + 1) vc')) T E w.heap.size (w.heap.size + 1) t (ss ++ [s]) va' (n + 1) vc' := by
  subst hls
  obtain ⟨h1, h2, hb, hO⟩ := h
  obtain ⟨hp, hkeep, hsz, hb'⟩ := Owns.step (R := sideRep) (S := fun _ => False) (S' := fun _ => False) (B := w.heap.size) (w := w) (x := s) hll hr ⟨rfl, hs⟩ (fun _ h => h) hbx hown hgrow (fun _ h => h.elim) hown' (by omega) (Nat.le_of_lt (lt_blk h1)) hb
  have hne : ∀ q, q < w.heap.size + 2 → (Value.slice va ss.length vc).ownBlock ≠ some q := fun q hq e => by have := (hO.lt q e).1; omega
  obtain ⟨va', vc', rfl⟩ := hp.len
  have hl : (ss ++ [s]).length = ss.length + 1 := by simp
  rw [hl] at hp ⊢
  have e1 := (hkeep w.heap.size (lt_blk h1) (hne _ (by omega))).trans h1
  have e2 := (hkeep (w.heap.size + 1) (lt_blk h2) (hne _ (by omega))).trans h2
  refine ⟨va', vc', rfl, e1, e2, ?_, ?_, hb'.setCell (by simp) _, ?_⟩
  · rw [heap_setCell_other _ _ _ _ (by simp)]; exact e1
  · rw [heap_setCell_same _ _ _ _ _ _ e2]; rfl
  · refine hp.ext (fun _ h => h.elim) (fun q hq => ?_)
    have := (hp.lt q hq).1
    rw [heap_setCell_other _ _ _ _ (by simp; omega)]

theorem map_take_succ {α β : Type} (f : α → β) (l : List α) (k : Nat) (h : k < l.length) : (l.take (k + 1)).map f = (l.take k).map f ++ [f l[k]] := by
  rw [List.take_succ_eq_append_getElem h, List.map_append]; rfl

set_option maxHeartbeats 4000000 in
theorem row_any (t : Int) (vs : List PVal) (v : Value) (w : World) (hv : SliceRep valRep (Lt w.heap.size) w vs v) (hsmall : vs.length ≤ 10000) :
    Calls Try.prog 21 #[.int .i64 t, v] w fun e w' => (∃ v', e = .returned (.agg #[.int .i64 t, v']) ∧ SliceRep sideRep (Btw w.heap.size w'.heap.size) w' (vs.map rowSide) v') ∧ Below w.heap.size w w' := by
  obtain ⟨a, n, cap, rfl, HN, hcap, hcap2, hl⟩ := hv.opn
  have hn10 : n ≤ 10000 := by rw [← HN.out]; exact hsmall
  obtain ⟨i0, hi, hz0, hz1, hz2⟩ := info_parts info53
  have HV := Lib.hid hv; clear hv
  go_enter Try.func21, Try.ntmps21
  go_wp2
  obtain ⟨w0, H0⟩ : ∃ w0, Hid (w0 = (w.alloc (Obj.cells #[Value.int IntKind.i64 0, Value.slice none 0 0] 33)).alloc (Obj.cells #[Value.int IntKind.i64 t, Value.slice none 0 0] 33)) := ⟨_, Lib.hid rfl⟩
  have hst : RowInv w w0 33 53 w.heap.size (w.heap.size + 1) t [] none 0 0 := by
    refine ⟨?_, ?_, ?_, Owns.nil _ _ _ _ _⟩
    · rw [H0.out, Below.heap_alloc _ _ _ (by simp)]; exact heap_alloc_new w _
    · rw [H0.out]
      have := heap_alloc_new (w.alloc (Obj.cells #[Value.int IntKind.i64 0, Value.slice none 0 0] 33)) (Obj.cells #[Value.int IntKind.i64 t, Value.slice none 0 0] 33)
      simpa using this
    · rw [H0.out]; exact ((Below.refl _ _).alloc (Nat.le_refl _) _).alloc (by simp) _
  rw [← H0.out]
  go_loopw [12] (fun i wr => ∃ (k : Nat) (va : Option Addr) (vc : Nat), k ≤ n ∧ i = .int .i64 k ∧ RowInv w wr 33 53 w.heap.size (w.heap.size + 1) t ((vs.take k).map rowSide) va k vc) (fun i _ => n - (intOf i).toNat)
  case atStart => exact ⟨0, _, _, Nat.zero_le _, rfl, hst⟩
  case round =>
    obtain ⟨k, va, vc, hk, rfl, hinv⟩ := hrel
    have hc1 := cell_blk hinv.2.1 1
    simp only [List.getElem?_toArray, List.getElem?_cons_succ, List.getElem?_cons_zero] at hc1
    have hf1 := free_blk hinv.2.1 1
    have hlt1 := lt_blk hinv.1
    have hlt2 := lt_blk hinv.2.1
    by_cases hlt : k < n
    · have hks : k < vs.length := by rw [HN.out]; exact hlt
      obtain ⟨b, off, rfl, hbb, hwf, c0, c1, c2⟩ := (HV.out.below hinv.2.2.1).val k hks
      have HT := Lib.hid (map_take_succ rowSide vs k hks)
      have HL : Hid (((vs.take k).map rowSide).length = k) := Lib.hid (by simp; omega)
      generalize vs[k] = s at *
      have HW := Lib.hid (rowSide_wf hwf); clear hwf
      have hbb' : b < wr.heap.size := Nat.lt_of_lt_of_le hbb hinv.2.2.1.size
      obtain ⟨ls, hll, hr, hown⟩ := hinv.2.2.2
      rw [HL.out] at hown hll
      have HI := Lib.hid hinv; have HLL := Lib.hid hll; have HR := Lib.hid hr; clear hll hr hinv
      by_cases hk0 : s.kind = 0
      · have hk0' : (s.kind == 0) = true := by simp [hk0]
        have HE : Hid (rowSide s = ⟨true, false, 0, 0, ⟨#[]⟩, ⟨#[]⟩⟩) := Lib.hid (by simp [rowSide, hk0])
        clear hk0
        go_wp2_with (at_builtin; refine wpList_append_own _ rfl _ _ 31 rfl (w.heap.size + 2) 53 i0 _ 6 56 Try.underlying31 hi hz0 hz1 hz2 rfl (by decide) _ _ _ rfl ((hown.alloc _).alloc _) ⟨wr.heap.size + 1, 0, none⟩ 1 1 (PSide.cells (rowSide s)) rfl rfl ?c1 ?c2 ?c3 ?c4 ?c5 ?_)
        case c1 =>
          rw [HE.out]
          intro j u hj
          simp only [PSide.cells] at hj
          match j, hj with
          | 0, hj => simp at hj; subst hj; simp [Addr.add]
          | 1, hj => simp at hj; subst hj; simp [Addr.add]
          | 2, hj => simp at hj; subst hj; simp [Addr.add]
          | 3, hj => simp at hj; subst hj; simp [Addr.add]
          | 4, hj => simp at hj; subst hj; simp [Addr.add]
          | 5, hj => simp at hj; subst hj; simp [Addr.add]
        case c2 => intro u hu; simp [PSide.cells] at hu; rcases hu with rfl | rfl | rfl | rfl | rfl | rfl <;> rfl
        case c3 => unfold maxLen; omega
        case c4 => omega
        case c5 => simp; omega
        intro v' w1 hown' hgrow _
        obtain ⟨va', vc', rfl, hb1, hb2, hnx⟩ := RowInv.next HI.out HLL.out HL.out HR.out HW.out hown (((Below.refl _ _).alloc (Nat.le_refl _) _).alloc (by simp) _) hgrow hown'
        have HX := Lib.hid hnx
        have hd1 := cell_blk hb2 1
        simp only [List.getElem?_toArray, List.getElem?_cons_succ, List.getElem?_cons_zero] at hd1
        have hdf := free_blk hb2 1
        clear hown' hgrow hown hnx hb1 hb2 hc1 hf1 c0 c1 c2 hbb hbb'
        go_wp2
        go_roundw
        case rel => exact ⟨k + 1, va', vc', by omega, by go_num, by rw [HT.out]; exact HX.out⟩
        case measure => simp [intOf]; omega
      have hk0' : (s.kind == 0) = false := by simpa using hk0
      by_cases hk1 : s.kind = 1
      · have hk1' : (s.kind == 1) = true := by simp [hk1]
        have HE : Hid (rowSide s = ⟨false, true, s.int, s.int, ⟨#[]⟩, ⟨#[]⟩⟩) := Lib.hid (by simp [rowSide, hk1])
        clear hk0 hk1
        go_wp2_with (at_builtin; refine wpList_append_own _ rfl _ _ 31 rfl (w.heap.size + 2) 53 i0 _ 6 56 Try.underlying31 hi hz0 hz1 hz2 rfl (by decide) _ _ _ rfl ((hown.alloc _).alloc _) ⟨wr.heap.size + 1, 0, none⟩ 1 1 (PSide.cells (rowSide s)) rfl rfl ?c1 ?c2 ?c3 ?c4 ?c5 ?_)
        case c1 =>
          rw [HE.out]
          intro j u hj
          simp only [PSide.cells] at hj
          match j, hj with
          | 0, hj => simp at hj; subst hj; simp [Addr.add]
          | 1, hj => simp at hj; subst hj; simp [Addr.add]
          | 2, hj => simp at hj; subst hj; simp [Addr.add]
          | 3, hj => simp at hj; subst hj; simp [Addr.add]
          | 4, hj => simp at hj; subst hj; simp [Addr.add]
          | 5, hj => simp at hj; subst hj; simp [Addr.add]
        case c2 => intro u hu; simp [PSide.cells] at hu; rcases hu with rfl | rfl | rfl | rfl | rfl | rfl <;> rfl
        case c3 => unfold maxLen; omega
        case c4 => omega
        case c5 => simp; omega
        intro v' w1 hown' hgrow _
        obtain ⟨va', vc', rfl, hb1, hb2, hnx⟩ := RowInv.next HI.out HLL.out HL.out HR.out HW.out hown (((Below.refl _ _).alloc (Nat.le_refl _) _).alloc (by simp) _) hgrow hown'
        have HX := Lib.hid hnx
        have hd1 := cell_blk hb2 1
        simp only [List.getElem?_toArray, List.getElem?_cons_succ, List.getElem?_cons_zero] at hd1
        have hdf := free_blk hb2 1
        clear hown' hgrow hown hnx hb1 hb2 hc1 hf1 c0 c1 c2 hbb hbb'
        go_wp2
        go_roundw
        case rel => exact ⟨k + 1, va', vc', by omega, by go_num, by rw [HT.out]; exact HX.out⟩
        case measure => simp [intOf]; omega
      · have hk1' : (s.kind == 1) = false := by simpa using hk1
        have HE : Hid (rowSide s = ⟨false, true, 0, 0, s.text, s.text⟩) := Lib.hid (by simp [rowSide, hk1, hk0])
        clear hk0 hk1
        go_wp2_with (at_builtin; refine wpList_append_own _ rfl _ _ 31 rfl (w.heap.size + 2) 53 i0 _ 6 56 Try.underlying31 hi hz0 hz1 hz2 rfl (by decide) _ _ _ rfl ((hown.alloc _).alloc _) ⟨wr.heap.size + 1, 0, none⟩ 1 1 (PSide.cells (rowSide s)) rfl rfl ?c1 ?c2 ?c3 ?c4 ?c5 ?_)
        case c1 =>
          rw [HE.out]
          intro j u hj
          simp only [PSide.cells] at hj
          match j, hj with
          | 0, hj => simp at hj; subst hj; simp [Addr.add]
          | 1, hj => simp at hj; subst hj; simp [Addr.add]
          | 2, hj => simp at hj; subst hj; simp [Addr.add]
          | 3, hj => simp at hj; subst hj; simp [Addr.add]
          | 4, hj => simp at hj; subst hj; simp [Addr.add]
          | 5, hj => simp at hj; subst hj; simp [Addr.add]
        case c2 => intro u hu; simp [PSide.cells] at hu; rcases hu with rfl | rfl | rfl | rfl | rfl | rfl <;> rfl
        case c3 => unfold maxLen; omega
        case c4 => omega
        case c5 => simp; omega
        intro v' w1 hown' hgrow _
        obtain ⟨va', vc', rfl, hb1, hb2, hnx⟩ := RowInv.next HI.out HLL.out HL.out HR.out HW.out hown (((Below.refl _ _).alloc (Nat.le_refl _) _).alloc (by simp) _) hgrow hown'
        have HX := Lib.hid hnx
        have hd1 := cell_blk hb2 1
        simp only [List.getElem?_toArray, List.getElem?_cons_succ, List.getElem?_cons_zero] at hd1
        have hdf := free_blk hb2 1
        clear hown' hgrow hown hnx hb1 hb2 hc1 hf1 c0 c1 c2 hbb hbb'
        go_wp2
        go_roundw
        case rel => exact ⟨k + 1, va', vc', by omega, by go_num, by rw [HT.out]; exact HX.out⟩
        case measure => simp [intOf]; omega
    · have hke : k = n := by omega
      have hOs : RowInv w wr 33 53 w.heap.size (w.heap.size + 1) t (vs.map rowSide) va k vc := by
        have : vs.take k = vs := List.take_of_length_le (by rw [HN.out]; omega)
        rw [this] at hinv; exact hinv
      have HOS := Lib.hid hOs
      have hd0 := cell_blk hinv.2.1 0
      have he0 := cell_blk hinv.1 0
      have he1 := cell_blk hinv.1 1
      have hg0 := free_blk hinv.1 0
      have hg1 := free_blk hinv.1 1
      simp only [List.getElem?_toArray, List.getElem?_cons_succ, List.getElem?_cons_zero] at hd0 he0 he1
      clear hOs hke hinv
      go_wp2
      obtain ⟨hk1, hk2, hbe, hO⟩ := HOS.out
      have hfin : (wr.setCell { block := w.heap.size, off := 0 } (Value.int IntKind.i64 t)).heap[w.heap.size]? = some (.cells #[.int .i64 t, .slice none 0 0] 33 (0, 0)) := by
        rw [heap_setCell_same _ _ _ _ _ _ hk1]; rfl
      refine bodyPost_ret (v := .agg #[.int .i64 t, .slice va k vc]) ?_ rfl ⟨⟨_, rfl, ?_⟩, (hbe.setCell (by simp) _).setCell (by simp) _⟩
      · have h2 : ((wr.setCell { block := w.heap.size, off := 0 } (Value.int IntKind.i64 t)).setCell { block := w.heap.size, off := 1 } (Value.slice va k vc)).heap[w.heap.size]? = some (.cells #[.int .i64 t, .slice va k vc] 33 (0, 0)) := by
          rw [heap_setCell_same _ _ _ _ _ _ hfin]; rfl
        exact results_cell_row rfl _ _ _ 33 _ (0, 0) _ rfl h2 Try.underlying33 rfl (by kernel_rfl)
      · refine SliceRep.mono (S := fun q => q < wr.heap.size ∧ w.heap.size + 2 ≤ q) (fun q hq => ⟨by have := hq.2; omega, by simp; exact hq.1⟩) ?_
        refine SliceRep.ext (w := wr) (fun q hq => ?_) (hO.slice (by have := HN.out; simp; omega) (fun _ h => h.elim) (fun q hq => ⟨(hO.lt q hq).2, (hO.lt q hq).1⟩))
        rw [heap_setCell_other _ _ _ _ (by simp; omega), heap_setCell_other _ _ _ _ (by simp; omega)]
end Go.Proofs.Ytcbpakbhklbdnaa
