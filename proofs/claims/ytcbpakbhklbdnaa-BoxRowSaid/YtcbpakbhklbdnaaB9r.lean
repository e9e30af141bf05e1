/- Walks: the box of a row (the reference's). -/
import Derived.Test.YtcbpakbhklbdnaaB9
namespace Go.Proofs.Ytcbpakbhklbdnaa
open Go.ChangeShapes Go.WideShapes Go.ChangeAt Go.RowKit
set_option linter.unusedVariables false

set_option maxHeartbeats 4000000 in
theorem rrow_any (t : Int) (vs : List PVal) (v : Value) (w : World) (hv : SliceRep valRep (Lt w.heap.size) w vs v) (hsmall : vs.length ≤ 10000) (hkinds : ∀ x ∈ vs, x.kind = 0 ∨ x.kind = 1 ∨ x.kind = 2) :
    Calls Try.prog 22 #[.int .i64 t, v] w fun e w' => (∃ v', e = .returned (.agg #[.int .i64 t, v']) ∧ SliceRep sideRep (Btw w.heap.size w'.heap.size) w' (vs.map rowSide) v') ∧ Below w.heap.size w w' := by
  obtain ⟨a, n, cap, rfl, HN, hcap, hcap2, hl⟩ := hv.opn
  have hn10 : n ≤ 10000 := by rw [← HN.out]; exact hsmall
  obtain ⟨i0, hi, hz0, hz1, hz2⟩ := info_parts info51
  have HV := Lib.hid hv; clear hv
  go_enter Try.func22, Try.ntmps22
  go_wp2
  obtain ⟨w0, H0⟩ : ∃ w0, Hid (w0 = (w.alloc (Obj.cells #[Value.int IntKind.i64 0, Value.slice none 0 0] 24)).alloc (Obj.cells #[Value.int IntKind.i64 t, Value.slice none 0 0] 24)) := ⟨_, Lib.hid rfl⟩
  have hst : RowInv w w0 24 51 w.heap.size (w.heap.size + 1) t [] none 0 0 := by
    refine ⟨?_, ?_, ?_, Owns.nil _ _ _ _ _⟩
    · rw [H0.out, Below.heap_alloc _ _ _ (by simp)]; exact heap_alloc_new w _
    · rw [H0.out]
      have := heap_alloc_new (w.alloc (Obj.cells #[Value.int IntKind.i64 0, Value.slice none 0 0] 24)) (Obj.cells #[Value.int IntKind.i64 t, Value.slice none 0 0] 24)
      simpa using this
    · rw [H0.out]; exact ((Below.refl _ _).alloc (Nat.le_refl _) _).alloc (by simp) _
  rw [← H0.out]
  go_loopw [6] (fun i wr => ∃ (k : Nat) (va : Option Addr) (vc : Nat), k ≤ n ∧ i = .int .i64 k ∧ RowInv w wr 24 51 w.heap.size (w.heap.size + 1) t ((vs.take k).map rowSide) va k vc) (fun i _ => n - (intOf i).toNat)
  case atStart => exact ⟨0, _, _, Nat.zero_le _, rfl, hst⟩
  case round =>
    obtain ⟨k, va, vc, hk, rfl, hinv⟩ := hrel
    have hc1 := cell_blk hinv.2.1 1
    simp only [List.getElem?_toArray, List.getElem?_cons_succ, List.getElem?_cons_zero] at hc1
    have hf1 := free_blk hinv.2.1 1
    have hlt1 := lt_blk hinv.1
    have hlt2 := lt_blk hinv.2.1
    by_cases hlt : k < n
    · have hks : k < vs.length := by rw [HN.out]; exact hlt
      obtain ⟨b, off, rfl, hbb, hwf, c0, c1, c2⟩ := (HV.out.below hinv.2.2.1).val k hks
      have HT := Lib.hid (map_take_succ rowSide vs k hks)
      have HL : Hid (((vs.take k).map rowSide).length = k) := Lib.hid (by simp; omega)
      have hkk := hkinds vs[k] (List.getElem_mem hks)
      generalize vs[k] = s at *
      have HW := Lib.hid (rowSide_wf hwf); clear hwf
      have hbb' : b < wr.heap.size := Nat.lt_of_lt_of_le hbb hinv.2.2.1.size
      obtain ⟨ls, hll, hr, hown⟩ := hinv.2.2.2
      rw [HL.out] at hown hll
      have HI := Lib.hid hinv; have HLL := Lib.hid hll; have HR := Lib.hid hr; clear hll hr hinv
      by_cases hk0 : s.kind = 0
      · have hk0' : (s.kind == 1) = false := by simp [hk0]
        have hk0'' : (s.kind == 2) = false := by simp [hk0]
        have HE : Hid (rowSide s = ⟨true, false, 0, 0, ⟨#[]⟩, ⟨#[]⟩⟩) := Lib.hid (by simp [rowSide, hk0])
        clear hk0 hkk
        go_wp2_with (at_builtin; refine wpList_append_own _ rfl _ _ 22 rfl (w.heap.size + 2) 51 i0 _ 6 56 Try.underlying22 hi hz0 hz1 hz2 rfl (by decide) _ _ _ rfl (((hown.alloc _).alloc _).alloc _) ⟨wr.heap.size + 1 + 1, 0, none⟩ 1 1 (PSide.cells (rowSide s)) rfl rfl ?c1 ?c2 ?c3 ?c4 ?c5 ?_)
        case c1 =>
          rw [HE.out]
          intro j u hj
          simp only [PSide.cells] at hj
          match j, hj with
          | 0, hj => simp at hj; subst hj; simp [Addr.add] <;> (rw [World.cell?_alloc_at _ _ _ _ (by simp)]; rfl)
          | 1, hj => simp at hj; subst hj; simp [Addr.add] <;> (rw [World.cell?_alloc_at _ _ _ _ (by simp)]; rfl)
          | 2, hj => simp at hj; subst hj; simp [Addr.add] <;> (rw [World.cell?_alloc_at _ _ _ _ (by simp)]; rfl)
          | 3, hj => simp at hj; subst hj; simp [Addr.add] <;> (rw [World.cell?_alloc_at _ _ _ _ (by simp)]; rfl)
          | 4, hj => simp at hj; subst hj; simp [Addr.add] <;> (rw [World.cell?_alloc_at _ _ _ _ (by simp)]; rfl)
          | 5, hj => simp at hj; subst hj; simp [Addr.add] <;> (rw [World.cell?_alloc_at _ _ _ _ (by simp)]; rfl)
        case c2 => intro u hu; simp [PSide.cells] at hu; rcases hu with rfl | rfl | rfl | rfl | rfl | rfl <;> rfl
        case c3 => unfold maxLen; omega
        case c4 => omega
        case c5 => simp; omega
        intro v' w1 hown' hgrow _
        obtain ⟨va', vc', rfl, hb1, hb2, hnx⟩ := RowInv.next HI.out HLL.out HL.out HR.out HW.out hown ((((Below.refl _ _).alloc (Nat.le_refl _) _).alloc (by simp) _).alloc (by simp; omega) _) hgrow hown'
        have HX := Lib.hid hnx
        have hd1 := cell_blk hb2 1
        simp only [List.getElem?_toArray, List.getElem?_cons_succ, List.getElem?_cons_zero] at hd1
        have hdf := free_blk hb2 1
        clear hown' hgrow hown hnx hb1 hb2 hc1 hf1 c0 c1 c2 hbb hbb'
        go_wp2
        go_roundw
        case rel => exact ⟨k + 1, va', vc', by omega, by go_num, by rw [HT.out]; exact HX.out⟩
        case measure => simp [intOf]; omega
      by_cases hk1 : s.kind = 1
      · have hk1' : (s.kind == 1) = true := by simp [hk1]
        have hk1'' : (s.kind == 2) = false := by simp [hk1]
        have HE : Hid (rowSide s = ⟨false, true, s.int, s.int, ⟨#[]⟩, ⟨#[]⟩⟩) := Lib.hid (by simp [rowSide, hk1])
        clear hk0 hk1 hkk
        go_wp2_with (at_builtin; refine wpList_append_own _ rfl _ _ 22 rfl (w.heap.size + 2) 51 i0 _ 6 56 Try.underlying22 hi hz0 hz1 hz2 rfl (by decide) _ _ _ rfl (((hown.alloc _).alloc _).alloc _) ⟨wr.heap.size + 1 + 1, 0, none⟩ 1 1 (PSide.cells (rowSide s)) rfl rfl ?c1 ?c2 ?c3 ?c4 ?c5 ?_)
        case c1 =>
          rw [HE.out]
          intro j u hj
          simp only [PSide.cells] at hj
          match j, hj with
          | 0, hj => simp at hj; subst hj; simp [Addr.add] <;> (rw [World.cell?_alloc_at _ _ _ _ (by simp)]; rfl)
          | 1, hj => simp at hj; subst hj; simp [Addr.add] <;> (rw [World.cell?_alloc_at _ _ _ _ (by simp)]; rfl)
          | 2, hj => simp at hj; subst hj; simp [Addr.add] <;> (rw [World.cell?_alloc_at _ _ _ _ (by simp)]; rfl)
          | 3, hj => simp at hj; subst hj; simp [Addr.add] <;> (rw [World.cell?_alloc_at _ _ _ _ (by simp)]; rfl)
          | 4, hj => simp at hj; subst hj; simp [Addr.add] <;> (rw [World.cell?_alloc_at _ _ _ _ (by simp)]; rfl)
          | 5, hj => simp at hj; subst hj; simp [Addr.add] <;> (rw [World.cell?_alloc_at _ _ _ _ (by simp)]; rfl)
        case c2 => intro u hu; simp [PSide.cells] at hu; rcases hu with rfl | rfl | rfl | rfl | rfl | rfl <;> rfl
        case c3 => unfold maxLen; omega
        case c4 => omega
        case c5 => simp; omega
        intro v' w1 hown' hgrow _
        obtain ⟨va', vc', rfl, hb1, hb2, hnx⟩ := RowInv.next HI.out HLL.out HL.out HR.out HW.out hown ((((Below.refl _ _).alloc (Nat.le_refl _) _).alloc (by simp) _).alloc (by simp; omega) _) hgrow hown'
        have HX := Lib.hid hnx
        have hd1 := cell_blk hb2 1
        simp only [List.getElem?_toArray, List.getElem?_cons_succ, List.getElem?_cons_zero] at hd1
        have hdf := free_blk hb2 1
        clear hown' hgrow hown hnx hb1 hb2 hc1 hf1 c0 c1 c2 hbb hbb'
        go_wp2
        go_roundw
        case rel => exact ⟨k + 1, va', vc', by omega, by go_num, by rw [HT.out]; exact HX.out⟩
        case measure => simp [intOf]; omega
      · have hk1' : (s.kind == 1) = false := by simpa using hk1
        have hk2' : (s.kind == 2) = true := by simp; omega
        have HE : Hid (rowSide s = ⟨false, true, 0, 0, s.text, s.text⟩) := Lib.hid (by simp [rowSide, hk1, hk0])
        clear hk0 hk1 hkk
        go_wp2_with (at_builtin; refine wpList_append_own _ rfl _ _ 22 rfl (w.heap.size + 2) 51 i0 _ 6 56 Try.underlying22 hi hz0 hz1 hz2 rfl (by decide) _ _ _ rfl (((hown.alloc _).alloc _).alloc _) ⟨wr.heap.size + 1 + 1, 0, none⟩ 1 1 (PSide.cells (rowSide s)) rfl rfl ?c1 ?c2 ?c3 ?c4 ?c5 ?_)
        case c1 =>
          rw [HE.out]
          intro j u hj
          simp only [PSide.cells] at hj
          match j, hj with
          | 0, hj => simp at hj; subst hj; simp [Addr.add] <;> (rw [World.cell?_alloc_at _ _ _ _ (by simp)]; rfl)
          | 1, hj => simp at hj; subst hj; simp [Addr.add] <;> (rw [World.cell?_alloc_at _ _ _ _ (by simp)]; rfl)
          | 2, hj => simp at hj; subst hj; simp [Addr.add] <;> (rw [World.cell?_alloc_at _ _ _ _ (by simp)]; rfl)
          | 3, hj => simp at hj; subst hj; simp [Addr.add] <;> (rw [World.cell?_alloc_at _ _ _ _ (by simp)]; rfl)
          | 4, hj => simp at hj; subst hj; simp [Addr.add] <;> (rw [World.cell?_alloc_at _ _ _ _ (by simp)]; rfl)
          | 5, hj => simp at hj; subst hj; simp [Addr.add] <;> (rw [World.cell?_alloc_at _ _ _ _ (by simp)]; rfl)
        case c2 => intro u hu; simp [PSide.cells] at hu; rcases hu with rfl | rfl | rfl | rfl | rfl | rfl <;> rfl
        case c3 => unfold maxLen; omega
        case c4 => omega
        case c5 => simp; omega
        intro v' w1 hown' hgrow _
        obtain ⟨va', vc', rfl, hb1, hb2, hnx⟩ := RowInv.next HI.out HLL.out HL.out HR.out HW.out hown ((((Below.refl _ _).alloc (Nat.le_refl _) _).alloc (by simp) _).alloc (by simp; omega) _) hgrow hown'
        have HX := Lib.hid hnx
        have hd1 := cell_blk hb2 1
        simp only [List.getElem?_toArray, List.getElem?_cons_succ, List.getElem?_cons_zero] at hd1
        have hdf := free_blk hb2 1
        clear hown' hgrow hown hnx hb1 hb2 hc1 hf1 c0 c1 c2 hbb hbb'
        go_wp2
        go_roundw
        case rel => exact ⟨k + 1, va', vc', by omega, by go_num, by rw [HT.out]; exact HX.out⟩
        case measure => simp [intOf]; omega
    · have hke : k = n := by omega
      have hOs : RowInv w wr 24 51 w.heap.size (w.heap.size + 1) t (vs.map rowSide) va k vc := by
        have : vs.take k = vs := List.take_of_length_le (by rw [HN.out]; omega)
        rw [this] at hinv; exact hinv
      have HOS := Lib.hid hOs
      have hd0 := cell_blk hinv.2.1 0
      have he0 := cell_blk hinv.1 0
      have he1 := cell_blk hinv.1 1
      have hg0 := free_blk hinv.1 0
      have hg1 := free_blk hinv.1 1
      simp only [List.getElem?_toArray, List.getElem?_cons_succ, List.getElem?_cons_zero] at hd0 he0 he1
      clear hOs hke hinv
      go_wp2
      obtain ⟨hk1, hk2, hbe, hO⟩ := HOS.out
      have hfin : (wr.setCell { block := w.heap.size, off := 0 } (Value.int IntKind.i64 t)).heap[w.heap.size]? = some (.cells #[.int .i64 t, .slice none 0 0] 24 (0, 0)) := by
        rw [heap_setCell_same _ _ _ _ _ _ hk1]; rfl
      refine bodyPost_ret (v := .agg #[.int .i64 t, .slice va k vc]) ?_ rfl ⟨⟨_, rfl, ?_⟩, (hbe.setCell (by simp) _).setCell (by simp) _⟩
      · have h2 : ((wr.setCell { block := w.heap.size, off := 0 } (Value.int IntKind.i64 t)).setCell { block := w.heap.size, off := 1 } (Value.slice va k vc)).heap[w.heap.size]? = some (.cells #[.int .i64 t, .slice va k vc] 24 (0, 0)) := by
          rw [heap_setCell_same _ _ _ _ _ _ hfin]; rfl
        exact results_cell_row rfl _ _ _ 24 _ (0, 0) _ rfl h2 Try.underlying24 rfl (by kernel_rfl)
      · refine SliceRep.mono (S := fun q => q < wr.heap.size ∧ w.heap.size + 2 ≤ q) (fun q hq => ⟨by have := hq.2; omega, by simp; exact hq.1⟩) ?_
        refine SliceRep.ext (w := wr) (fun q hq => ?_) (hO.slice (by have := HN.out; simp; omega) (fun _ h => h.elim) (fun q hq => ⟨(hO.lt q hq).2, (hO.lt q hq).1⟩))
        rw [heap_setCell_other _ _ _ _ (by simp; omega), heap_setCell_other _ _ _ _ (by simp; omega)]
end Go.Proofs.Ytcbpakbhklbdnaa
