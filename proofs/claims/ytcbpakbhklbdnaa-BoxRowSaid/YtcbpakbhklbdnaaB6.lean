/- Walks: the conversions between the reference's boxes and the program's. -/
import Derived.Test.YtcbpakbhklbdnaaB5
import Derived.Laws.Rows
import Derived.Laws.ResultCell
namespace Go.Proofs.Ytcbpakbhklbdnaa
open Go.ChangeShapes Go.WideShapes Go.ChangeAt Go.RowKit
set_option linter.unusedVariables false

theorem info53 : (Try.prog.info? 53).map (fun i => (i.zero, i.size, i.bytes)) = some (some (.agg #[.bool false, .bool false, .int .i64 0, .int .i64 0, .string ByteArray.empty, .string ByteArray.empty]), 6, 56) := by kernel_rfl

set_option maxHeartbeats 4000000 in
theorem own_any (t : Int) (ss : List PSide) (sv : Value) (w : World) (hs : SliceRep sideRep (Lt w.heap.size) w ss sv) (hsmall : ss.length ≤ 10000) :
    Calls Try.prog 12 #[.agg #[.int .i64 t, sv]] w fun e w' => (∃ v', e = .returned (.agg #[.int .i64 t, v']) ∧ SliceRep sideRep (Btw w.heap.size w'.heap.size) w' ss v') ∧ Below w.heap.size w w' := by
  obtain ⟨a, n, cap, rfl, HN, hcap, hcap2, hl⟩ := hs.opn
  have hn10 : n ≤ 10000 := by rw [← HN.out]; exact hsmall
  obtain ⟨i0, hi, hz0, hz1, hz2⟩ := info_parts info53
  have HS := Lib.hid hs; clear hs
  go_enter Try.func12, Try.ntmps12
  go_wp2
  obtain ⟨w0, H0⟩ : ∃ w0, Hid (w0 = ((w.alloc (Obj.cells #[Value.int IntKind.i64 t, Value.slice a n cap] 24)).alloc (Obj.cells #[Value.int IntKind.i64 0, Value.slice none 0 0] 33)).alloc (Obj.cells #[Value.int IntKind.i64 t, Value.slice none 0 0] 33)) := ⟨_, Lib.hid rfl⟩
  have hb0 : Below w.heap.size w w0 := by rw [H0.out]; exact (((Below.refl _ _).alloc (Nat.le_refl _) _).alloc (by simp) _).alloc (by simp; omega) _
  have hblk1 : w0.heap[w.heap.size + 1]? = some (.cells #[.int .i64 0, .slice none 0 0] 33 (0, 0)) := by
    rw [H0.out, Below.heap_alloc _ _ _ (by simp)]
    have := heap_alloc_new (w.alloc (Obj.cells #[Value.int IntKind.i64 t, Value.slice a n cap] 24)) (Obj.cells #[Value.int IntKind.i64 0, Value.slice none 0 0] 33)
    simpa using this
  have hblk2 : w0.heap[w.heap.size + 1 + 1]? = some (.cells #[.int .i64 t, .slice none 0 0] 33 (0, 0)) := by
    rw [H0.out]
    have := heap_alloc_new ((w.alloc (Obj.cells #[Value.int IntKind.i64 t, Value.slice a n cap] 24)).alloc (Obj.cells #[Value.int IntKind.i64 0, Value.slice none 0 0] 33)) (Obj.cells #[Value.int IntKind.i64 t, Value.slice none 0 0] 33)
    simpa using this
  have hz0' : w.heap.size + 3 ≤ w0.heap.size := by rw [H0.out]; simp
  rw [← H0.out]
  go_loopw [12] (fun i wr => ∃ (k : Nat) (va : Option Addr) (vc : Nat), k ≤ n ∧ i = .int .i64 k ∧ wr.heap[w.heap.size + 1]? = some (.cells #[.int .i64 0, .slice none 0 0] 33 (0, 0)) ∧ wr.heap[w.heap.size + 1 + 1]? = some (.cells #[.int .i64 t, .slice va k vc] 33 (0, 0)) ∧
      Below w.heap.size w wr ∧ w.heap.size + 3 ≤ wr.heap.size ∧ Owns sideRep (fun _ => False) wr (w.heap.size + 3) 53 (ss.take k) (.slice va k vc)) (fun i _ => n - (intOf i).toNat)
  case atStart => exact ⟨0, _, _, Nat.zero_le _, rfl, hblk1, hblk2, hb0, hz0', Owns.nil _ _ _ _ _⟩
  case round =>
    obtain ⟨k, va, vc, hk, rfl, hb1, hb2, hb, hsz, hown⟩ := hrel
    have hc1 := cell_blk hb2 1
    simp only [List.getElem?_toArray, List.getElem?_cons_succ, List.getElem?_cons_zero] at hc1
    have hf1 := free_blk hb2 1
    have HB1 := Lib.hid hb1; have HB2 := Lib.hid hb2; have HB := Lib.hid hb; have HO := Lib.hid hown
    have hlt1 := lt_blk hb1
    have hlt2 := lt_blk hb2
    clear hb1 hb2 hb hown
    by_cases hlt : k < n
    · have hks : k < ss.length := by rw [HN.out]; exact hlt
      obtain ⟨b, off, rfl, hbb, hwf, c0, c1, c2, c3, c4, c5⟩ := (HS.out.below HB.out).side k hks
      have HT : Hid (ss.take (k + 1) = ss.take k ++ [ss[k]]) := Lib.hid (List.take_succ_eq_append_getElem hks)
      have HL : Hid ((ss.take k).length = k) := Lib.hid (by simp; omega)
      generalize ss[k] = s at *
      have HW := Lib.hid hwf; clear hwf
      have hbb' : b < wr.heap.size := Nat.lt_of_lt_of_le hbb HB.out.size
      obtain ⟨ls, hll, hr, hown⟩ := HO.out
      rw [HL.out] at hown hll
      have HLL := Lib.hid hll; have HR := Lib.hid hr; clear hll hr
      go_wp2_with (at_builtin; refine wpList_append_own _ rfl _ _ 31 rfl (w.heap.size + 3) 53 i0 _ 6 56 Try.underlying31 hi hz0 hz1 hz2 rfl (by decide) _ _ _ rfl ((hown.alloc _).alloc _) ⟨wr.heap.size + 1, 0, none⟩ 1 1 (PSide.cells s) rfl rfl ?c1 ?c2 ?c3 ?c4 ?c5 ?_)
      case c1 =>
        intro j u hj
        simp only [PSide.cells] at hj
        match j, hj with
        | 0, hj => simp at hj; subst hj; simp [Addr.add]
        | 1, hj => simp at hj; subst hj; simp [Addr.add]
        | 2, hj => simp at hj; subst hj; simp [Addr.add]
        | 3, hj => simp at hj; subst hj; simp [Addr.add]
        | 4, hj => simp at hj; subst hj; simp [Addr.add]
        | 5, hj => simp at hj; subst hj; simp [Addr.add]
      case c2 => intro u hu; simp [PSide.cells] at hu; rcases hu with rfl | rfl | rfl | rfl | rfl | rfl <;> rfl
      case c3 => unfold maxLen; omega
      case c4 => omega
      case c5 => simp; omega
      intro v' w1 hown' hgrow _
      have hne : some (w.heap.size + 1 + 1) ≠ (Value.slice va k vc).ownBlock := fun e => by have := (hown.lt _ e.symm).1; omega
      have hne1 : some (w.heap.size + 1) ≠ (Value.slice va k vc).ownBlock := fun e => by have := (hown.lt _ e.symm).1; omega
      have hbw : Below w.heap.size w w1 := ((HB.out.alloc (by omega) _).alloc (by simp; omega) _).grown hgrow (by simp; omega) (fun q hq => by have := (hown.lt q hq).1; omega)
      have hk2 : w1.heap[w.heap.size + 1 + 1]? = some (.cells #[.int .i64 t, .slice va k vc] 33 (0, 0)) := by
        rw [hgrow.block _ (by simp; omega) hne, Below.heap_alloc _ _ _ (by simp; omega), Below.heap_alloc _ _ _ (by omega)]; exact HB2.out
      have hk1 : w1.heap[w.heap.size + 1]? = some (.cells #[.int .i64 0, .slice none 0 0] 33 (0, 0)) := by
        rw [hgrow.block _ (by simp; omega) hne1, Below.heap_alloc _ _ _ (by simp; omega), Below.heap_alloc _ _ _ (by omega)]; exact HB1.out
      have hsz1 : w.heap.size + 3 ≤ w1.heap.size := by have := hgrow.size; simp at this; omega
      have hpush : Owns sideRep (fun _ => False) w1 (w.heap.size + 3) 53 (ss.take k ++ [s]) v' :=
        Owns.push (S := fun _ => False) (w := wr) (ls := ls) (by rw [HLL.out, HL.out]) HR.out ⟨rfl, HW.out⟩ (fun _ h => h.elim) (fun _ h => h.elim) (by rw [HL.out]; exact hown')
      rw [← HT.out] at hpush
      have hd1 := cell_blk hk2 1
      simp only [List.getElem?_toArray, List.getElem?_cons_succ, List.getElem?_cons_zero] at hd1
      have hdf := free_blk hk2 1
      obtain ⟨va', vc', hv'⟩ := hpush.len
      have hlk : (ss.take (k + 1)).length = k + 1 := by simp; have := HN.out; omega
      rw [hlk] at hv'
      subst hv'
      clear hlk
      have HP := Lib.hid hpush; have HBW := Lib.hid hbw; have HK1 := Lib.hid hk1; have HK2 := Lib.hid hk2
      clear hown' hgrow hown hpush hbw hk1 hk2 hc1 hf1 c0 c1 c2 c3 c4 c5 hbb hbb'
      go_wp2
      go_roundw
      case rel =>
        refine ⟨k + 1, va', vc', by omega, by go_num, ?_, ?_, HBW.out.setCell (by simp; omega) _, by simp; omega, ?_⟩
        · rw [heap_setCell_other _ _ _ _ (by simp)]; exact HK1.out
        · rw [heap_setCell_same _ _ _ _ _ _ HK2.out]; rfl
        · refine HP.out.ext (fun _ h => h.elim) (fun q hq => ?_)
          have := (HP.out.lt q hq).1
          rw [heap_setCell_other _ _ _ _ (by simp; omega)]
      case measure => simp [intOf]; omega
    · have hke : k = n := by omega
      have hOs : Owns sideRep (fun _ => False) wr (w.heap.size + 3) 53 ss (.slice va k vc) := by
        have : ss.take k = ss := List.take_of_length_le (by rw [HN.out]; omega)
        rw [← this]; exact HO.out
      have HOS := Lib.hid hOs
      clear hOs hke
      have hd0 := cell_blk HB2.out 0
      have he0 := cell_blk HB1.out 0
      have he1 := cell_blk HB1.out 1
      have hg0 := free_blk HB1.out 0
      have hg1 := free_blk HB1.out 1
      simp only [List.getElem?_toArray, List.getElem?_cons_succ, List.getElem?_cons_zero] at hd0 he0 he1
      go_wp2
      have hs0 : w.heap.size + 3 ≤ wr.heap.size := hsz
      have hfin : (wr.setCell { block := w.heap.size + 1, off := 0 } (Value.int IntKind.i64 t)).heap[w.heap.size + 1]? = some (.cells #[.int .i64 t, .slice none 0 0] 33 (0, 0)) := by
        rw [heap_setCell_same _ _ _ _ _ _ HB1.out]; rfl
      refine bodyPost_ret (v := .agg #[.int .i64 t, .slice va k vc]) ?_ rfl ⟨⟨_, rfl, ?_⟩, (HB.out.setCell (by simp) _).setCell (by simp) _⟩
      · have h2 : ((wr.setCell { block := w.heap.size + 1, off := 0 } (Value.int IntKind.i64 t)).setCell { block := w.heap.size + 1, off := 1 } (Value.slice va k vc)).heap[w.heap.size + 1]? = some (.cells #[.int .i64 t, .slice va k vc] 33 (0, 0)) := by
          rw [heap_setCell_same _ _ _ _ _ _ hfin]; rfl
        exact results_cell_row rfl _ _ _ 33 _ (0, 0) _ rfl h2 Try.underlying33 rfl (by kernel_rfl)
      · refine SliceRep.mono (S := fun q => q < wr.heap.size ∧ w.heap.size + 3 ≤ q) (fun q hq => ⟨by have := hq.2; omega, by simp; exact hq.1⟩) ?_
        refine SliceRep.ext (w := wr) (fun q hq => ?_) (HOS.out.slice (by omega) (fun _ h => h.elim) (fun q hq => ⟨(HOS.out.lt q hq).2, (HOS.out.lt q hq).1⟩))
        rw [heap_setCell_other _ _ _ _ (by simp; omega), heap_setCell_other _ _ _ _ (by simp; omega)]

theorem info51 : (Try.prog.info? 51).map (fun i => (i.zero, i.size, i.bytes)) = some (some (.agg #[.bool false, .bool false, .int .i64 0, .int .i64 0, .string ByteArray.empty, .string ByteArray.empty]), 6, 56) := by kernel_rfl

set_option maxHeartbeats 4000000 in
theorem back_any (t : Int) (ss : List PSide) (sv : Value) (w : World) (hs : SliceRep sideRep (Lt w.heap.size) w ss sv) (hsmall : ss.length ≤ 10000) :
    Calls Try.prog 19 #[.agg #[.int .i64 t, sv]] w fun e w' => (∃ v', e = .returned (.agg #[.int .i64 t, v']) ∧ SliceRep sideRep (Btw w.heap.size w'.heap.size) w' ss v') ∧ Below w.heap.size w w' := by
  obtain ⟨a, n, cap, rfl, HN, hcap, hcap2, hl⟩ := hs.opn
  have hn10 : n ≤ 10000 := by rw [← HN.out]; exact hsmall
  obtain ⟨i0, hi, hz0, hz1, hz2⟩ := info_parts info51
  have HS := Lib.hid hs; clear hs
  go_enter Try.func19, Try.ntmps19
  go_wp2
  obtain ⟨w0, H0⟩ : ∃ w0, Hid (w0 = ((w.alloc (Obj.cells #[Value.int IntKind.i64 t, Value.slice a n cap] 33)).alloc (Obj.cells #[Value.int IntKind.i64 0, Value.slice none 0 0] 24)).alloc (Obj.cells #[Value.int IntKind.i64 t, Value.slice none 0 0] 24)) := ⟨_, Lib.hid rfl⟩
  have hb0 : Below w.heap.size w w0 := by rw [H0.out]; exact (((Below.refl _ _).alloc (Nat.le_refl _) _).alloc (by simp) _).alloc (by simp; omega) _
  have hblk1 : w0.heap[w.heap.size + 1]? = some (.cells #[.int .i64 0, .slice none 0 0] 24 (0, 0)) := by
    rw [H0.out, Below.heap_alloc _ _ _ (by simp)]
    have := heap_alloc_new (w.alloc (Obj.cells #[Value.int IntKind.i64 t, Value.slice a n cap] 33)) (Obj.cells #[Value.int IntKind.i64 0, Value.slice none 0 0] 24)
    simpa using this
  have hblk2 : w0.heap[w.heap.size + 1 + 1]? = some (.cells #[.int .i64 t, .slice none 0 0] 24 (0, 0)) := by
    rw [H0.out]
    have := heap_alloc_new ((w.alloc (Obj.cells #[Value.int IntKind.i64 t, Value.slice a n cap] 33)).alloc (Obj.cells #[Value.int IntKind.i64 0, Value.slice none 0 0] 24)) (Obj.cells #[Value.int IntKind.i64 t, Value.slice none 0 0] 24)
    simpa using this
  have hz0' : w.heap.size + 3 ≤ w0.heap.size := by rw [H0.out]; simp
  rw [← H0.out]
  go_loopw [12] (fun i wr => ∃ (k : Nat) (va : Option Addr) (vc : Nat), k ≤ n ∧ i = .int .i64 k ∧ wr.heap[w.heap.size + 1]? = some (.cells #[.int .i64 0, .slice none 0 0] 24 (0, 0)) ∧ wr.heap[w.heap.size + 1 + 1]? = some (.cells #[.int .i64 t, .slice va k vc] 24 (0, 0)) ∧
      Below w.heap.size w wr ∧ w.heap.size + 3 ≤ wr.heap.size ∧ Owns sideRep (fun _ => False) wr (w.heap.size + 3) 51 (ss.take k) (.slice va k vc)) (fun i _ => n - (intOf i).toNat)
  case atStart => exact ⟨0, _, _, Nat.zero_le _, rfl, hblk1, hblk2, hb0, hz0', Owns.nil _ _ _ _ _⟩
  case round =>
    obtain ⟨k, va, vc, hk, rfl, hb1, hb2, hb, hsz, hown⟩ := hrel
    have hc1 := cell_blk hb2 1
    simp only [List.getElem?_toArray, List.getElem?_cons_succ, List.getElem?_cons_zero] at hc1
    have hf1 := free_blk hb2 1
    have HB1 := Lib.hid hb1; have HB2 := Lib.hid hb2; have HB := Lib.hid hb; have HO := Lib.hid hown
    have hlt1 := lt_blk hb1
    have hlt2 := lt_blk hb2
    clear hb1 hb2 hb hown
    by_cases hlt : k < n
    · have hks : k < ss.length := by rw [HN.out]; exact hlt
      obtain ⟨b, off, rfl, hbb, hwf, c0, c1, c2, c3, c4, c5⟩ := (HS.out.below HB.out).side k hks
      have HT : Hid (ss.take (k + 1) = ss.take k ++ [ss[k]]) := Lib.hid (List.take_succ_eq_append_getElem hks)
      have HL : Hid ((ss.take k).length = k) := Lib.hid (by simp; omega)
      generalize ss[k] = s at *
      have HW := Lib.hid hwf; clear hwf
      have hbb' : b < wr.heap.size := Nat.lt_of_lt_of_le hbb HB.out.size
      obtain ⟨ls, hll, hr, hown⟩ := HO.out
      rw [HL.out] at hown hll
      have HLL := Lib.hid hll; have HR := Lib.hid hr; clear hll hr
      go_wp2_with (at_builtin; refine wpList_append_own _ rfl _ _ 22 rfl (w.heap.size + 3) 51 i0 _ 6 56 Try.underlying22 hi hz0 hz1 hz2 rfl (by decide) _ _ _ rfl ((hown.alloc _).alloc _) ⟨wr.heap.size + 1, 0, none⟩ 1 1 (PSide.cells s) rfl rfl ?c1 ?c2 ?c3 ?c4 ?c5 ?_)
      case c1 =>
        intro j u hj
        simp only [PSide.cells] at hj
        match j, hj with
        | 0, hj => simp at hj; subst hj; simp [Addr.add]
        | 1, hj => simp at hj; subst hj; simp [Addr.add]
        | 2, hj => simp at hj; subst hj; simp [Addr.add]
        | 3, hj => simp at hj; subst hj; simp [Addr.add]
        | 4, hj => simp at hj; subst hj; simp [Addr.add]
        | 5, hj => simp at hj; subst hj; simp [Addr.add]
      case c2 => intro u hu; simp [PSide.cells] at hu; rcases hu with rfl | rfl | rfl | rfl | rfl | rfl <;> rfl
      case c3 => unfold maxLen; omega
      case c4 => omega
      case c5 => simp; omega
      intro v' w1 hown' hgrow _
      have hne : some (w.heap.size + 1 + 1) ≠ (Value.slice va k vc).ownBlock := fun e => by have := (hown.lt _ e.symm).1; omega
      have hne1 : some (w.heap.size + 1) ≠ (Value.slice va k vc).ownBlock := fun e => by have := (hown.lt _ e.symm).1; omega
      have hbw : Below w.heap.size w w1 := ((HB.out.alloc (by omega) _).alloc (by simp; omega) _).grown hgrow (by simp; omega) (fun q hq => by have := (hown.lt q hq).1; omega)
      have hk2 : w1.heap[w.heap.size + 1 + 1]? = some (.cells #[.int .i64 t, .slice va k vc] 24 (0, 0)) := by
        rw [hgrow.block _ (by simp; omega) hne, Below.heap_alloc _ _ _ (by simp; omega), Below.heap_alloc _ _ _ (by omega)]; exact HB2.out
      have hk1 : w1.heap[w.heap.size + 1]? = some (.cells #[.int .i64 0, .slice none 0 0] 24 (0, 0)) := by
        rw [hgrow.block _ (by simp; omega) hne1, Below.heap_alloc _ _ _ (by simp; omega), Below.heap_alloc _ _ _ (by omega)]; exact HB1.out
      have hsz1 : w.heap.size + 3 ≤ w1.heap.size := by have := hgrow.size; simp at this; omega
      have hpush : Owns sideRep (fun _ => False) w1 (w.heap.size + 3) 51 (ss.take k ++ [s]) v' :=
        Owns.push (S := fun _ => False) (w := wr) (ls := ls) (by rw [HLL.out, HL.out]) HR.out ⟨rfl, HW.out⟩ (fun _ h => h.elim) (fun _ h => h.elim) (by rw [HL.out]; exact hown')
      rw [← HT.out] at hpush
      have hd1 := cell_blk hk2 1
      simp only [List.getElem?_toArray, List.getElem?_cons_succ, List.getElem?_cons_zero] at hd1
      have hdf := free_blk hk2 1
      obtain ⟨va', vc', hv'⟩ := hpush.len
      have hlk : (ss.take (k + 1)).length = k + 1 := by simp; have := HN.out; omega
      rw [hlk] at hv'
      subst hv'
      clear hlk
      have HP := Lib.hid hpush; have HBW := Lib.hid hbw; have HK1 := Lib.hid hk1; have HK2 := Lib.hid hk2
      clear hown' hgrow hown hpush hbw hk1 hk2 hc1 hf1 c0 c1 c2 c3 c4 c5 hbb hbb'
      go_wp2
      go_roundw
      case rel =>
        refine ⟨k + 1, va', vc', by omega, by go_num, ?_, ?_, HBW.out.setCell (by simp; omega) _, by simp; omega, ?_⟩
        · rw [heap_setCell_other _ _ _ _ (by simp)]; exact HK1.out
        · rw [heap_setCell_same _ _ _ _ _ _ HK2.out]; rfl
        · refine HP.out.ext (fun _ h => h.elim) (fun q hq => ?_)
          have := (HP.out.lt q hq).1
          rw [heap_setCell_other _ _ _ _ (by simp; omega)]
      case measure => simp [intOf]; omega
    · have hke : k = n := by omega
      have hOs : Owns sideRep (fun _ => False) wr (w.heap.size + 3) 51 ss (.slice va k vc) := by
        have : ss.take k = ss := List.take_of_length_le (by rw [HN.out]; omega)
        rw [← this]; exact HO.out
      have HOS := Lib.hid hOs
      clear hOs hke
      have hd0 := cell_blk HB2.out 0
      have he0 := cell_blk HB1.out 0
      have he1 := cell_blk HB1.out 1
      have hg0 := free_blk HB1.out 0
      have hg1 := free_blk HB1.out 1
      simp only [List.getElem?_toArray, List.getElem?_cons_succ, List.getElem?_cons_zero] at hd0 he0 he1
      go_wp2
      have hs0 : w.heap.size + 3 ≤ wr.heap.size := hsz
      have hfin : (wr.setCell { block := w.heap.size + 1, off := 0 } (Value.int IntKind.i64 t)).heap[w.heap.size + 1]? = some (.cells #[.int .i64 t, .slice none 0 0] 24 (0, 0)) := by
        rw [heap_setCell_same _ _ _ _ _ _ HB1.out]; rfl
      refine bodyPost_ret (v := .agg #[.int .i64 t, .slice va k vc]) ?_ rfl ⟨⟨_, rfl, ?_⟩, (HB.out.setCell (by simp) _).setCell (by simp) _⟩
      · have h2 : ((wr.setCell { block := w.heap.size + 1, off := 0 } (Value.int IntKind.i64 t)).setCell { block := w.heap.size + 1, off := 1 } (Value.slice va k vc)).heap[w.heap.size + 1]? = some (.cells #[.int .i64 t, .slice va k vc] 24 (0, 0)) := by
          rw [heap_setCell_same _ _ _ _ _ _ hfin]; rfl
        exact results_cell_row rfl _ _ _ 24 _ (0, 0) _ rfl h2 Try.underlying24 rfl (by kernel_rfl)
      · refine SliceRep.mono (S := fun q => q < wr.heap.size ∧ w.heap.size + 3 ≤ q) (fun q hq => ⟨by have := hq.2; omega, by simp; exact hq.1⟩) ?_
        refine SliceRep.ext (w := wr) (fun q hq => ?_) (HOS.out.slice (by omega) (fun _ h => h.elim) (fun q hq => ⟨(HOS.out.lt q hq).2, (HOS.out.lt q hq).1⟩))
        rw [heap_setCell_other _ _ _ _ (by simp; omega), heap_setCell_other _ _ _ _ (by simp; omega)]
end Go.Proofs.Ytcbpakbhklbdnaa
