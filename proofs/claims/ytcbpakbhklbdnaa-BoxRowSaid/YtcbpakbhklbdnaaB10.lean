/- Walks: the hull of two boxes (the program's). -/
import Derived.Test.YtcbpakbhklbdnaaB10p
import Derived.Test.YtcbpakbhklbdnaaReg
namespace Go.Proofs.Ytcbpakbhklbdnaa
open Go.ChangeShapes Go.WideShapes Go.ChangeAt Go.RowKit
set_option linter.unusedVariables false
attribute [local go_sem] Lib.run_max_strs Lib.run_min_strs

set_option maxHeartbeats 30000000 in
set_option maxRecDepth 100000 in
theorem hull_core (t t2 : Int) (ss ts : List PSide) (sv tv : Value) (w : World) (hs : SliceRep sideRep (Lt w.heap.size) w ss sv) (ht : SliceRep sideRep (Lt w.heap.size) w ts tv) (hne : ss ≠ []) (hle : ts.length ≤ ss.length) (hsm : ss.length ≤ 10000) :
    Calls Try.prog 17 #[.agg #[.int .i64 t, sv], .agg #[.int .i64 t2, tv]] w fun e w' =>
      (∃ v', e = .returned (.agg #[.int .i64 t, v']) ∧ SliceRep sideRep (Btw w.heap.size w'.heap.size) w' ((List.range ss.length).map (hullAt ss ts ts.length)) v') ∧ Below w.heap.size w w' := by
  obtain ⟨a, n, cap, rfl, HN, hcap, hcap2, hl⟩ := hs.opn
  obtain ⟨a', n', cap', rfl, HN', hcap', hcap2', hl'⟩ := ht.opn
  obtain ⟨b, off, rfl, hb, hfl, hfc⟩ := hs.flat hne
  obtain ⟨i0, hi, hz0, hz1, hz2⟩ := info_parts info53
  have hn1 : 0 < n := by have := HN.out; have := List.length_pos_iff.2 hne; omega
  have hn2 : n' ≤ n := by have := HN.out; have := HN'.out; omega
  have hn3 : n ≤ 10000 := by have := HN.out; omega
  have h0' : ((n : Int) == 0) = false := beq_eq_false_iff_ne.2 (by omega)
  have hb' : b < w.heap.size := hb
  have HF := Lib.hid hfl; have HFC := Lib.hid hfc
  have HS := Lib.hid hs; have HT := Lib.hid ht
  clear hs ht hfl hfc hle hsm hb
  go_enter Try.func17, Try.ntmps17
  go_upto_region 3 with (fail)
  obtain ⟨w0, H0⟩ : ∃ w0, Hid (w0 = ((w.alloc (Obj.cells #[Value.int IntKind.i64 t, Value.slice (some ⟨b, off, none⟩) n cap] 33)).alloc (Obj.cells #[Value.int IntKind.i64 t2, Value.slice a' n' cap'] 33)).alloc (Obj.cells #[Value.int IntKind.i64 0, Value.slice none 0 0] 33)) := ⟨_, Lib.hid rfl⟩
  have hb0 : Below w.heap.size w w0 := by rw [H0.out]; exact (((Below.refl _ _).alloc (Nat.le_refl _) _).alloc (by simp) _).alloc (by simp; omega) _
  have hc00 : w0.cell? ⟨w.heap.size, 0, none⟩ = some (.int .i64 t) := by
    rw [H0.out, World.cell?_alloc_past _ _ _ (by simp; omega), World.cell?_alloc_past _ _ _ (by simp), World.cell?_alloc_at _ _ _ _ rfl]; rfl
  have hc01 : w0.cell? ⟨w.heap.size, 1, none⟩ = some (Value.slice (some ⟨b, off, none⟩) n cap) := by
    rw [H0.out, World.cell?_alloc_past _ _ _ (by simp; omega), World.cell?_alloc_past _ _ _ (by simp), World.cell?_alloc_at _ _ _ _ rfl]; rfl
  have hz0 : w.heap.size + 3 = w0.heap.size := by rw [H0.out]; simp
  have HZ0 := Lib.hid hz0
  have hlt0 : w.heap.size < w0.heap.size := by omega
  have hle0 : w.heap.size + 3 ≤ w0.heap.size := by omega
  clear hz0
  rw [← H0.out]
  go_cut [5] (fun s5 wx => ∃ p g c cur, s5 = .pointer (some ⟨p, 0, none⟩) ∧ Copied w w0 wx t n (ss.flatMap PSide.cells) p g c cur)
  case first =>
    go_region_law (refine step_append_grows rfl (.const (.slice none 0 0)) (.tmp 18) 31 rfl 53 i0 _ 6 56 Try.underlying31 hi hz0 hz1 hz2 rfl (by decide) none 0 0 [] rfl (fun _ => ⟨rfl, rfl⟩) rfl (by intro _ h; cases h) ⟨b, off, none⟩ n cap (ss.flatMap PSide.cells) rfl (by rw [HF.out, HN.out]) (cells_below HFC.out (by repeat (first | exact hb0 | refine Below.drew ?_ | refine Below.alloc ?_ (by first | omega | (simp; omega)) _))) cells_one (by omega) (by unfold maxLen; omega) (by omega) ?_; intro v' w' hown hgrow; simp only [List.nil_append, Nat.zero_add] at hown; rcases hown.2 with hh | ⟨g, c, cur, rfl, hg, hblk, hnc, hcm, hcs, hxs⟩; (exact absurd hh.2 (by omega)); have hbx : Below (w.heap.size + 3) w0 w' := (Below.grown (by repeat (first | exact Below.refl _ _ | refine Below.drew ?_ | refine Below.alloc ?_ (by first | omega | (simp; omega)) _)) hgrow (by first | omega | (simp; omega)) (fun _ h => by cases h)); have hx0 := (hbx.cell (p := ⟨w.heap.size, 0, none⟩) (by simp)).trans hc00; have hx1 := (hbx.cell (p := ⟨w.heap.size, 1, none⟩) (by simp)).trans hc01; have hzx : w.heap.size < w'.heap.size := Nat.lt_of_lt_of_le hlt0 hbx.size; have hzy : w0.heap.size ≤ w'.heap.size := hbx.size; (first | (have hpb : w'.heap[w0.heap.size]? = some (.cells #[.int .i64 0, .slice none 0 0] 33 (0, 0)) := (hgrow.block w0.heap.size (by simp) (by intro h; cases h)).trans (heap_alloc_new w0 (.cells #[.int .i64 0, .slice none 0 0] 33)); have hp0 := cell_blk hpb 0; have hp1 := cell_blk hpb 1; have hpf0 := free_blk hpb 0; have hpf1 := free_blk hpb 1; simp only [List.getElem?_toArray, List.getElem?_cons_succ, List.getElem?_cons_zero] at hp0 hp1; have HPB := Lib.hid hpb; clear hpb) | skip); have HBX := Lib.hid hbx; have HBK := Lib.hid hblk; have HGR := Lib.hid hgrow; have HCS := Lib.hid hcs; have HXS := Lib.hid hxs; clear hown hbx hblk hgrow hcs hxs)
    all_goals
      go_wp2_with fail
      go_meet
      have hg' : w0.heap.size ≤ g := by first | exact hg | (simp at hg; omega)
      first
        | (refine ⟨_, g, c, cur, rfl, ?_⟩
           repeat (first | exact copiedA HBX.out hle0 hg' HBK.out HCS.out HXS.out hnc hcm | refine Copied.drew ?_)
           done)
        | (refine ⟨_, g, c, cur, rfl, ?_⟩
           repeat (first | exact copiedB HBX.out hle0 (by simpa using hg) HBK.out HPB.out HCS.out HXS.out hnc hcm | refine Copied.drew ?_))
  case rest =>
    obtain ⟨p, g, c, cur, rfl, hcp⟩ := hcut
    rename World => wb
    obtain ⟨hB, hp3, hg3, hpg, hkp, hkg, hx, hcs, hnc, hcm⟩ := hcp
    have hv1 : wb.cell? ⟨w.heap.size + 1, 1, none⟩ = some (Value.slice a' n' cap') := by
      rw [hB.cell (by simp), H0.out, World.cell?_alloc_past _ _ _ (by simp), World.cell?_alloc_at _ _ _ _ (by simp)]; rfl
    have hk2 : wb.heap[w.heap.size + 1 + 1]? = some (.cells #[.int .i64 0, .slice none 0 0] 33 (0, 0)) := by
      rw [hB.block _ (by omega), H0.out]
      have := heap_alloc_new ((w.alloc (Obj.cells #[Value.int IntKind.i64 t, Value.slice (some ⟨b, off, none⟩) n cap] 33)).alloc (Obj.cells #[Value.int IntKind.i64 t2, Value.slice a' n' cap'] 33)) (Obj.cells #[Value.int IntKind.i64 0, Value.slice none 0 0] 33)
      simpa using this
    have hbw : Below w.heap.size w wb := hb0.trans (hB.mono (by omega))
    have hcs2 : wb.heap.size ≥ w.heap.size + 3 := by have := hB.size; omega
    have HB := Lib.hid hbw; have HKP := Lib.hid hkp; have HKG := Lib.hid hkg; have HX := Lib.hid hx; have HCS := Lib.hid hcs; have HK2 := Lib.hid hk2; have HPG := Lib.hid hpg
    clear hB hkp hkg hx hcs hk2 hbw hpg
    go_wp2
    go_loopw [24] (fun i wr => ∃ (k : Nat), k ≤ n' ∧ i = .int .i64 k ∧ HullInv w wb wr t n c p g ss ts k) (fun i _ => n' - (intOf i).toNat)
    case atStart => exact ⟨0, Nat.zero_le _, rfl, HB.out, Nat.le_refl _, HKP.out, HK2.out, cur, HKG.out, HCS.out, hulled_start HN.out HX.out⟩
    case round =>
      obtain ⟨k, hk, rfl, hinv⟩ := hrel
      obtain ⟨hbw, hsz, hkp, hk2, cur', hkg, hcs', hhu⟩ := hinv
      have HI : Hid (HullInv w wb wr t n c p g ss ts k) := Lib.hid ⟨hbw, hsz, hkp, hk2, cur', hkg, hcs', hhu⟩
      have hp1 := cell_blk hkp 1
      simp only [List.getElem?_toArray, List.getElem?_cons_succ, List.getElem?_cons_zero] at hp1
      have hlp := lt_blk hkp
      have hlg := lt_blk hkg
      by_cases hlt : k < n'
      · have hks : k < ss.length := by rw [HN.out]; omega
        have hkt : k < ts.length := by rw [HN'.out]; exact hlt
        have hkn : k < n := by omega
        obtain ⟨b', off', rfl, hb1', hwf', d0, d1, d2, d3, d4, d5⟩ := (HT.out.below hbw).side k hkt
        have hhk := hhu k hkn
        have e1 : hullAt ss ts k k = ss[k] := by simp [hullAt, List.getD, hks]
        rw [e1] at hhk
        have hq : ∀ j, j < 6 → wr.cell? ⟨g, k * 6 + j, none⟩ = (ss[k].cells)[j]? := fun j hj => (cell_blk hkg (k * 6 + j)).trans (hhk j hj)
        have q0 := hq 0 (by omega)
        have q1 := hq 1 (by omega)
        have q2 := hq 2 (by omega)
        have q3 := hq 3 (by omega)
        have q4 := hq 4 (by omega)
        have q5 := hq 5 (by omega)
        simp only [PSide.cells, Nat.add_zero, List.getElem?_cons_succ, List.getElem?_cons_zero] at q0 q1 q2 q3 q4 q5
        have f0 := free_blk hkg (k * 6)
        have f1 := free_blk hkg (k * 6 + 1)
        have f2 := free_blk hkg (k * 6 + 2)
        have f3 := free_blk hkg (k * 6 + 3)
        have f4 := free_blk hkg (k * 6 + 4)
        have f5 := free_blk hkg (k * 6 + 5)
        have HNX : Hid (∀ (l : List (Nat × Value)) (o : Obj), (∀ q ∈ l, k * 6 ≤ q.1 ∧ q.1 < k * 6 + 6) → (∀ cur' : Array Value, cur'.size = c * 6 → (∀ j, j < 6 → cur'[k * 6 + j]? = ss[k].cells[j]?) → ∀ j, j < 6 → (updAll cur' l)[k * 6 + j]? = (sideHull ss[k] ts[k]).cells[j]?) → HullInv w wb ((SetAll wr g l).alloc o) t n c p g ss ts (k + 1)) :=
          Lib.hid (fun l o h1 h2 => HI.out.next l o hkn hks hkt hg3 HPG.out hnc h1 h2)
        have HNX2 : Hid (∀ (l m : List (Nat × Value)) (o : Obj), (∀ q ∈ l ++ m, k * 6 ≤ q.1 ∧ q.1 < k * 6 + 6) → (∀ cur' : Array Value, cur'.size = c * 6 → (∀ j, j < 6 → cur'[k * 6 + j]? = ss[k].cells[j]?) → ∀ j, j < 6 → (updAll cur' (l ++ m))[k * 6 + j]? = (sideHull ss[k] ts[k]).cells[j]?) → HullInv w wb (SetAll ((SetAll wr g l).alloc o) g m) t n c p g ss ts (k + 1)) :=
          Lib.hid (fun l m o h1 h2 => HI.out.next2 l m o hkn hks hkt hg3 HPG.out hnc h1 h2)
        have HKG2 := Lib.hid hkg
        generalize ss[k] = x at *
        generalize ts[k] = y at *
        have hlt2 : b' < wr.heap.size := Nat.lt_of_lt_of_le hb1' hbw.size
        have hlb := lt_blk hk2
        clear hbw hkp hkg hk2 hcs' hhu hhk hq hb1' hwf' e1
        have hkz : w.heap.size + 3 ≤ wr.heap.size := by omega
        go_upto_region 8 with (fail)
        go_cut [41] (fun s41 wy => wy = (wr.setCell ⟨g, k * 6, none⟩ (.bool (x.null || y.null))).alloc (.cells #[.bool y.null, .bool y.other, .int .i64 y.low, .int .i64 y.high, .string y.frm, .string y.to] 53))
        case first =>
          cases hxn : x.null
          all_goals
            go_wp2_with fail
            go_meet
            rw [hxn]; rfl
        case rest =>
        rename World => wq
        have HQ := Lib.hid hcut
        clear hcut
        have HNXQ : Hid (∀ m : List (Nat × Value), (∀ q ∈ m, k * 6 ≤ q.1 ∧ q.1 < k * 6 + 6) → (∀ cur' : Array Value, cur'.size = c * 6 → (∀ j, j < 6 → cur'[k * 6 + j]? = x.cells[j]?) → ∀ j, j < 6 → (updAll cur' ((k * 6, .bool (x.null || y.null)) :: m))[k * 6 + j]? = (sideHull x y).cells[j]?) → HullInv w wb (SetAll wq g m) t n c p g ss ts (k + 1)) := by
          refine Lib.hid (fun m h1 h2 => ?_)
          rw [HQ.out]
          refine HNX2.out [(k * 6, .bool (x.null || y.null))] m (.cells #[.bool y.null, .bool y.other, .int .i64 y.low, .int .i64 y.high, .string y.frm, .string y.to] 53) (fun q hq => ?_) h2
          rcases List.mem_cons.1 hq with rfl | hq
          · exact ⟨Nat.le_refl _, by simp only; omega⟩
          · exact h1 q hq
        have hkq : wq.heap[g]? = some (.cells (cur'.setIfInBounds (k * 6) (.bool (x.null || y.null))) 53 (0, 0)) := by
          rw [HQ.out, Below.heap_alloc _ _ _ (by simpa using hlg)]; exact heap_setCell_same _ _ _ _ _ _ HKG2.out
        have hqq : ∀ j u, j ≠ 0 → wr.cell? ⟨g, k * 6 + j, none⟩ = some u → wq.cell? ⟨g, k * 6 + j, none⟩ = some u := by
          intro j u hj hu
          rw [cell_blk hkq, Array.getElem?_setIfInBounds, if_neg (by omega), ← cell_blk HKG2.out]; exact hu
        have r1 := hqq 1 _ (by omega) q1
        have r2 := hqq 2 _ (by omega) q2
        have r3 := hqq 3 _ (by omega) q3
        have r4 := hqq 4 _ (by omega) q4
        have r5 := hqq 5 _ (by omega) q5
        clear q0 q1 q2 q3 q4 q5 f0 f1 f2 f3 f4 f5 d0 d1 d2 d3 d4 d5
        have f1 := free_blk hkq (k * 6 + 1)
        have f2 := free_blk hkq (k * 6 + 2)
        have f3 := free_blk hkq (k * 6 + 3)
        have f4 := free_blk hkq (k * 6 + 4)
        have f5 := free_blk hkq (k * 6 + 5)
        have hsq : ∀ j, wq.cell? ⟨wr.heap.size, j, none⟩ = (#[.bool y.null, .bool y.other, .int .i64 y.low, .int .i64 y.high, .string y.frm, .string y.to] : Array Value)[j]? := by
          intro j
          rw [HQ.out, World.cell?_alloc_at _ _ _ _ (by simp)]
        have s1 : wq.cell? ⟨wr.heap.size, 1, none⟩ = some (.bool y.other) := hsq 1
        have s2 : wq.cell? ⟨wr.heap.size, 2, none⟩ = some (.int .i64 y.low) := hsq 2
        have s3 : wq.cell? ⟨wr.heap.size, 3, none⟩ = some (.int .i64 y.high) := hsq 3
        have s4 : wq.cell? ⟨wr.heap.size, 4, none⟩ = some (.string y.frm) := hsq 4
        have s5 : wq.cell? ⟨wr.heap.size, 5, none⟩ = some (.string y.to) := hsq 5
        clear hp1 hc00 hc01 hqq hsq
        have HKQ := Lib.hid hkq; clear hkq
        have hgw : g ≠ wr.heap.size := by omega
        have hgw' : wr.heap.size ≠ g := by omega
        cases hy : y.other
        · have HY := Lib.hid hy
          go_wp2
          have hfin := HNXQ.out [] (by simp) (fun cur' a1 a2 => upd1 x y k c n hkn hnc HY.out cur' a1 a2)
          simp only [SetAll] at hfin
          have HF9 := Lib.hid hfin
          clear hfin
          go_roundw
          case rel => exact ⟨k + 1, by omega, by go_num, by first | (with_reducible exact HF9.out) | (with_reducible exact HF9.out.drew) | (with_reducible exact HF9.out.drew.drew)⟩
          case measure => simp [intOf]; omega
        · have HY := Lib.hid hy
          cases hxo : x.other
          · have HXO := Lib.hid hxo
            go_wp2
            go_region
            all_goals
              go_wp2
              have hfin := HNXQ.out [(k * 6 + 1, .bool true), (k * 6 + 2, .int .i64 y.low), (k * 6 + 3, .int .i64 y.high), (k * 6 + 4, .string y.frm), (k * 6 + 5, .string y.to)] (by simp) (fun cur' a1 a2 => upd6 x y k c n hkn hnc HY.out HXO.out cur' a1 a2)
              simp only [SetAll] at hfin
              have HF9 := Lib.hid hfin
              clear hfin
              go_roundw
              case rel => exact ⟨k + 1, by omega, by go_num, by first | (with_reducible exact HF9.out) | (with_reducible exact HF9.out.drew) | (with_reducible exact HF9.out.drew.drew)⟩
              case measure => simp [intOf]; omega
          · have HXO := Lib.hid hxo
            go_wp2
            refine region_states (W := fun f => if f 43 then ((((wq.drew.setCell ⟨g, k * 6 + 2, none⟩ (.int .i64 (min x.low y.low))).setCell ⟨g, k * 6 + 3, none⟩ (.int .i64 (max x.high y.high))).setCell ⟨g, k * 6 + 4, none⟩ (.string (Lib.minS x.frm y.frm))).setCell ⟨g, k * 6 + 5, none⟩ (.string (Lib.maxS x.to y.to))) else if f 40 then (((wq.drew.setCell ⟨g, k * 6 + 2, none⟩ (.int .i64 (min x.low y.low))).setCell ⟨g, k * 6 + 3, none⟩ (.int .i64 (max x.high y.high))).setCell ⟨g, k * 6 + 4, none⟩ (.string (Lib.minS x.frm y.frm))) else if f 37 then ((wq.drew.setCell ⟨g, k * 6 + 2, none⟩ (.int .i64 (min x.low y.low))).setCell ⟨g, k * 6 + 3, none⟩ (.int .i64 (max x.high y.high))) else if f 34 then (wq.drew.setCell ⟨g, k * 6 + 2, none⟩ (.int .i64 (min x.low y.low))) else wq.drew)
              (V := fun j => ([.pointer (some ⟨g, k * 6, none⟩), .pointer (some ⟨g, k * 6, none⟩), .pointer (some ⟨g, k * 6, none⟩), .pointer (some ⟨g, k * 6, none⟩), .pointer (some ⟨g, k * 6, none⟩), .pointer (some ⟨g, k * 6, none⟩), .pointer (some ⟨g, k * 6 + 2, none⟩), .int .i64 x.low, .pointer (some ⟨wr.heap.size, 2, none⟩), .int .i64 y.low, .int .i64 (min x.low y.low), .pointer (some ⟨g, k * 6, none⟩), .pointer (some ⟨g, k * 6, none⟩), .pointer (some ⟨g, k * 6 + 3, none⟩), .int .i64 x.high, .pointer (some ⟨wr.heap.size, 3, none⟩), .int .i64 y.high, .int .i64 (max x.high y.high), .pointer (some ⟨g, k * 6, none⟩), .pointer (some ⟨g, k * 6, none⟩), .pointer (some ⟨g, k * 6 + 4, none⟩), .string x.frm, .pointer (some ⟨wr.heap.size, 4, none⟩), .string y.frm, .string (Lib.minS x.frm y.frm), .pointer (some ⟨g, k * 6, none⟩), .pointer (some ⟨g, k * 6, none⟩), .pointer (some ⟨g, k * 6 + 5, none⟩), .string x.to, .pointer (some ⟨wr.heap.size, 5, none⟩), .string y.to, .string (Lib.maxS x.to y.to), .pointer (some ⟨g, k * 6, none⟩), .pointer (some ⟨g, k * 6 + 2, none⟩), undef, .pointer (some ⟨g, k * 6, none⟩), .pointer (some ⟨g, k * 6 + 3, none⟩), undef, .pointer (some ⟨g, k * 6, none⟩), .pointer (some ⟨g, k * 6 + 4, none⟩), undef, .pointer (some ⟨g, k * 6, none⟩), .pointer (some ⟨g, k * 6 + 5, none⟩), undef] : List Value).getD j undef) (by kernel_rfl) (by kernel_rfl) rfl ?_ ?_
            · intro i o ho f a hst hdf hfi hdeps
              have n1 := hst.needs 37 34 (by kernel_rfl)
              have n2 := hst.needs 40 37 (by kernel_rfl)
              have n3 := hst.needs 43 40 (by kernel_rfl)
              have m0 := hst.needs 34 7 (by kernel_rfl)
              have m1 := hst.needs 37 14 (by kernel_rfl)
              have m2 := hst.needs 40 21 (by kernel_rfl)
              have m3 := hst.needs 43 28 (by kernel_rfl)
              have e7 : a.tmps[7]? = some (.pointer (some ⟨wr.heap.size, 0, none⟩)) := hst.old 7 (old_slot (by kernel_rfl))
              have e8 : a.tmps[8]? = some (.pointer (some ⟨g, k * 6, none⟩)) := hst.old 8 (old_slot (by kernel_rfl))
              match i, ho, hfi, hdeps with
              | 0, ho, hfi, hdeps =>
                have ho' := Option.some.inj ho
                subst ho'
                clear hst n1 n2 n3 m0 m1 m2 m3 hdeps
                left
                refine ⟨44, rfl, ?_, by simp [seen]⟩
                go_simp
              | 1, ho, hfi, hdeps =>
                have ho' := Option.some.inj ho
                subst ho'
                simp [Region.binds] at hdeps
                clear hst n1 n2 n3 m0 m1 m2 m3 hdeps
                left
                refine ⟨45, rfl, ?_, by simp [seen]⟩
                go_simp
              | 2, ho, hfi, hdeps =>
                have ho' := Option.some.inj ho
                subst ho'
                simp [Region.binds] at hdeps
                clear hst n1 n2 n3 m0 m1 m2 m3 hdeps
                left
                refine ⟨46, rfl, ?_, by simp [seen]⟩
                go_simp
              | 3, ho, hfi, hdeps =>
                have ho' := Option.some.inj ho
                subst ho'
                simp [Region.binds] at hdeps
                clear hst n1 n2 n3 m0 m1 m2 m3 hdeps
                left
                refine ⟨47, rfl, ?_, by simp [seen]⟩
                go_simp
              | 4, ho, hfi, hdeps =>
                have ho' := Option.some.inj ho
                subst ho'
                clear hst n1 n2 n3 m0 m1 m2 m3 hdeps
                left
                refine ⟨48, rfl, ?_, by simp [seen]⟩
                go_simp
              | 5, ho, hfi, hdeps =>
                have ho' := Option.some.inj ho
                subst ho'
                simp [Region.binds] at hdeps
                have e48 : a.tmps[48]? = some (.pointer (some ⟨g, k * 6, none⟩)) := hst.has 4 _ 48 rfl (by first | exact hdeps | exact hdeps.1 | exact hdeps.2 | exact hdeps.2.1 | simp [hdeps]) rfl
                clear hst n1 n2 n3 m0 m1 m2 m3 hdeps
                left
                refine ⟨49, rfl, ?_, by simp [seen]⟩
                go_simp
              | 6, ho, hfi, hdeps =>
                have ho' := Option.some.inj ho
                subst ho'
                simp [Region.binds] at hdeps
                have e49 : a.tmps[49]? = some (.pointer (some ⟨g, k * 6, none⟩)) := hst.has 5 _ 49 rfl (by first | exact hdeps | exact hdeps.1 | exact hdeps.2 | exact hdeps.2.1 | simp [hdeps]) rfl
                clear hst n1 n2 n3 m0 m1 m2 m3 hdeps
                left
                refine ⟨50, rfl, ?_, by simp [seen]⟩
                go_simp
              | 7, ho, hfi, hdeps =>
                have ho' := Option.some.inj ho
                subst ho'
                simp [Region.binds] at hdeps
                have e50 : a.tmps[50]? = some (.pointer (some ⟨g, k * 6 + 2, none⟩)) := hst.has 6 _ 50 rfl (by first | exact hdeps | exact hdeps.1 | exact hdeps.2 | exact hdeps.2.1 | simp [hdeps]) rfl
                have z34 : f 34 = false := not_yet m0 hfi
                have z37 : f 37 = false := not_yet n1 z34
                have z40 : f 40 = false := not_yet n2 z37
                have z43 : f 43 = false := not_yet n3 z40
                clear hst hdeps n1 n2 n3 m0 m1 m2 m3
                left
                refine ⟨51, rfl, ?_, by simp [seen]⟩
                simp only [z34, z37, z40, z43]
                go_simp
              | 8, ho, hfi, hdeps =>
                have ho' := Option.some.inj ho
                subst ho'
                clear hst n1 n2 n3 m0 m1 m2 m3 hdeps
                left
                refine ⟨52, rfl, ?_, by simp [seen]⟩
                go_simp
              | 9, ho, hfi, hdeps =>
                have ho' := Option.some.inj ho
                subst ho'
                simp [Region.binds] at hdeps
                have e52 : a.tmps[52]? = some (.pointer (some ⟨wr.heap.size, 2, none⟩)) := hst.has 8 _ 52 rfl (by first | exact hdeps | exact hdeps.1 | exact hdeps.2 | exact hdeps.2.1 | simp [hdeps]) rfl
                clear hst hdeps n1 n2 n3 m0 m1 m2 m3
                left
                refine ⟨53, rfl, ?_, by simp [seen]⟩
                cases h34 : f 34 <;> cases h37 : f 37 <;> cases h40 : f 40 <;> cases h43 : f 43 <;> go_simp
              | 10, ho, hfi, hdeps =>
                have ho' := Option.some.inj ho
                subst ho'
                simp [Region.binds] at hdeps
                have e51 : a.tmps[51]? = some (.int .i64 x.low) := hst.has 7 _ 51 rfl (by first | exact hdeps | exact hdeps.1 | exact hdeps.2 | exact hdeps.2.1 | simp [hdeps]) rfl
                have e53 : a.tmps[53]? = some (.int .i64 y.low) := hst.has 9 _ 53 rfl (by first | exact hdeps | exact hdeps.1 | exact hdeps.2 | exact hdeps.2.1 | simp [hdeps]) rfl
                clear hst n1 n2 n3 m0 m1 m2 m3 hdeps
                left
                refine ⟨54, rfl, ?_, by simp [seen]⟩
                go_simp
              | 11, ho, hfi, hdeps =>
                have ho' := Option.some.inj ho
                subst ho'
                clear hst n1 n2 n3 m0 m1 m2 m3 hdeps
                left
                refine ⟨55, rfl, ?_, by simp [seen]⟩
                go_simp
              | 12, ho, hfi, hdeps =>
                have ho' := Option.some.inj ho
                subst ho'
                simp [Region.binds] at hdeps
                have e55 : a.tmps[55]? = some (.pointer (some ⟨g, k * 6, none⟩)) := hst.has 11 _ 55 rfl (by first | exact hdeps | exact hdeps.1 | exact hdeps.2 | exact hdeps.2.1 | simp [hdeps]) rfl
                clear hst n1 n2 n3 m0 m1 m2 m3 hdeps
                left
                refine ⟨56, rfl, ?_, by simp [seen]⟩
                go_simp
              | 13, ho, hfi, hdeps =>
                have ho' := Option.some.inj ho
                subst ho'
                simp [Region.binds] at hdeps
                have e56 : a.tmps[56]? = some (.pointer (some ⟨g, k * 6, none⟩)) := hst.has 12 _ 56 rfl (by first | exact hdeps | exact hdeps.1 | exact hdeps.2 | exact hdeps.2.1 | simp [hdeps]) rfl
                clear hst n1 n2 n3 m0 m1 m2 m3 hdeps
                left
                refine ⟨57, rfl, ?_, by simp [seen]⟩
                go_simp
              | 14, ho, hfi, hdeps =>
                have ho' := Option.some.inj ho
                subst ho'
                simp [Region.binds] at hdeps
                have e57 : a.tmps[57]? = some (.pointer (some ⟨g, k * 6 + 3, none⟩)) := hst.has 13 _ 57 rfl (by first | exact hdeps | exact hdeps.1 | exact hdeps.2 | exact hdeps.2.1 | simp [hdeps]) rfl
                have z37 : f 37 = false := not_yet m1 hfi
                have z40 : f 40 = false := not_yet n2 z37
                have z43 : f 43 = false := not_yet n3 z40
                clear hst hdeps n1 n2 n3 m0 m1 m2 m3
                left
                refine ⟨58, rfl, ?_, by simp [seen]⟩
                simp only [z37, z40, z43]
                cases h34 : f 34 <;> go_simp
              | 15, ho, hfi, hdeps =>
                have ho' := Option.some.inj ho
                subst ho'
                clear hst n1 n2 n3 m0 m1 m2 m3 hdeps
                left
                refine ⟨59, rfl, ?_, by simp [seen]⟩
                go_simp
              | 16, ho, hfi, hdeps =>
                have ho' := Option.some.inj ho
                subst ho'
                simp [Region.binds] at hdeps
                have e59 : a.tmps[59]? = some (.pointer (some ⟨wr.heap.size, 3, none⟩)) := hst.has 15 _ 59 rfl (by first | exact hdeps | exact hdeps.1 | exact hdeps.2 | exact hdeps.2.1 | simp [hdeps]) rfl
                clear hst hdeps n1 n2 n3 m0 m1 m2 m3
                left
                refine ⟨60, rfl, ?_, by simp [seen]⟩
                cases h34 : f 34 <;> cases h37 : f 37 <;> cases h40 : f 40 <;> cases h43 : f 43 <;> go_simp
              | 17, ho, hfi, hdeps =>
                have ho' := Option.some.inj ho
                subst ho'
                simp [Region.binds] at hdeps
                have e58 : a.tmps[58]? = some (.int .i64 x.high) := hst.has 14 _ 58 rfl (by first | exact hdeps | exact hdeps.1 | exact hdeps.2 | exact hdeps.2.1 | simp [hdeps]) rfl
                have e60 : a.tmps[60]? = some (.int .i64 y.high) := hst.has 16 _ 60 rfl (by first | exact hdeps | exact hdeps.1 | exact hdeps.2 | exact hdeps.2.1 | simp [hdeps]) rfl
                clear hst n1 n2 n3 m0 m1 m2 m3 hdeps
                left
                refine ⟨61, rfl, ?_, by simp [seen]⟩
                go_simp
              | 18, ho, hfi, hdeps =>
                have ho' := Option.some.inj ho
                subst ho'
                clear hst n1 n2 n3 m0 m1 m2 m3 hdeps
                left
                refine ⟨62, rfl, ?_, by simp [seen]⟩
                go_simp
              | 19, ho, hfi, hdeps =>
                have ho' := Option.some.inj ho
                subst ho'
                simp [Region.binds] at hdeps
                have e62 : a.tmps[62]? = some (.pointer (some ⟨g, k * 6, none⟩)) := hst.has 18 _ 62 rfl (by first | exact hdeps | exact hdeps.1 | exact hdeps.2 | exact hdeps.2.1 | simp [hdeps]) rfl
                clear hst n1 n2 n3 m0 m1 m2 m3 hdeps
                left
                refine ⟨63, rfl, ?_, by simp [seen]⟩
                go_simp
              | 20, ho, hfi, hdeps =>
                have ho' := Option.some.inj ho
                subst ho'
                simp [Region.binds] at hdeps
                have e63 : a.tmps[63]? = some (.pointer (some ⟨g, k * 6, none⟩)) := hst.has 19 _ 63 rfl (by first | exact hdeps | exact hdeps.1 | exact hdeps.2 | exact hdeps.2.1 | simp [hdeps]) rfl
                clear hst n1 n2 n3 m0 m1 m2 m3 hdeps
                left
                refine ⟨64, rfl, ?_, by simp [seen]⟩
                go_simp
              | 21, ho, hfi, hdeps =>
                have ho' := Option.some.inj ho
                subst ho'
                simp [Region.binds] at hdeps
                have e64 : a.tmps[64]? = some (.pointer (some ⟨g, k * 6 + 4, none⟩)) := hst.has 20 _ 64 rfl (by first | exact hdeps | exact hdeps.1 | exact hdeps.2 | exact hdeps.2.1 | simp [hdeps]) rfl
                have z40 : f 40 = false := not_yet m2 hfi
                have z43 : f 43 = false := not_yet n3 z40
                clear hst hdeps n1 n2 n3 m0 m1 m2 m3
                left
                refine ⟨65, rfl, ?_, by simp [seen]⟩
                simp only [z40, z43]
                cases h34 : f 34 <;> cases h37 : f 37 <;> go_simp
              | 22, ho, hfi, hdeps =>
                have ho' := Option.some.inj ho
                subst ho'
                clear hst n1 n2 n3 m0 m1 m2 m3 hdeps
                left
                refine ⟨66, rfl, ?_, by simp [seen]⟩
                go_simp
              | 23, ho, hfi, hdeps =>
                have ho' := Option.some.inj ho
                subst ho'
                simp [Region.binds] at hdeps
                have e66 : a.tmps[66]? = some (.pointer (some ⟨wr.heap.size, 4, none⟩)) := hst.has 22 _ 66 rfl (by first | exact hdeps | exact hdeps.1 | exact hdeps.2 | exact hdeps.2.1 | simp [hdeps]) rfl
                clear hst hdeps n1 n2 n3 m0 m1 m2 m3
                left
                refine ⟨67, rfl, ?_, by simp [seen]⟩
                cases h34 : f 34 <;> cases h37 : f 37 <;> cases h40 : f 40 <;> cases h43 : f 43 <;> go_simp
              | 24, ho, hfi, hdeps =>
                have ho' := Option.some.inj ho
                subst ho'
                simp [Region.binds] at hdeps
                have e65 : a.tmps[65]? = some (.string x.frm) := hst.has 21 _ 65 rfl (by first | exact hdeps | exact hdeps.1 | exact hdeps.2 | exact hdeps.2.1 | simp [hdeps]) rfl
                have e67 : a.tmps[67]? = some (.string y.frm) := hst.has 23 _ 67 rfl (by first | exact hdeps | exact hdeps.1 | exact hdeps.2 | exact hdeps.2.1 | simp [hdeps]) rfl
                clear hst n1 n2 n3 m0 m1 m2 m3 hdeps
                left
                refine ⟨68, rfl, ?_, by simp [seen]⟩
                go_simp
              | 25, ho, hfi, hdeps =>
                have ho' := Option.some.inj ho
                subst ho'
                clear hst n1 n2 n3 m0 m1 m2 m3 hdeps
                left
                refine ⟨69, rfl, ?_, by simp [seen]⟩
                go_simp
              | 26, ho, hfi, hdeps =>
                have ho' := Option.some.inj ho
                subst ho'
                simp [Region.binds] at hdeps
                have e69 : a.tmps[69]? = some (.pointer (some ⟨g, k * 6, none⟩)) := hst.has 25 _ 69 rfl (by first | exact hdeps | exact hdeps.1 | exact hdeps.2 | exact hdeps.2.1 | simp [hdeps]) rfl
                clear hst n1 n2 n3 m0 m1 m2 m3 hdeps
                left
                refine ⟨70, rfl, ?_, by simp [seen]⟩
                go_simp
              | 27, ho, hfi, hdeps =>
                have ho' := Option.some.inj ho
                subst ho'
                simp [Region.binds] at hdeps
                have e70 : a.tmps[70]? = some (.pointer (some ⟨g, k * 6, none⟩)) := hst.has 26 _ 70 rfl (by first | exact hdeps | exact hdeps.1 | exact hdeps.2 | exact hdeps.2.1 | simp [hdeps]) rfl
                clear hst n1 n2 n3 m0 m1 m2 m3 hdeps
                left
                refine ⟨71, rfl, ?_, by simp [seen]⟩
                go_simp
              | 28, ho, hfi, hdeps =>
                have ho' := Option.some.inj ho
                subst ho'
                simp [Region.binds] at hdeps
                have e71 : a.tmps[71]? = some (.pointer (some ⟨g, k * 6 + 5, none⟩)) := hst.has 27 _ 71 rfl (by first | exact hdeps | exact hdeps.1 | exact hdeps.2 | exact hdeps.2.1 | simp [hdeps]) rfl
                have z43 : f 43 = false := not_yet m3 hfi
                clear hst hdeps n1 n2 n3 m0 m1 m2 m3
                left
                refine ⟨72, rfl, ?_, by simp [seen]⟩
                simp only [z43]
                cases h34 : f 34 <;> cases h37 : f 37 <;> cases h40 : f 40 <;> go_simp
              | 29, ho, hfi, hdeps =>
                have ho' := Option.some.inj ho
                subst ho'
                clear hst n1 n2 n3 m0 m1 m2 m3 hdeps
                left
                refine ⟨73, rfl, ?_, by simp [seen]⟩
                go_simp
              | 30, ho, hfi, hdeps =>
                have ho' := Option.some.inj ho
                subst ho'
                simp [Region.binds] at hdeps
                have e73 : a.tmps[73]? = some (.pointer (some ⟨wr.heap.size, 5, none⟩)) := hst.has 29 _ 73 rfl (by first | exact hdeps | exact hdeps.1 | exact hdeps.2 | exact hdeps.2.1 | simp [hdeps]) rfl
                clear hst hdeps n1 n2 n3 m0 m1 m2 m3
                left
                refine ⟨74, rfl, ?_, by simp [seen]⟩
                cases h34 : f 34 <;> cases h37 : f 37 <;> cases h40 : f 40 <;> cases h43 : f 43 <;> go_simp
              | 31, ho, hfi, hdeps =>
                have ho' := Option.some.inj ho
                subst ho'
                simp [Region.binds] at hdeps
                have e72 : a.tmps[72]? = some (.string x.to) := hst.has 28 _ 72 rfl (by first | exact hdeps | exact hdeps.1 | exact hdeps.2 | exact hdeps.2.1 | simp [hdeps]) rfl
                have e74 : a.tmps[74]? = some (.string y.to) := hst.has 30 _ 74 rfl (by first | exact hdeps | exact hdeps.1 | exact hdeps.2 | exact hdeps.2.1 | simp [hdeps]) rfl
                clear hst n1 n2 n3 m0 m1 m2 m3 hdeps
                left
                refine ⟨75, rfl, ?_, by simp [seen]⟩
                go_simp
              | 32, ho, hfi, hdeps =>
                have ho' := Option.some.inj ho
                subst ho'
                simp [Region.binds] at hdeps
                have e44 : a.tmps[44]? = some (.pointer (some ⟨g, k * 6, none⟩)) := hst.has 0 _ 44 rfl (by first | exact hdeps | exact hdeps.1 | exact hdeps.2 | exact hdeps.2.1 | simp [hdeps]) rfl
                clear hst n1 n2 n3 m0 m1 m2 m3 hdeps
                left
                refine ⟨76, rfl, ?_, by simp [seen]⟩
                go_simp
              | 33, ho, hfi, hdeps =>
                have ho' := Option.some.inj ho
                subst ho'
                simp [Region.binds] at hdeps
                have e76 : a.tmps[76]? = some (.pointer (some ⟨g, k * 6, none⟩)) := hst.has 32 _ 76 rfl (by first | exact hdeps | exact hdeps.1 | exact hdeps.2 | exact hdeps.2.1 | simp [hdeps]) rfl
                clear hst n1 n2 n3 m0 m1 m2 m3 hdeps
                left
                refine ⟨77, rfl, ?_, by simp [seen]⟩
                go_simp
              | 34, ho, hfi, hdeps =>
                have ho' := Option.some.inj ho
                subst ho'
                simp [Region.binds] at hdeps
                have e77 : a.tmps[77]? = some (.pointer (some ⟨g, k * 6 + 2, none⟩)) := hst.has 33 _ 77 rfl (by first | exact hdeps | exact hdeps.1 | exact hdeps.2 | exact hdeps.2.1 | simp [hdeps]) rfl
                have e54 : a.tmps[54]? = some (.int .i64 (min x.low y.low)) := hst.has 10 _ 54 rfl (by first | exact hdeps | exact hdeps.1 | exact hdeps.2 | exact hdeps.2.1 | simp [hdeps]) rfl
                have z37 : f 37 = false := not_yet n1 hfi
                have z40 : f 40 = false := not_yet n2 z37
                have z43 : f 43 = false := not_yet n3 z40
                clear hst hdeps n1 n2 n3 m0 m1 m2 m3
                right
                refine ⟨rfl, ?_⟩
                simp only [seen, hfi, z37, z40, z43]
                go_simp
              | 35, ho, hfi, hdeps =>
                have ho' := Option.some.inj ho
                subst ho'
                simp [Region.binds] at hdeps
                have e45 : a.tmps[45]? = some (.pointer (some ⟨g, k * 6, none⟩)) := hst.has 1 _ 45 rfl (by first | exact hdeps | exact hdeps.1 | exact hdeps.2 | exact hdeps.2.1 | simp [hdeps]) rfl
                clear hst n1 n2 n3 m0 m1 m2 m3 hdeps
                left
                refine ⟨78, rfl, ?_, by simp [seen]⟩
                go_simp
              | 36, ho, hfi, hdeps =>
                have ho' := Option.some.inj ho
                subst ho'
                simp [Region.binds] at hdeps
                have e78 : a.tmps[78]? = some (.pointer (some ⟨g, k * 6, none⟩)) := hst.has 35 _ 78 rfl (by first | exact hdeps | exact hdeps.1 | exact hdeps.2 | exact hdeps.2.1 | simp [hdeps]) rfl
                clear hst n1 n2 n3 m0 m1 m2 m3 hdeps
                left
                refine ⟨79, rfl, ?_, by simp [seen]⟩
                go_simp
              | 37, ho, hfi, hdeps =>
                have ho' := Option.some.inj ho
                subst ho'
                simp [Region.binds] at hdeps
                have e79 : a.tmps[79]? = some (.pointer (some ⟨g, k * 6 + 3, none⟩)) := hst.has 36 _ 79 rfl (by first | exact hdeps | exact hdeps.1 | exact hdeps.2 | exact hdeps.2.1 | simp [hdeps]) rfl
                have e61 : a.tmps[61]? = some (.int .i64 (max x.high y.high)) := hst.has 17 _ 61 rfl (by first | exact hdeps | exact hdeps.1 | exact hdeps.2 | exact hdeps.2.1 | simp [hdeps]) rfl
                have z40 : f 40 = false := not_yet n2 hfi
                have z43 : f 43 = false := not_yet n3 z40
                have z34 : f 34 = true := by first | exact hdeps.1 | simp [hdeps]
                clear hst hdeps n1 n2 n3 m0 m1 m2 m3
                right
                refine ⟨rfl, ?_⟩
                simp only [seen, hfi, z34, z40, z43]
                go_simp
              | 38, ho, hfi, hdeps =>
                have ho' := Option.some.inj ho
                subst ho'
                simp [Region.binds] at hdeps
                have e46 : a.tmps[46]? = some (.pointer (some ⟨g, k * 6, none⟩)) := hst.has 2 _ 46 rfl (by first | exact hdeps | exact hdeps.1 | exact hdeps.2 | exact hdeps.2.1 | simp [hdeps]) rfl
                clear hst n1 n2 n3 m0 m1 m2 m3 hdeps
                left
                refine ⟨80, rfl, ?_, by simp [seen]⟩
                go_simp
              | 39, ho, hfi, hdeps =>
                have ho' := Option.some.inj ho
                subst ho'
                simp [Region.binds] at hdeps
                have e80 : a.tmps[80]? = some (.pointer (some ⟨g, k * 6, none⟩)) := hst.has 38 _ 80 rfl (by first | exact hdeps | exact hdeps.1 | exact hdeps.2 | exact hdeps.2.1 | simp [hdeps]) rfl
                clear hst n1 n2 n3 m0 m1 m2 m3 hdeps
                left
                refine ⟨81, rfl, ?_, by simp [seen]⟩
                go_simp
              | 40, ho, hfi, hdeps =>
                have ho' := Option.some.inj ho
                subst ho'
                simp [Region.binds] at hdeps
                have e81 : a.tmps[81]? = some (.pointer (some ⟨g, k * 6 + 4, none⟩)) := hst.has 39 _ 81 rfl (by first | exact hdeps | exact hdeps.1 | exact hdeps.2 | exact hdeps.2.1 | simp [hdeps]) rfl
                have e68 : a.tmps[68]? = some (.string (Lib.minS x.frm y.frm)) := hst.has 24 _ 68 rfl (by first | exact hdeps | exact hdeps.1 | exact hdeps.2 | exact hdeps.2.1 | simp [hdeps]) rfl
                have z43 : f 43 = false := not_yet n3 hfi
                have z34 : f 34 = true := by first | exact hdeps.1 | simp [hdeps]
                have z37 : f 37 = true := by first | exact hdeps.1 | simp [hdeps]
                clear hst hdeps n1 n2 n3 m0 m1 m2 m3
                right
                refine ⟨rfl, ?_⟩
                simp only [seen, hfi, z34, z37, z43]
                go_simp
              | 41, ho, hfi, hdeps =>
                have ho' := Option.some.inj ho
                subst ho'
                simp [Region.binds] at hdeps
                have e47 : a.tmps[47]? = some (.pointer (some ⟨g, k * 6, none⟩)) := hst.has 3 _ 47 rfl (by first | exact hdeps | exact hdeps.1 | exact hdeps.2 | exact hdeps.2.1 | simp [hdeps]) rfl
                clear hst n1 n2 n3 m0 m1 m2 m3 hdeps
                left
                refine ⟨82, rfl, ?_, by simp [seen]⟩
                go_simp
              | 42, ho, hfi, hdeps =>
                have ho' := Option.some.inj ho
                subst ho'
                simp [Region.binds] at hdeps
                have e82 : a.tmps[82]? = some (.pointer (some ⟨g, k * 6, none⟩)) := hst.has 41 _ 82 rfl (by first | exact hdeps | exact hdeps.1 | exact hdeps.2 | exact hdeps.2.1 | simp [hdeps]) rfl
                clear hst n1 n2 n3 m0 m1 m2 m3 hdeps
                left
                refine ⟨83, rfl, ?_, by simp [seen]⟩
                go_simp
              | 43, ho, hfi, hdeps =>
                have ho' := Option.some.inj ho
                subst ho'
                simp [Region.binds] at hdeps
                have e83 : a.tmps[83]? = some (.pointer (some ⟨g, k * 6 + 5, none⟩)) := hst.has 42 _ 83 rfl (by first | exact hdeps | exact hdeps.1 | exact hdeps.2 | exact hdeps.2.1 | simp [hdeps]) rfl
                have e75 : a.tmps[75]? = some (.string (Lib.maxS x.to y.to)) := hst.has 31 _ 75 rfl (by first | exact hdeps | exact hdeps.1 | exact hdeps.2 | exact hdeps.2.1 | simp [hdeps]) rfl
                have z34 : f 34 = true := by first | exact hdeps.1 | simp [hdeps]
                have z37 : f 37 = true := by first | exact hdeps.1 | simp [hdeps]
                have z40 : f 40 = true := by first | exact hdeps.1 | simp [hdeps]
                clear hst hdeps n1 n2 n3 m0 m1 m2 m3
                right
                refine ⟨rfl, ?_⟩
                simp only [seen, hfi, z34, z37, z40]
                go_simp
              | j + 44, ho, _, _ => simp at ho
            · have hrg : List.range 44 = [0, 1, 2, 3, 4, 5, 6, 7, 8, 9, 10, 11, 12, 13, 14, 15, 16, 17, 18, 19, 20, 21, 22, 23, 24, 25, 26, 27, 28, 29, 30, 31, 32, 33, 34, 35, 36, 37, 38, 39, 40, 41, 42, 43] := by decide
              simp only [endTmps, dstAt, List.size_toArray, List.length_cons, List.length_nil, Nat.reduceAdd, hrg, List.foldl_cons, List.foldl_nil]
              clear hrg
              go_wp2
              have hfin := HNXQ.out [(k * 6 + 2, .int .i64 (min x.low y.low)), (k * 6 + 3, .int .i64 (max x.high y.high)), (k * 6 + 4, .string (Lib.minS x.frm y.frm)), (k * 6 + 5, .string (Lib.maxS x.to y.to))] (by simp) (fun cur' a1 a2 => upd5 x y k c n hkn hnc HY.out HXO.out cur' a1 a2)
              simp only [SetAll] at hfin
              have HF9 := Lib.hid hfin
              clear hfin
              go_roundw
              case rel => exact ⟨k + 1, by omega, by go_num, by first | (with_reducible exact HF9.out) | (with_reducible exact HF9.out.drew) | (with_reducible exact HF9.out.drew.drew)⟩
              case measure => simp [intOf]; omega
      · have hke : k = n' := by omega
        subst hke
        have hd0 := cell_blk hkp 0
        have he0 := cell_blk hk2 0
        have he1 := cell_blk hk2 1
        have hg0 := free_blk hk2 0
        have hg1 := free_blk hk2 1
        simp only [List.getElem?_toArray, List.getElem?_cons_succ, List.getElem?_cons_zero] at hd0 he0 he1
        clear hbw hkp hkg hk2 hcs' hhu
        have HI2 := HI.out
        obtain ⟨hbw, hsz2, hkp, hk2, cur2, hkg, hcs', hhu⟩ := HI2
        go_wp2
        have hfin : (wr.setCell { block := w.heap.size + 1 + 1, off := 0 } (Value.int IntKind.i64 t)).heap[w.heap.size + 1 + 1]? = some (.cells #[.int .i64 t, .slice none 0 0] 33 (0, 0)) := by
          rw [heap_setCell_same _ _ _ _ _ _ hk2]; rfl
        refine bodyPost_ret (v := .agg #[.int .i64 t, .slice (some ⟨g, 0, none⟩) n c]) ?_ rfl ⟨⟨_, rfl, ?_⟩, (hbw.setCell (by simp; omega) _).setCell (by simp; omega) _⟩
        · have h2 : ((wr.setCell { block := w.heap.size + 1 + 1, off := 0 } (Value.int IntKind.i64 t)).setCell { block := w.heap.size + 1 + 1, off := 1 } (Value.slice (some ⟨g, 0, none⟩) n c)).heap[w.heap.size + 1 + 1]? = some (.cells #[.int .i64 t, .slice (some ⟨g, 0, none⟩) n c] 33 (0, 0)) := by
            rw [heap_setCell_same _ _ _ _ _ _ hfin]; rfl
          exact results_cell_row rfl _ _ _ 33 _ (0, 0) _ rfl h2 Try.underlying33 rfl (by kernel_rfl)
        · rw [HN.out, HN'.out]
          have hgb : g ≠ w.heap.size + 1 + 1 := by omega
          have key := hull_slice (S := fun q => q = g) hkg hhu HN.out HN'.out hn2 hnc hcm hl HS.out.sideWf HT.out.sideWf rfl
          refine SliceRep.mono (S := fun q => q = g) (fun q hq => by subst hq; exact ⟨by omega, by simp; exact hlg⟩) (SliceRep.ext (w := wr) (fun q hq => ?_) key)
          subst hq
          rw [heap_setCell_other _ _ _ _ hgb, heap_setCell_other _ _ _ _ hgb]
end Go.Proofs.Ytcbpakbhklbdnaa
