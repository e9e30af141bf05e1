/- Walks: the hull of two boxes (the reference's). -/
import Derived.Test.YtcbpakbhklbdnaaB11p
import Derived.Test.YtcbpakbhklbdnaaReg
import Derived.Laws.Rows
import Derived.Deep.DeepCutAuto
import Derived.Deep.CutBlock
namespace Go.Proofs.Ytcbpakbhklbdnaa
open Go.ChangeShapes Go.WideShapes Go.ChangeAt Go.RowKit
set_option linter.unusedVariables false
attribute [local go_sem] Lib.run_max_strs Lib.run_min_strs

theorem set4 {w : World} {g : Nat} {a b : Bool} {l h : Int} {f t : ByteArray} (hg : w.heap[g]? = some (.cells #[.bool a, .bool b, .int .i64 0, .int .i64 0, .string ⟨#[]⟩, .string ⟨#[]⟩] 51 (0, 0))) :
    ((((w.setCell ⟨g, 2, none⟩ (.int .i64 l)).setCell ⟨g, 3, none⟩ (.int .i64 h)).setCell ⟨g, 4, none⟩ (.string f)).setCell ⟨g, 5, none⟩ (.string t)).drew.heap[g]? = some (.cells #[.bool a, .bool b, .int .i64 l, .int .i64 h, .string f, .string t] 51 (0, 0)) := by
  have e : ∀ v : World, v.drew.heap = v.heap := fun _ => rfl
  rw [e]
  rw [heap_setCell_same _ _ _ _ _ _ (heap_setCell_same _ _ _ _ _ _ (heap_setCell_same _ _ _ _ _ _ (heap_setCell_same _ _ _ _ _ _ hg)))]
  rfl
theorem below4 {wc wy : World} (h : Below wc.heap.size wc wy) (l h' f t : Value) :
    Below wc.heap.size wc ((((wy.setCell ⟨wc.heap.size, 2, none⟩ l).setCell ⟨wc.heap.size, 3, none⟩ h').setCell ⟨wc.heap.size, 4, none⟩ f).setCell ⟨wc.heap.size, 5, none⟩ t).drew :=
  ((((h.setCell (Nat.le_refl _) _).setCell (Nat.le_refl _) _).setCell (Nat.le_refl _) _).setCell (Nat.le_refl _) _).drew

set_option maxHeartbeats 30000000 in
set_option maxRecDepth 100000 in
theorem rhull_loop (t t2 : Int) (ss ts : List PSide) (sv tv : Value) (w : World) (hs : SliceRep sideRep (Lt w.heap.size) w ss sv) (ht : SliceRep sideRep (Lt w.heap.size) w ts tv) (hlen : ss.length = ts.length) (hne : ss.length ≠ 0) (hsmall : ss.length ≤ 10000) :
    Calls Try.prog 20 #[.agg #[.int .i64 t, sv], .agg #[.int .i64 t2, tv]] w fun e w' =>
      (∃ v', e = .returned (.agg #[.int .i64 t, v']) ∧ SliceRep sideRep (Btw w.heap.size w'.heap.size) w' (List.zipWith rsideHull ss ts) v') ∧ Below w.heap.size w w' := by
  obtain ⟨a, n, cap, rfl, HN, hcap, hcap2, hl⟩ := hs.opn
  obtain ⟨a', n', cap', rfl, HN', hcap', hcap2', hl'⟩ := ht.opn
  obtain rfl : n' = n := by rw [← HN.out, ← HN'.out, hlen]
  obtain ⟨i0, hi, hz0, hz1, hz2⟩ := info_parts info51
  have HS := Lib.hid hs; clear hs
  have HT := Lib.hid ht; clear ht
  have h0 : 0 < n' := by have := HN.out; omega
  have hn10 : n' ≤ 10000 := by rw [← HN.out]; exact hsmall
  have h0' : ((n' : Int) == 0) = false := beq_eq_false_iff_ne.2 (by omega)
  clear hlen hne hsmall
  go_enter Try.func20, Try.ntmps20
  go_wp2
  obtain ⟨w0, H0⟩ : ∃ w0, Hid (w0 = (((w.alloc (Obj.cells #[Value.int IntKind.i64 t, Value.slice a n' cap] 24)).alloc (Obj.cells #[Value.int IntKind.i64 t2, Value.slice a' n' cap'] 24)).alloc (Obj.cells #[Value.int IntKind.i64 0, Value.slice none 0 0] 24)).alloc (Obj.cells #[Value.int IntKind.i64 t, Value.slice none 0 0] 24)) := ⟨_, Lib.hid rfl⟩
  have hb0 : Below w.heap.size w w0 := by rw [H0.out]; exact ((((Below.refl _ _).alloc (Nat.le_refl _) _).alloc (by simp) _).alloc (by simp <;> omega) _).alloc (by simp <;> omega) _
  have hz0' : w0.heap.size = w.heap.size + 4 := by rw [H0.out]; simp
  have hc0 : w0.cell? ⟨w.heap.size, 1, none⟩ = some (Value.slice a n' cap) := by
    rw [H0.out, World.cell?_alloc_past _ _ _ (by simp <;> omega), World.cell?_alloc_past _ _ _ (by simp <;> omega), World.cell?_alloc_past _ _ _ (by simp), World.cell?_alloc_at _ _ _ _ rfl]; rfl
  have hc1 : w0.cell? ⟨w.heap.size + 1, 1, none⟩ = some (Value.slice a' n' cap') := by
    rw [H0.out, World.cell?_alloc_past _ _ _ (by simp <;> omega), World.cell?_alloc_past _ _ _ (by simp), World.cell?_alloc_at _ _ _ _ (by simp)]; rfl
  have hst : RowInv4 w w0 24 51 (w.heap.size + 1 + 1) (w.heap.size + 1 + 1 + 1) t [] none 0 0 := by
    refine ⟨?_, ?_, hb0, Owns.nil _ _ _ _ _⟩
    · rw [H0.out, Below.heap_alloc _ _ _ (by simp)]
      have := heap_alloc_new ((w.alloc (Obj.cells #[Value.int IntKind.i64 t, Value.slice a n' cap] 24)).alloc (Obj.cells #[Value.int IntKind.i64 t2, Value.slice a' n' cap'] 24)) (Obj.cells #[Value.int IntKind.i64 0, Value.slice none 0 0] 24)
      simpa using this
    · rw [H0.out]
      have := heap_alloc_new (((w.alloc (Obj.cells #[Value.int IntKind.i64 t, Value.slice a n' cap] 24)).alloc (Obj.cells #[Value.int IntKind.i64 t2, Value.slice a' n' cap'] 24)).alloc (Obj.cells #[Value.int IntKind.i64 0, Value.slice none 0 0] 24)) (Obj.cells #[Value.int IntKind.i64 t, Value.slice none 0 0] 24)
      simpa using this
  have HC0 := Lib.hid hc0; have HC1 := Lib.hid hc1; clear hc0 hc1
  have HZ := Lib.hid hz0'; clear hz0'
  rw [← H0.out]
  go_loopw [6] (fun i wr => ∃ (k : Nat) (va : Option Addr) (vc : Nat), k ≤ n' ∧ i = .int .i64 k ∧ Below (w.heap.size + 2) w0 wr ∧ RowInv4 w wr 24 51 (w.heap.size + 1 + 1) (w.heap.size + 1 + 1 + 1) t (List.zipWith rsideHull (ss.take k) (ts.take k)) va k vc) (fun i _ => n' - (intOf i).toNat)
  case atStart => exact ⟨0, _, _, Nat.zero_le _, rfl, Below.refl _ _, hst⟩
  case round =>
    obtain ⟨k, va, vc, hk, rfl, hbw, hinv⟩ := hrel
    have hx0 : wr.cell? ⟨w.heap.size, 1, none⟩ = some (Value.slice a n' cap) := by rw [hbw.cell (by simp)]; exact HC0.out
    have hx1 : wr.cell? ⟨w.heap.size + 1, 1, none⟩ = some (Value.slice a' n' cap') := by rw [hbw.cell (by simp)]; exact HC1.out
    have hlt1 := lt_blk hinv.1
    have hlt2 := lt_blk hinv.2.1
    by_cases hlt : k < n'
    · have hks : k < ss.length := by rw [HN.out]; exact hlt
      have hkt : k < ts.length := by rw [HN'.out]; exact hlt
      obtain ⟨b, off, rfl, hbb, hwf, c0, c1, c2, c3, c4, c5⟩ := (HS.out.below hinv.2.2.1).side k hks
      obtain ⟨b', off', rfl, hbb2, hwf2, d0, d1, d2, d3, d4, d5⟩ := (HT.out.below hinv.2.2.1).side k hkt
      have HTK := Lib.hid (zip_take_snoc ss ts k hks hkt)
      have HL : Hid ((List.zipWith rsideHull (ss.take k) (ts.take k)).length = k) := Lib.hid (by simp <;> omega)
      generalize ss[k] = s at *
      generalize ts[k] = x at *
      have HW := Lib.hid (rsideHull_wf hwf hwf2); clear hwf hwf2
      have hbx : b < wr.heap.size := Nat.lt_of_lt_of_le hbb hinv.2.2.1.size
      have hbx' : b' < wr.heap.size := Nat.lt_of_lt_of_le hbb2 hinv.2.2.1.size
      have hzA : w.heap.size + 1 < wr.heap.size := by omega
      have hzB : w.heap.size < wr.heap.size := by omega
      have hI : (k : Int) < (n' : Int) := by omega
      go_upto_region 9 with (fail)
      go_cut [7, 8] (fun s7 s8 wx => ∃ p q : Nat, s7 = .pointer (some ⟨p, 0, none⟩) ∧ s8 = .pointer (some ⟨q, 0, none⟩) ∧ Below wr.heap.size wr wx ∧ wr.heap.size ≤ p ∧ wr.heap.size ≤ q ∧ wx.heap[p]? = some (.cells s.cells.toArray 51 (0, 0)) ∧ wx.heap[q]? = some (.cells x.cells.toArray 51 (0, 0)))
      case first =>
        go_region
        all_goals
          go_wp2_with fail
          go_meet
          have hbe : ∀ o o' : Obj, Below wr.heap.size wr ((wr.alloc o).alloc o').drew := fun o o' => (((Below.refl _ _).alloc (Nat.le_refl _) o).alloc (by simp) o').drew
          have hh1 : ∀ o o' : Obj, ((wr.alloc o).alloc o').drew.heap[wr.heap.size]? = some o := fun o o' => (Below.heap_alloc (wr.alloc o) o' wr.heap.size (by simp)).trans (heap_alloc_new wr o)
          have hh2 : ∀ o o' : Obj, ((wr.alloc o).alloc o').drew.heap[wr.heap.size + 1]? = some o' := fun o o' => by have := heap_alloc_new (wr.alloc o) o'; rw [show (wr.alloc o).heap.size = wr.heap.size + 1 by simp] at this; exact this
          first
            | exact ⟨_, _, rfl, rfl, hbe _ _, Nat.le_refl _, Nat.le_succ _, hh1 _ _, hh2 _ _⟩
            | exact ⟨_, _, rfl, rfl, hbe _ _, Nat.le_succ _, Nat.le_refl _, hh2 _ _, hh1 _ _⟩
      case rest =>
        obtain ⟨p, q, rfl, rfl, hbx2, hp, hq, hkp, hkq⟩ := hcut
        have p0 := cell_blk hkp 0
        have p1 := cell_blk hkp 1
        have p2 := cell_blk hkp 2
        have p3 := cell_blk hkp 3
        have p4 := cell_blk hkp 4
        have p5 := cell_blk hkp 5
        have q0 := cell_blk hkq 0
        have q1 := cell_blk hkq 1
        have q2 := cell_blk hkq 2
        have q3 := cell_blk hkq 3
        have q4 := cell_blk hkq 4
        have q5 := cell_blk hkq 5
        simp only [PSide.cells, List.getElem?_toArray, List.getElem?_cons_succ, List.getElem?_cons_zero] at p0 p1 p2 p3 p4 p5 q0 q1 q2 q3 q4 q5
        have hlp := lt_blk hkp
        have hlq := lt_blk hkq
        have hsz := hbx2.size
        have hoc0 : wc.cell? ⟨w.heap.size + 1 + 1 + 1, 1, none⟩ = some (Value.slice va k vc) := by
          rw [hbx2.cell (by exact hlt2)]
          have := cell_blk hinv.2.1 1
          simpa using this
        have hof0 : wc.frozen? ⟨w.heap.size + 1 + 1 + 1, 1, none⟩ = false := by
          rw [hbx2.frozen (by exact hlt2)]
          exact free_blk hinv.2.1 1
        obtain ⟨ls, hll, hr, hown⟩ := hinv.2.2.2
        rw [HL.out] at hown hll
        have hown2 : wc.ownsRow (w.heap.size + 4) 51 6 (.slice va k vc) k ls.flatten := hown.kept (row := none) ⟨hbx2.os, hbx2.tape, hbx2.output, hbx2.size, fun q hq _ => hbx2.block q hq⟩ (by cases h : (Value.slice va k vc).ownBlock <;> simp)
        have HOB : Hid (∀ q, (Value.slice va k vc).ownBlock = some q → q < wc.heap.size) := Lib.hid (fun q hq => (hown2.lt q hq).2)
        have HI := Lib.hid hinv; have HLL := Lib.hid hll; have HR := Lib.hid hr; have HOW := Lib.hid hown; have HBX2 := Lib.hid hbx2; have HBW := Lib.hid hbw; have HOW2 := Lib.hid hown2
        clear hll hr hinv hown hbx2 hkp hkq hbw c0 c1 c2 c3 c4 c5 d0 d1 d2 d3 d4 d5 hx0 hx1 hbb hbb2 hown2
        go_upto_region 10 with (fail)
        go_cut [9] (fun s9 wy => s9 = .pointer (some ⟨wc.heap.size, 0, none⟩) ∧ wy = wc.alloc (.cells #[.bool (s.null || x.null), .bool (s.other || x.other), .int .i64 0, .int .i64 0, .string ⟨#[]⟩, .string ⟨#[]⟩] 51))
        case first =>
          cases hsn : s.null <;> cases hso : s.other
          all_goals
            go_wp2_with fail
            go_meet
            exact ⟨rfl, by first | rfl | simp [hsn, hso]⟩
        case rest =>
        obtain ⟨rfl, hwy⟩ := hcut
        rename World => wy
        have hpw : ∀ j, wy.cell? ⟨p, j, none⟩ = wc.cell? ⟨p, j, none⟩ := fun j => by rw [hwy, World.cell?_alloc_past _ _ _ hlp]
        have hqw : ∀ j, wy.cell? ⟨q, j, none⟩ = wc.cell? ⟨q, j, none⟩ := fun j => by rw [hwy, World.cell?_alloc_past _ _ _ hlq]
        have P0 := (hpw 0).trans p0
        have P1 := (hpw 1).trans p1
        have P2 := (hpw 2).trans p2
        have P3 := (hpw 3).trans p3
        have P4 := (hpw 4).trans p4
        have P5 := (hpw 5).trans p5
        have Q0 := (hqw 0).trans q0
        have Q1 := (hqw 1).trans q1
        have Q2 := (hqw 2).trans q2
        have Q3 := (hqw 3).trans q3
        have Q4 := (hqw 4).trans q4
        have Q5 := (hqw 5).trans q5
        have huy : wy.heap[wc.heap.size]? = some (.cells #[.bool (s.null || x.null), .bool (s.other || x.other), .int .i64 0, .int .i64 0, .string ⟨#[]⟩, .string ⟨#[]⟩] 51 (0, 0)) := by rw [hwy]; exact heap_alloc_new wc _
        have u0 := cell_blk huy 0
        have u1 := cell_blk huy 1
        have u2 := cell_blk huy 2
        have u3 := cell_blk huy 3
        have u4 := cell_blk huy 4
        have u5 := cell_blk huy 5
        simp only [List.getElem?_toArray, List.getElem?_cons_succ, List.getElem?_cons_zero] at u0 u1 u2 u3 u4 u5
        have fu2 := free_blk huy 2
        have fu3 := free_blk huy 3
        have fu4 := free_blk huy 4
        have fu5 := free_blk huy 5
        have hzz : w.heap.size + 1 + 1 + 1 < wc.heap.size := by omega
        have HUY := Lib.hid huy
        have HBWY : Hid (Below wc.heap.size wc wy) := Lib.hid (by rw [hwy]; exact (Below.refl _ _).alloc (Nat.le_refl _) _)
        have hzy : wc.heap.size < wy.heap.size := by rw [hwy]; simp
        have hzx : wr.heap.size ≤ wc.heap.size := HBX2.out.size
        have hzz : w.heap.size + 1 + 1 + 1 < wc.heap.size := by omega
        have HOC0 := Lib.hid hoc0; have HOF0 := Lib.hid hof0
        have hpu : p ≠ wc.heap.size := by omega
        have hqu : q ≠ wc.heap.size := by omega
        clear hwy hpw hqw huy p0 p1 p2 p3 p4 p5 q0 q1 q2 q3 q4 q5 hoc0 hof0
        go_upto_block 2 with fail
        go_cut [9] (fun s9 wz => s9 = .pointer (some ⟨wc.heap.size, 0, none⟩) ∧ Below wc.heap.size wc wz ∧ wz.heap[wc.heap.size]? = some (.cells (rsideHull s x).cells.toArray 51 (0, 0)))
        case first =>
          cases hxo : x.other <;> cases hso : s.other
          · have HXO : Hid (x.other = false) := Lib.hid hxo
            have HSO : Hid (s.other = false) := Lib.hid hso
            go_wp2_with fail
            refine region_states (W := fun f => if f 15 then ((((wy.drew.setCell ⟨wc.heap.size, 2, none⟩ (.int .i64 x.low)).setCell ⟨wc.heap.size, 3, none⟩ (.int .i64 x.high)).setCell ⟨wc.heap.size, 4, none⟩ (.string x.frm)).setCell ⟨wc.heap.size, 5, none⟩ (.string x.to)) else if f 13 then (((wy.drew.setCell ⟨wc.heap.size, 2, none⟩ (.int .i64 x.low)).setCell ⟨wc.heap.size, 3, none⟩ (.int .i64 x.high)).setCell ⟨wc.heap.size, 4, none⟩ (.string x.frm)) else if f 11 then ((wy.drew.setCell ⟨wc.heap.size, 2, none⟩ (.int .i64 x.low)).setCell ⟨wc.heap.size, 3, none⟩ (.int .i64 x.high)) else if f 9 then (wy.drew.setCell ⟨wc.heap.size, 2, none⟩ (.int .i64 x.low)) else wy.drew)
              (V := fun j => ([.pointer (some ⟨q, 2, none⟩), .int .i64 x.low, .pointer (some ⟨q, 3, none⟩), .int .i64 x.high, .pointer (some ⟨q, 4, none⟩), .string x.frm, .pointer (some ⟨q, 5, none⟩), .string x.to, .pointer (some ⟨wc.heap.size, 2, none⟩), undef, .pointer (some ⟨wc.heap.size, 3, none⟩), undef, .pointer (some ⟨wc.heap.size, 4, none⟩), undef, .pointer (some ⟨wc.heap.size, 5, none⟩), undef] : List Value).getD j undef) (by kernel_rfl) (by kernel_rfl) rfl ?_ ?_
            · intro i o ho f a hst hdf hfi hdeps
              have n1 := hst.needs 11 9 (by kernel_rfl)
              have n2 := hst.needs 13 11 (by kernel_rfl)
              have n3 := hst.needs 15 13 (by kernel_rfl)
              have e7 : a.tmps[7]? = some (.pointer (some ⟨p, 0, none⟩)) := hst.old 7 (old_slot (by kernel_rfl))
              have e8 : a.tmps[8]? = some (.pointer (some ⟨q, 0, none⟩)) := hst.old 8 (old_slot (by kernel_rfl))
              have e9 : a.tmps[9]? = some (.pointer (some ⟨wc.heap.size, 0, none⟩)) := hst.old 9 (old_slot (by kernel_rfl))
              match i, ho, hfi, hdeps with
              | 0, ho, hfi, hdeps =>
                have ho' := Option.some.inj ho
                subst ho'
                clear hst hdeps n1 n2 n3
                left
                refine ⟨53, rfl, ?_, by simp [seen]⟩
                go_simp
              | 1, ho, hfi, hdeps =>
                have ho' := Option.some.inj ho
                subst ho'
                simp [Region.binds] at hdeps
                have e53 : a.tmps[53]? = some (.pointer (some ⟨q, 2, none⟩)) := hst.has 0 _ 53 rfl (by first | exact hdeps | exact hdeps.1 | exact hdeps.2 | exact hdeps.2.1 | simp [hdeps]) rfl
                clear hst hdeps n1 n2 n3
                left
                refine ⟨54, rfl, ?_, by simp [seen]⟩
                cases h9 : f 9 <;> cases h11 : f 11 <;> cases h13 : f 13 <;> cases h15 : f 15 <;> go_simp
              | 2, ho, hfi, hdeps =>
                have ho' := Option.some.inj ho
                subst ho'
                simp [Region.binds] at hdeps
                clear hst hdeps n1 n2 n3
                left
                refine ⟨55, rfl, ?_, by simp [seen]⟩
                go_simp
              | 3, ho, hfi, hdeps =>
                have ho' := Option.some.inj ho
                subst ho'
                simp [Region.binds] at hdeps
                have e55 : a.tmps[55]? = some (.pointer (some ⟨q, 3, none⟩)) := hst.has 2 _ 55 rfl (by first | exact hdeps | exact hdeps.1 | exact hdeps.2 | exact hdeps.2.1 | simp [hdeps]) rfl
                clear hst hdeps n1 n2 n3
                left
                refine ⟨56, rfl, ?_, by simp [seen]⟩
                cases h9 : f 9 <;> cases h11 : f 11 <;> cases h13 : f 13 <;> cases h15 : f 15 <;> go_simp
              | 4, ho, hfi, hdeps =>
                have ho' := Option.some.inj ho
                subst ho'
                simp [Region.binds] at hdeps
                clear hst hdeps n1 n2 n3
                left
                refine ⟨57, rfl, ?_, by simp [seen]⟩
                go_simp
              | 5, ho, hfi, hdeps =>
                have ho' := Option.some.inj ho
                subst ho'
                simp [Region.binds] at hdeps
                have e57 : a.tmps[57]? = some (.pointer (some ⟨q, 4, none⟩)) := hst.has 4 _ 57 rfl (by first | exact hdeps | exact hdeps.1 | exact hdeps.2 | exact hdeps.2.1 | simp [hdeps]) rfl
                clear hst hdeps n1 n2 n3
                left
                refine ⟨58, rfl, ?_, by simp [seen]⟩
                cases h9 : f 9 <;> cases h11 : f 11 <;> cases h13 : f 13 <;> cases h15 : f 15 <;> go_simp
              | 6, ho, hfi, hdeps =>
                have ho' := Option.some.inj ho
                subst ho'
                simp [Region.binds] at hdeps
                clear hst hdeps n1 n2 n3
                left
                refine ⟨59, rfl, ?_, by simp [seen]⟩
                go_simp
              | 7, ho, hfi, hdeps =>
                have ho' := Option.some.inj ho
                subst ho'
                simp [Region.binds] at hdeps
                have e59 : a.tmps[59]? = some (.pointer (some ⟨q, 5, none⟩)) := hst.has 6 _ 59 rfl (by first | exact hdeps | exact hdeps.1 | exact hdeps.2 | exact hdeps.2.1 | simp [hdeps]) rfl
                clear hst hdeps n1 n2 n3
                left
                refine ⟨60, rfl, ?_, by simp [seen]⟩
                cases h9 : f 9 <;> cases h11 : f 11 <;> cases h13 : f 13 <;> cases h15 : f 15 <;> go_simp
              | 8, ho, hfi, hdeps =>
                have ho' := Option.some.inj ho
                subst ho'
                simp [Region.binds] at hdeps
                clear hst hdeps n1 n2 n3
                left
                refine ⟨61, rfl, ?_, by simp [seen]⟩
                go_simp
              | 9, ho, hfi, hdeps =>
                have ho' := Option.some.inj ho
                subst ho'
                simp [Region.binds] at hdeps
                have e61 : a.tmps[61]? = some (.pointer (some ⟨wc.heap.size, 2, none⟩)) := hst.has 8 _ 61 rfl (by first | exact hdeps | exact hdeps.1 | exact hdeps.2 | exact hdeps.2.1 | simp [hdeps]) rfl
                have e54 : a.tmps[54]? = some (.int .i64 x.low) := hst.has 1 _ 54 rfl (by first | exact hdeps | exact hdeps.1 | exact hdeps.2 | exact hdeps.2.1 | simp [hdeps]) rfl
                have z11 : f 11 = false := not_yet n1 hfi
                have z13 : f 13 = false := not_yet n2 z11
                have z15 : f 15 = false := not_yet n3 z13
                clear hst hdeps n1 n2 n3
                right
                refine ⟨rfl, ?_⟩
                simp only [seen, hfi, z11, z13, z15]
                go_simp
              | 10, ho, hfi, hdeps =>
                have ho' := Option.some.inj ho
                subst ho'
                simp [Region.binds] at hdeps
                clear hst hdeps n1 n2 n3
                left
                refine ⟨62, rfl, ?_, by simp [seen]⟩
                go_simp
              | 11, ho, hfi, hdeps =>
                have ho' := Option.some.inj ho
                subst ho'
                simp [Region.binds] at hdeps
                have e62 : a.tmps[62]? = some (.pointer (some ⟨wc.heap.size, 3, none⟩)) := hst.has 10 _ 62 rfl (by first | exact hdeps | exact hdeps.1 | exact hdeps.2 | exact hdeps.2.1 | simp [hdeps]) rfl
                have e56 : a.tmps[56]? = some (.int .i64 x.high) := hst.has 3 _ 56 rfl (by first | exact hdeps | exact hdeps.1 | exact hdeps.2 | exact hdeps.2.1 | simp [hdeps]) rfl
                have z13 : f 13 = false := not_yet n2 hfi
                have z15 : f 15 = false := not_yet n3 z13
                have z9 : f 9 = true := by first | exact hdeps.1 | simp [hdeps]
                clear hst hdeps n1 n2 n3
                right
                refine ⟨rfl, ?_⟩
                simp only [seen, hfi, z9, z13, z15]
                go_simp
              | 12, ho, hfi, hdeps =>
                have ho' := Option.some.inj ho
                subst ho'
                simp [Region.binds] at hdeps
                clear hst hdeps n1 n2 n3
                left
                refine ⟨63, rfl, ?_, by simp [seen]⟩
                go_simp
              | 13, ho, hfi, hdeps =>
                have ho' := Option.some.inj ho
                subst ho'
                simp [Region.binds] at hdeps
                have e63 : a.tmps[63]? = some (.pointer (some ⟨wc.heap.size, 4, none⟩)) := hst.has 12 _ 63 rfl (by first | exact hdeps | exact hdeps.1 | exact hdeps.2 | exact hdeps.2.1 | simp [hdeps]) rfl
                have e58 : a.tmps[58]? = some (.string x.frm) := hst.has 5 _ 58 rfl (by first | exact hdeps | exact hdeps.1 | exact hdeps.2 | exact hdeps.2.1 | simp [hdeps]) rfl
                have z15 : f 15 = false := not_yet n3 hfi
                have z9 : f 9 = true := by first | exact hdeps.1 | simp [hdeps]
                have z11 : f 11 = true := by first | exact hdeps.1 | simp [hdeps]
                clear hst hdeps n1 n2 n3
                right
                refine ⟨rfl, ?_⟩
                simp only [seen, hfi, z9, z11, z15]
                go_simp
              | 14, ho, hfi, hdeps =>
                have ho' := Option.some.inj ho
                subst ho'
                simp [Region.binds] at hdeps
                clear hst hdeps n1 n2 n3
                left
                refine ⟨64, rfl, ?_, by simp [seen]⟩
                go_simp
              | 15, ho, hfi, hdeps =>
                have ho' := Option.some.inj ho
                subst ho'
                simp [Region.binds] at hdeps
                have e64 : a.tmps[64]? = some (.pointer (some ⟨wc.heap.size, 5, none⟩)) := hst.has 14 _ 64 rfl (by first | exact hdeps | exact hdeps.1 | exact hdeps.2 | exact hdeps.2.1 | simp [hdeps]) rfl
                have e60 : a.tmps[60]? = some (.string x.to) := hst.has 7 _ 60 rfl (by first | exact hdeps | exact hdeps.1 | exact hdeps.2 | exact hdeps.2.1 | simp [hdeps]) rfl
                have z9 : f 9 = true := by first | exact hdeps.1 | simp [hdeps]
                have z11 : f 11 = true := by first | exact hdeps.1 | simp [hdeps]
                have z13 : f 13 = true := by first | exact hdeps.1 | simp [hdeps]
                clear hst hdeps n1 n2 n3
                right
                refine ⟨rfl, ?_⟩
                simp only [seen, hfi, z9, z11, z13]
                go_simp
              | j + 16, ho, _, _ => simp at ho
            · have hrg : List.range 16 = [0, 1, 2, 3, 4, 5, 6, 7, 8, 9, 10, 11, 12, 13, 14, 15] := by decide
              simp only [endTmps, dstAt, List.size_toArray, List.length_cons, List.length_nil, Nat.reduceAdd, hrg, List.foldl_cons, List.foldl_nil]
              clear hrg
              go_wp2_with fail
              go_meet
              exact ⟨rfl, below4 HBWY.out _ _ _ _, by rw [set4 HUY.out]; simp [rsideHull, HXO.out, HSO.out, PSide.cells]⟩
          · have HXO : Hid (x.other = false) := Lib.hid hxo
            have HSO : Hid (s.other = true) := Lib.hid hso
            go_wp2_with fail
            refine region_states (W := fun f => if f 15 then ((((wy.drew.setCell ⟨wc.heap.size, 2, none⟩ (.int .i64 s.low)).setCell ⟨wc.heap.size, 3, none⟩ (.int .i64 s.high)).setCell ⟨wc.heap.size, 4, none⟩ (.string s.frm)).setCell ⟨wc.heap.size, 5, none⟩ (.string s.to)) else if f 13 then (((wy.drew.setCell ⟨wc.heap.size, 2, none⟩ (.int .i64 s.low)).setCell ⟨wc.heap.size, 3, none⟩ (.int .i64 s.high)).setCell ⟨wc.heap.size, 4, none⟩ (.string s.frm)) else if f 11 then ((wy.drew.setCell ⟨wc.heap.size, 2, none⟩ (.int .i64 s.low)).setCell ⟨wc.heap.size, 3, none⟩ (.int .i64 s.high)) else if f 9 then (wy.drew.setCell ⟨wc.heap.size, 2, none⟩ (.int .i64 s.low)) else wy.drew)
              (V := fun j => ([.pointer (some ⟨p, 2, none⟩), .int .i64 s.low, .pointer (some ⟨p, 3, none⟩), .int .i64 s.high, .pointer (some ⟨p, 4, none⟩), .string s.frm, .pointer (some ⟨p, 5, none⟩), .string s.to, .pointer (some ⟨wc.heap.size, 2, none⟩), undef, .pointer (some ⟨wc.heap.size, 3, none⟩), undef, .pointer (some ⟨wc.heap.size, 4, none⟩), undef, .pointer (some ⟨wc.heap.size, 5, none⟩), undef] : List Value).getD j undef) (by kernel_rfl) (by kernel_rfl) rfl ?_ ?_
            · intro i o ho f a hst hdf hfi hdeps
              have n1 := hst.needs 11 9 (by kernel_rfl)
              have n2 := hst.needs 13 11 (by kernel_rfl)
              have n3 := hst.needs 15 13 (by kernel_rfl)
              have e7 : a.tmps[7]? = some (.pointer (some ⟨p, 0, none⟩)) := hst.old 7 (old_slot (by kernel_rfl))
              have e8 : a.tmps[8]? = some (.pointer (some ⟨q, 0, none⟩)) := hst.old 8 (old_slot (by kernel_rfl))
              have e9 : a.tmps[9]? = some (.pointer (some ⟨wc.heap.size, 0, none⟩)) := hst.old 9 (old_slot (by kernel_rfl))
              match i, ho, hfi, hdeps with
              | 0, ho, hfi, hdeps =>
                have ho' := Option.some.inj ho
                subst ho'
                clear hst hdeps n1 n2 n3
                left
                refine ⟨99, rfl, ?_, by simp [seen]⟩
                go_simp
              | 1, ho, hfi, hdeps =>
                have ho' := Option.some.inj ho
                subst ho'
                simp [Region.binds] at hdeps
                have e99 : a.tmps[99]? = some (.pointer (some ⟨p, 2, none⟩)) := hst.has 0 _ 99 rfl (by first | exact hdeps | exact hdeps.1 | exact hdeps.2 | exact hdeps.2.1 | simp [hdeps]) rfl
                clear hst hdeps n1 n2 n3
                left
                refine ⟨100, rfl, ?_, by simp [seen]⟩
                cases h9 : f 9 <;> cases h11 : f 11 <;> cases h13 : f 13 <;> cases h15 : f 15 <;> go_simp
              | 2, ho, hfi, hdeps =>
                have ho' := Option.some.inj ho
                subst ho'
                simp [Region.binds] at hdeps
                clear hst hdeps n1 n2 n3
                left
                refine ⟨101, rfl, ?_, by simp [seen]⟩
                go_simp
              | 3, ho, hfi, hdeps =>
                have ho' := Option.some.inj ho
                subst ho'
                simp [Region.binds] at hdeps
                have e101 : a.tmps[101]? = some (.pointer (some ⟨p, 3, none⟩)) := hst.has 2 _ 101 rfl (by first | exact hdeps | exact hdeps.1 | exact hdeps.2 | exact hdeps.2.1 | simp [hdeps]) rfl
                clear hst hdeps n1 n2 n3
                left
                refine ⟨102, rfl, ?_, by simp [seen]⟩
                cases h9 : f 9 <;> cases h11 : f 11 <;> cases h13 : f 13 <;> cases h15 : f 15 <;> go_simp
              | 4, ho, hfi, hdeps =>
                have ho' := Option.some.inj ho
                subst ho'
                simp [Region.binds] at hdeps
                clear hst hdeps n1 n2 n3
                left
                refine ⟨103, rfl, ?_, by simp [seen]⟩
                go_simp
              | 5, ho, hfi, hdeps =>
                have ho' := Option.some.inj ho
                subst ho'
                simp [Region.binds] at hdeps
                have e103 : a.tmps[103]? = some (.pointer (some ⟨p, 4, none⟩)) := hst.has 4 _ 103 rfl (by first | exact hdeps | exact hdeps.1 | exact hdeps.2 | exact hdeps.2.1 | simp [hdeps]) rfl
                clear hst hdeps n1 n2 n3
                left
                refine ⟨104, rfl, ?_, by simp [seen]⟩
                cases h9 : f 9 <;> cases h11 : f 11 <;> cases h13 : f 13 <;> cases h15 : f 15 <;> go_simp
              | 6, ho, hfi, hdeps =>
                have ho' := Option.some.inj ho
                subst ho'
                simp [Region.binds] at hdeps
                clear hst hdeps n1 n2 n3
                left
                refine ⟨105, rfl, ?_, by simp [seen]⟩
                go_simp
              | 7, ho, hfi, hdeps =>
                have ho' := Option.some.inj ho
                subst ho'
                simp [Region.binds] at hdeps
                have e105 : a.tmps[105]? = some (.pointer (some ⟨p, 5, none⟩)) := hst.has 6 _ 105 rfl (by first | exact hdeps | exact hdeps.1 | exact hdeps.2 | exact hdeps.2.1 | simp [hdeps]) rfl
                clear hst hdeps n1 n2 n3
                left
                refine ⟨106, rfl, ?_, by simp [seen]⟩
                cases h9 : f 9 <;> cases h11 : f 11 <;> cases h13 : f 13 <;> cases h15 : f 15 <;> go_simp
              | 8, ho, hfi, hdeps =>
                have ho' := Option.some.inj ho
                subst ho'
                simp [Region.binds] at hdeps
                clear hst hdeps n1 n2 n3
                left
                refine ⟨107, rfl, ?_, by simp [seen]⟩
                go_simp
              | 9, ho, hfi, hdeps =>
                have ho' := Option.some.inj ho
                subst ho'
                simp [Region.binds] at hdeps
                have e107 : a.tmps[107]? = some (.pointer (some ⟨wc.heap.size, 2, none⟩)) := hst.has 8 _ 107 rfl (by first | exact hdeps | exact hdeps.1 | exact hdeps.2 | exact hdeps.2.1 | simp [hdeps]) rfl
                have e100 : a.tmps[100]? = some (.int .i64 s.low) := hst.has 1 _ 100 rfl (by first | exact hdeps | exact hdeps.1 | exact hdeps.2 | exact hdeps.2.1 | simp [hdeps]) rfl
                have z11 : f 11 = false := not_yet n1 hfi
                have z13 : f 13 = false := not_yet n2 z11
                have z15 : f 15 = false := not_yet n3 z13
                clear hst hdeps n1 n2 n3
                right
                refine ⟨rfl, ?_⟩
                simp only [seen, hfi, z11, z13, z15]
                go_simp
              | 10, ho, hfi, hdeps =>
                have ho' := Option.some.inj ho
                subst ho'
                simp [Region.binds] at hdeps
                clear hst hdeps n1 n2 n3
                left
                refine ⟨108, rfl, ?_, by simp [seen]⟩
                go_simp
              | 11, ho, hfi, hdeps =>
                have ho' := Option.some.inj ho
                subst ho'
                simp [Region.binds] at hdeps
                have e108 : a.tmps[108]? = some (.pointer (some ⟨wc.heap.size, 3, none⟩)) := hst.has 10 _ 108 rfl (by first | exact hdeps | exact hdeps.1 | exact hdeps.2 | exact hdeps.2.1 | simp [hdeps]) rfl
                have e102 : a.tmps[102]? = some (.int .i64 s.high) := hst.has 3 _ 102 rfl (by first | exact hdeps | exact hdeps.1 | exact hdeps.2 | exact hdeps.2.1 | simp [hdeps]) rfl
                have z13 : f 13 = false := not_yet n2 hfi
                have z15 : f 15 = false := not_yet n3 z13
                have z9 : f 9 = true := by first | exact hdeps.1 | simp [hdeps]
                clear hst hdeps n1 n2 n3
                right
                refine ⟨rfl, ?_⟩
                simp only [seen, hfi, z9, z13, z15]
                go_simp
              | 12, ho, hfi, hdeps =>
                have ho' := Option.some.inj ho
                subst ho'
                simp [Region.binds] at hdeps
                clear hst hdeps n1 n2 n3
                left
                refine ⟨109, rfl, ?_, by simp [seen]⟩
                go_simp
              | 13, ho, hfi, hdeps =>
                have ho' := Option.some.inj ho
                subst ho'
                simp [Region.binds] at hdeps
                have e109 : a.tmps[109]? = some (.pointer (some ⟨wc.heap.size, 4, none⟩)) := hst.has 12 _ 109 rfl (by first | exact hdeps | exact hdeps.1 | exact hdeps.2 | exact hdeps.2.1 | simp [hdeps]) rfl
                have e104 : a.tmps[104]? = some (.string s.frm) := hst.has 5 _ 104 rfl (by first | exact hdeps | exact hdeps.1 | exact hdeps.2 | exact hdeps.2.1 | simp [hdeps]) rfl
                have z15 : f 15 = false := not_yet n3 hfi
                have z9 : f 9 = true := by first | exact hdeps.1 | simp [hdeps]
                have z11 : f 11 = true := by first | exact hdeps.1 | simp [hdeps]
                clear hst hdeps n1 n2 n3
                right
                refine ⟨rfl, ?_⟩
                simp only [seen, hfi, z9, z11, z15]
                go_simp
              | 14, ho, hfi, hdeps =>
                have ho' := Option.some.inj ho
                subst ho'
                simp [Region.binds] at hdeps
                clear hst hdeps n1 n2 n3
                left
                refine ⟨110, rfl, ?_, by simp [seen]⟩
                go_simp
              | 15, ho, hfi, hdeps =>
                have ho' := Option.some.inj ho
                subst ho'
                simp [Region.binds] at hdeps
                have e110 : a.tmps[110]? = some (.pointer (some ⟨wc.heap.size, 5, none⟩)) := hst.has 14 _ 110 rfl (by first | exact hdeps | exact hdeps.1 | exact hdeps.2 | exact hdeps.2.1 | simp [hdeps]) rfl
                have e106 : a.tmps[106]? = some (.string s.to) := hst.has 7 _ 106 rfl (by first | exact hdeps | exact hdeps.1 | exact hdeps.2 | exact hdeps.2.1 | simp [hdeps]) rfl
                have z9 : f 9 = true := by first | exact hdeps.1 | simp [hdeps]
                have z11 : f 11 = true := by first | exact hdeps.1 | simp [hdeps]
                have z13 : f 13 = true := by first | exact hdeps.1 | simp [hdeps]
                clear hst hdeps n1 n2 n3
                right
                refine ⟨rfl, ?_⟩
                simp only [seen, hfi, z9, z11, z13]
                go_simp
              | j + 16, ho, _, _ => simp at ho
            · have hrg : List.range 16 = [0, 1, 2, 3, 4, 5, 6, 7, 8, 9, 10, 11, 12, 13, 14, 15] := by decide
              simp only [endTmps, dstAt, List.size_toArray, List.length_cons, List.length_nil, Nat.reduceAdd, hrg, List.foldl_cons, List.foldl_nil]
              clear hrg
              go_wp2_with fail
              go_meet
              exact ⟨rfl, below4 HBWY.out _ _ _ _, by rw [set4 HUY.out]; simp [rsideHull, HXO.out, HSO.out, PSide.cells]⟩
          · have HXO : Hid (x.other = true) := Lib.hid hxo
            have HSO : Hid (s.other = false) := Lib.hid hso
            go_wp2_with fail
            refine region_states (W := fun f => if f 15 then ((((wy.drew.setCell ⟨wc.heap.size, 2, none⟩ (.int .i64 x.low)).setCell ⟨wc.heap.size, 3, none⟩ (.int .i64 x.high)).setCell ⟨wc.heap.size, 4, none⟩ (.string x.frm)).setCell ⟨wc.heap.size, 5, none⟩ (.string x.to)) else if f 13 then (((wy.drew.setCell ⟨wc.heap.size, 2, none⟩ (.int .i64 x.low)).setCell ⟨wc.heap.size, 3, none⟩ (.int .i64 x.high)).setCell ⟨wc.heap.size, 4, none⟩ (.string x.frm)) else if f 11 then ((wy.drew.setCell ⟨wc.heap.size, 2, none⟩ (.int .i64 x.low)).setCell ⟨wc.heap.size, 3, none⟩ (.int .i64 x.high)) else if f 9 then (wy.drew.setCell ⟨wc.heap.size, 2, none⟩ (.int .i64 x.low)) else wy.drew)
              (V := fun j => ([.pointer (some ⟨q, 2, none⟩), .int .i64 x.low, .pointer (some ⟨q, 3, none⟩), .int .i64 x.high, .pointer (some ⟨q, 4, none⟩), .string x.frm, .pointer (some ⟨q, 5, none⟩), .string x.to, .pointer (some ⟨wc.heap.size, 2, none⟩), undef, .pointer (some ⟨wc.heap.size, 3, none⟩), undef, .pointer (some ⟨wc.heap.size, 4, none⟩), undef, .pointer (some ⟨wc.heap.size, 5, none⟩), undef] : List Value).getD j undef) (by kernel_rfl) (by kernel_rfl) rfl ?_ ?_
            · intro i o ho f a hst hdf hfi hdeps
              have n1 := hst.needs 11 9 (by kernel_rfl)
              have n2 := hst.needs 13 11 (by kernel_rfl)
              have n3 := hst.needs 15 13 (by kernel_rfl)
              have e7 : a.tmps[7]? = some (.pointer (some ⟨p, 0, none⟩)) := hst.old 7 (old_slot (by kernel_rfl))
              have e8 : a.tmps[8]? = some (.pointer (some ⟨q, 0, none⟩)) := hst.old 8 (old_slot (by kernel_rfl))
              have e9 : a.tmps[9]? = some (.pointer (some ⟨wc.heap.size, 0, none⟩)) := hst.old 9 (old_slot (by kernel_rfl))
              match i, ho, hfi, hdeps with
              | 0, ho, hfi, hdeps =>
                have ho' := Option.some.inj ho
                subst ho'
                clear hst hdeps n1 n2 n3
                left
                refine ⟨53, rfl, ?_, by simp [seen]⟩
                go_simp
              | 1, ho, hfi, hdeps =>
                have ho' := Option.some.inj ho
                subst ho'
                simp [Region.binds] at hdeps
                have e53 : a.tmps[53]? = some (.pointer (some ⟨q, 2, none⟩)) := hst.has 0 _ 53 rfl (by first | exact hdeps | exact hdeps.1 | exact hdeps.2 | exact hdeps.2.1 | simp [hdeps]) rfl
                clear hst hdeps n1 n2 n3
                left
                refine ⟨54, rfl, ?_, by simp [seen]⟩
                cases h9 : f 9 <;> cases h11 : f 11 <;> cases h13 : f 13 <;> cases h15 : f 15 <;> go_simp
              | 2, ho, hfi, hdeps =>
                have ho' := Option.some.inj ho
                subst ho'
                simp [Region.binds] at hdeps
                clear hst hdeps n1 n2 n3
                left
                refine ⟨55, rfl, ?_, by simp [seen]⟩
                go_simp
              | 3, ho, hfi, hdeps =>
                have ho' := Option.some.inj ho
                subst ho'
                simp [Region.binds] at hdeps
                have e55 : a.tmps[55]? = some (.pointer (some ⟨q, 3, none⟩)) := hst.has 2 _ 55 rfl (by first | exact hdeps | exact hdeps.1 | exact hdeps.2 | exact hdeps.2.1 | simp [hdeps]) rfl
                clear hst hdeps n1 n2 n3
                left
                refine ⟨56, rfl, ?_, by simp [seen]⟩
                cases h9 : f 9 <;> cases h11 : f 11 <;> cases h13 : f 13 <;> cases h15 : f 15 <;> go_simp
              | 4, ho, hfi, hdeps =>
                have ho' := Option.some.inj ho
                subst ho'
                simp [Region.binds] at hdeps
                clear hst hdeps n1 n2 n3
                left
                refine ⟨57, rfl, ?_, by simp [seen]⟩
                go_simp
              | 5, ho, hfi, hdeps =>
                have ho' := Option.some.inj ho
                subst ho'
                simp [Region.binds] at hdeps
                have e57 : a.tmps[57]? = some (.pointer (some ⟨q, 4, none⟩)) := hst.has 4 _ 57 rfl (by first | exact hdeps | exact hdeps.1 | exact hdeps.2 | exact hdeps.2.1 | simp [hdeps]) rfl
                clear hst hdeps n1 n2 n3
                left
                refine ⟨58, rfl, ?_, by simp [seen]⟩
                cases h9 : f 9 <;> cases h11 : f 11 <;> cases h13 : f 13 <;> cases h15 : f 15 <;> go_simp
              | 6, ho, hfi, hdeps =>
                have ho' := Option.some.inj ho
                subst ho'
                simp [Region.binds] at hdeps
                clear hst hdeps n1 n2 n3
                left
                refine ⟨59, rfl, ?_, by simp [seen]⟩
                go_simp
              | 7, ho, hfi, hdeps =>
                have ho' := Option.some.inj ho
                subst ho'
                simp [Region.binds] at hdeps
                have e59 : a.tmps[59]? = some (.pointer (some ⟨q, 5, none⟩)) := hst.has 6 _ 59 rfl (by first | exact hdeps | exact hdeps.1 | exact hdeps.2 | exact hdeps.2.1 | simp [hdeps]) rfl
                clear hst hdeps n1 n2 n3
                left
                refine ⟨60, rfl, ?_, by simp [seen]⟩
                cases h9 : f 9 <;> cases h11 : f 11 <;> cases h13 : f 13 <;> cases h15 : f 15 <;> go_simp
              | 8, ho, hfi, hdeps =>
                have ho' := Option.some.inj ho
                subst ho'
                simp [Region.binds] at hdeps
                clear hst hdeps n1 n2 n3
                left
                refine ⟨61, rfl, ?_, by simp [seen]⟩
                go_simp
              | 9, ho, hfi, hdeps =>
                have ho' := Option.some.inj ho
                subst ho'
                simp [Region.binds] at hdeps
                have e61 : a.tmps[61]? = some (.pointer (some ⟨wc.heap.size, 2, none⟩)) := hst.has 8 _ 61 rfl (by first | exact hdeps | exact hdeps.1 | exact hdeps.2 | exact hdeps.2.1 | simp [hdeps]) rfl
                have e54 : a.tmps[54]? = some (.int .i64 x.low) := hst.has 1 _ 54 rfl (by first | exact hdeps | exact hdeps.1 | exact hdeps.2 | exact hdeps.2.1 | simp [hdeps]) rfl
                have z11 : f 11 = false := not_yet n1 hfi
                have z13 : f 13 = false := not_yet n2 z11
                have z15 : f 15 = false := not_yet n3 z13
                clear hst hdeps n1 n2 n3
                right
                refine ⟨rfl, ?_⟩
                simp only [seen, hfi, z11, z13, z15]
                go_simp
              | 10, ho, hfi, hdeps =>
                have ho' := Option.some.inj ho
                subst ho'
                simp [Region.binds] at hdeps
                clear hst hdeps n1 n2 n3
                left
                refine ⟨62, rfl, ?_, by simp [seen]⟩
                go_simp
              | 11, ho, hfi, hdeps =>
                have ho' := Option.some.inj ho
                subst ho'
                simp [Region.binds] at hdeps
                have e62 : a.tmps[62]? = some (.pointer (some ⟨wc.heap.size, 3, none⟩)) := hst.has 10 _ 62 rfl (by first | exact hdeps | exact hdeps.1 | exact hdeps.2 | exact hdeps.2.1 | simp [hdeps]) rfl
                have e56 : a.tmps[56]? = some (.int .i64 x.high) := hst.has 3 _ 56 rfl (by first | exact hdeps | exact hdeps.1 | exact hdeps.2 | exact hdeps.2.1 | simp [hdeps]) rfl
                have z13 : f 13 = false := not_yet n2 hfi
                have z15 : f 15 = false := not_yet n3 z13
                have z9 : f 9 = true := by first | exact hdeps.1 | simp [hdeps]
                clear hst hdeps n1 n2 n3
                right
                refine ⟨rfl, ?_⟩
                simp only [seen, hfi, z9, z13, z15]
                go_simp
              | 12, ho, hfi, hdeps =>
                have ho' := Option.some.inj ho
                subst ho'
                simp [Region.binds] at hdeps
                clear hst hdeps n1 n2 n3
                left
                refine ⟨63, rfl, ?_, by simp [seen]⟩
                go_simp
              | 13, ho, hfi, hdeps =>
                have ho' := Option.some.inj ho
                subst ho'
                simp [Region.binds] at hdeps
                have e63 : a.tmps[63]? = some (.pointer (some ⟨wc.heap.size, 4, none⟩)) := hst.has 12 _ 63 rfl (by first | exact hdeps | exact hdeps.1 | exact hdeps.2 | exact hdeps.2.1 | simp [hdeps]) rfl
                have e58 : a.tmps[58]? = some (.string x.frm) := hst.has 5 _ 58 rfl (by first | exact hdeps | exact hdeps.1 | exact hdeps.2 | exact hdeps.2.1 | simp [hdeps]) rfl
                have z15 : f 15 = false := not_yet n3 hfi
                have z9 : f 9 = true := by first | exact hdeps.1 | simp [hdeps]
                have z11 : f 11 = true := by first | exact hdeps.1 | simp [hdeps]
                clear hst hdeps n1 n2 n3
                right
                refine ⟨rfl, ?_⟩
                simp only [seen, hfi, z9, z11, z15]
                go_simp
              | 14, ho, hfi, hdeps =>
                have ho' := Option.some.inj ho
                subst ho'
                simp [Region.binds] at hdeps
                clear hst hdeps n1 n2 n3
                left
                refine ⟨64, rfl, ?_, by simp [seen]⟩
                go_simp
              | 15, ho, hfi, hdeps =>
                have ho' := Option.some.inj ho
                subst ho'
                simp [Region.binds] at hdeps
                have e64 : a.tmps[64]? = some (.pointer (some ⟨wc.heap.size, 5, none⟩)) := hst.has 14 _ 64 rfl (by first | exact hdeps | exact hdeps.1 | exact hdeps.2 | exact hdeps.2.1 | simp [hdeps]) rfl
                have e60 : a.tmps[60]? = some (.string x.to) := hst.has 7 _ 60 rfl (by first | exact hdeps | exact hdeps.1 | exact hdeps.2 | exact hdeps.2.1 | simp [hdeps]) rfl
                have z9 : f 9 = true := by first | exact hdeps.1 | simp [hdeps]
                have z11 : f 11 = true := by first | exact hdeps.1 | simp [hdeps]
                have z13 : f 13 = true := by first | exact hdeps.1 | simp [hdeps]
                clear hst hdeps n1 n2 n3
                right
                refine ⟨rfl, ?_⟩
                simp only [seen, hfi, z9, z11, z13]
                go_simp
              | j + 16, ho, _, _ => simp at ho
            · have hrg : List.range 16 = [0, 1, 2, 3, 4, 5, 6, 7, 8, 9, 10, 11, 12, 13, 14, 15] := by decide
              simp only [endTmps, dstAt, List.size_toArray, List.length_cons, List.length_nil, Nat.reduceAdd, hrg, List.foldl_cons, List.foldl_nil]
              clear hrg
              go_wp2_with fail
              go_meet
              exact ⟨rfl, below4 HBWY.out _ _ _ _, by rw [set4 HUY.out]; simp [rsideHull, HXO.out, HSO.out, PSide.cells]⟩
          · have HXO : Hid (x.other = true) := Lib.hid hxo
            have HSO : Hid (s.other = true) := Lib.hid hso
            go_wp2_with fail
            refine region_states (W := fun f => if f 27 then ((((wy.drew.setCell ⟨wc.heap.size, 2, none⟩ (.int .i64 (min s.low x.low))).setCell ⟨wc.heap.size, 3, none⟩ (.int .i64 (max s.high x.high))).setCell ⟨wc.heap.size, 4, none⟩ (.string (Lib.minS s.frm x.frm))).setCell ⟨wc.heap.size, 5, none⟩ (.string (Lib.maxS s.to x.to))) else if f 25 then (((wy.drew.setCell ⟨wc.heap.size, 2, none⟩ (.int .i64 (min s.low x.low))).setCell ⟨wc.heap.size, 3, none⟩ (.int .i64 (max s.high x.high))).setCell ⟨wc.heap.size, 4, none⟩ (.string (Lib.minS s.frm x.frm))) else if f 23 then ((wy.drew.setCell ⟨wc.heap.size, 2, none⟩ (.int .i64 (min s.low x.low))).setCell ⟨wc.heap.size, 3, none⟩ (.int .i64 (max s.high x.high))) else if f 21 then (wy.drew.setCell ⟨wc.heap.size, 2, none⟩ (.int .i64 (min s.low x.low))) else wy.drew)
              (V := fun j => ([.pointer (some ⟨p, 2, none⟩), .int .i64 s.low, .pointer (some ⟨q, 2, none⟩), .int .i64 x.low, .int .i64 (min s.low x.low), .pointer (some ⟨p, 3, none⟩), .int .i64 s.high, .pointer (some ⟨q, 3, none⟩), .int .i64 x.high, .int .i64 (max s.high x.high), .pointer (some ⟨p, 4, none⟩), .string s.frm, .pointer (some ⟨q, 4, none⟩), .string x.frm, .string (Lib.minS s.frm x.frm), .pointer (some ⟨p, 5, none⟩), .string s.to, .pointer (some ⟨q, 5, none⟩), .string x.to, .string (Lib.maxS s.to x.to), .pointer (some ⟨wc.heap.size, 2, none⟩), undef, .pointer (some ⟨wc.heap.size, 3, none⟩), undef, .pointer (some ⟨wc.heap.size, 4, none⟩), undef, .pointer (some ⟨wc.heap.size, 5, none⟩), undef] : List Value).getD j undef) (by kernel_rfl) (by kernel_rfl) rfl ?_ ?_
            · intro i o ho f a hst hdf hfi hdeps
              have n1 := hst.needs 23 21 (by kernel_rfl)
              have n2 := hst.needs 25 23 (by kernel_rfl)
              have n3 := hst.needs 27 25 (by kernel_rfl)
              have e7 : a.tmps[7]? = some (.pointer (some ⟨p, 0, none⟩)) := hst.old 7 (old_slot (by kernel_rfl))
              have e8 : a.tmps[8]? = some (.pointer (some ⟨q, 0, none⟩)) := hst.old 8 (old_slot (by kernel_rfl))
              have e9 : a.tmps[9]? = some (.pointer (some ⟨wc.heap.size, 0, none⟩)) := hst.old 9 (old_slot (by kernel_rfl))
              match i, ho, hfi, hdeps with
              | 0, ho, hfi, hdeps =>
                have ho' := Option.some.inj ho
                subst ho'
                clear hst hdeps n1 n2 n3
                left
                refine ⟨72, rfl, ?_, by simp [seen]⟩
                go_simp
              | 1, ho, hfi, hdeps =>
                have ho' := Option.some.inj ho
                subst ho'
                simp [Region.binds] at hdeps
                have e72 : a.tmps[72]? = some (.pointer (some ⟨p, 2, none⟩)) := hst.has 0 _ 72 rfl (by first | exact hdeps | exact hdeps.1 | exact hdeps.2 | exact hdeps.2.1 | simp [hdeps]) rfl
                clear hst hdeps n1 n2 n3
                left
                refine ⟨73, rfl, ?_, by simp [seen]⟩
                cases h21 : f 21 <;> cases h23 : f 23 <;> cases h25 : f 25 <;> cases h27 : f 27 <;> go_simp
              | 2, ho, hfi, hdeps =>
                have ho' := Option.some.inj ho
                subst ho'
                clear hst hdeps n1 n2 n3
                left
                refine ⟨74, rfl, ?_, by simp [seen]⟩
                go_simp
              | 3, ho, hfi, hdeps =>
                have ho' := Option.some.inj ho
                subst ho'
                simp [Region.binds] at hdeps
                have e74 : a.tmps[74]? = some (.pointer (some ⟨q, 2, none⟩)) := hst.has 2 _ 74 rfl (by first | exact hdeps | exact hdeps.1 | exact hdeps.2 | exact hdeps.2.1 | simp [hdeps]) rfl
                clear hst hdeps n1 n2 n3
                left
                refine ⟨75, rfl, ?_, by simp [seen]⟩
                cases h21 : f 21 <;> cases h23 : f 23 <;> cases h25 : f 25 <;> cases h27 : f 27 <;> go_simp
              | 4, ho, hfi, hdeps =>
                have ho' := Option.some.inj ho
                subst ho'
                simp [Region.binds] at hdeps
                have e73 : a.tmps[73]? = some (.int .i64 s.low) := hst.has 1 _ 73 rfl (by first | exact hdeps | exact hdeps.1 | exact hdeps.2 | exact hdeps.2.1 | simp [hdeps]) rfl
                have e75 : a.tmps[75]? = some (.int .i64 x.low) := hst.has 3 _ 75 rfl (by first | exact hdeps | exact hdeps.1 | exact hdeps.2 | exact hdeps.2.1 | simp [hdeps]) rfl
                clear hst hdeps n1 n2 n3
                left
                refine ⟨76, rfl, ?_, by simp [seen]⟩
                go_simp
              | 5, ho, hfi, hdeps =>
                have ho' := Option.some.inj ho
                subst ho'
                clear hst hdeps n1 n2 n3
                left
                refine ⟨77, rfl, ?_, by simp [seen]⟩
                go_simp
              | 6, ho, hfi, hdeps =>
                have ho' := Option.some.inj ho
                subst ho'
                simp [Region.binds] at hdeps
                have e77 : a.tmps[77]? = some (.pointer (some ⟨p, 3, none⟩)) := hst.has 5 _ 77 rfl (by first | exact hdeps | exact hdeps.1 | exact hdeps.2 | exact hdeps.2.1 | simp [hdeps]) rfl
                clear hst hdeps n1 n2 n3
                left
                refine ⟨78, rfl, ?_, by simp [seen]⟩
                cases h21 : f 21 <;> cases h23 : f 23 <;> cases h25 : f 25 <;> cases h27 : f 27 <;> go_simp
              | 7, ho, hfi, hdeps =>
                have ho' := Option.some.inj ho
                subst ho'
                clear hst hdeps n1 n2 n3
                left
                refine ⟨79, rfl, ?_, by simp [seen]⟩
                go_simp
              | 8, ho, hfi, hdeps =>
                have ho' := Option.some.inj ho
                subst ho'
                simp [Region.binds] at hdeps
                have e79 : a.tmps[79]? = some (.pointer (some ⟨q, 3, none⟩)) := hst.has 7 _ 79 rfl (by first | exact hdeps | exact hdeps.1 | exact hdeps.2 | exact hdeps.2.1 | simp [hdeps]) rfl
                clear hst hdeps n1 n2 n3
                left
                refine ⟨80, rfl, ?_, by simp [seen]⟩
                cases h21 : f 21 <;> cases h23 : f 23 <;> cases h25 : f 25 <;> cases h27 : f 27 <;> go_simp
              | 9, ho, hfi, hdeps =>
                have ho' := Option.some.inj ho
                subst ho'
                simp [Region.binds] at hdeps
                have e78 : a.tmps[78]? = some (.int .i64 s.high) := hst.has 6 _ 78 rfl (by first | exact hdeps | exact hdeps.1 | exact hdeps.2 | exact hdeps.2.1 | simp [hdeps]) rfl
                have e80 : a.tmps[80]? = some (.int .i64 x.high) := hst.has 8 _ 80 rfl (by first | exact hdeps | exact hdeps.1 | exact hdeps.2 | exact hdeps.2.1 | simp [hdeps]) rfl
                clear hst hdeps n1 n2 n3
                left
                refine ⟨81, rfl, ?_, by simp [seen]⟩
                go_simp
              | 10, ho, hfi, hdeps =>
                have ho' := Option.some.inj ho
                subst ho'
                clear hst hdeps n1 n2 n3
                left
                refine ⟨82, rfl, ?_, by simp [seen]⟩
                go_simp
              | 11, ho, hfi, hdeps =>
                have ho' := Option.some.inj ho
                subst ho'
                simp [Region.binds] at hdeps
                have e82 : a.tmps[82]? = some (.pointer (some ⟨p, 4, none⟩)) := hst.has 10 _ 82 rfl (by first | exact hdeps | exact hdeps.1 | exact hdeps.2 | exact hdeps.2.1 | simp [hdeps]) rfl
                clear hst hdeps n1 n2 n3
                left
                refine ⟨83, rfl, ?_, by simp [seen]⟩
                cases h21 : f 21 <;> cases h23 : f 23 <;> cases h25 : f 25 <;> cases h27 : f 27 <;> go_simp
              | 12, ho, hfi, hdeps =>
                have ho' := Option.some.inj ho
                subst ho'
                clear hst hdeps n1 n2 n3
                left
                refine ⟨84, rfl, ?_, by simp [seen]⟩
                go_simp
              | 13, ho, hfi, hdeps =>
                have ho' := Option.some.inj ho
                subst ho'
                simp [Region.binds] at hdeps
                have e84 : a.tmps[84]? = some (.pointer (some ⟨q, 4, none⟩)) := hst.has 12 _ 84 rfl (by first | exact hdeps | exact hdeps.1 | exact hdeps.2 | exact hdeps.2.1 | simp [hdeps]) rfl
                clear hst hdeps n1 n2 n3
                left
                refine ⟨85, rfl, ?_, by simp [seen]⟩
                cases h21 : f 21 <;> cases h23 : f 23 <;> cases h25 : f 25 <;> cases h27 : f 27 <;> go_simp
              | 14, ho, hfi, hdeps =>
                have ho' := Option.some.inj ho
                subst ho'
                simp [Region.binds] at hdeps
                have e83 : a.tmps[83]? = some (.string s.frm) := hst.has 11 _ 83 rfl (by first | exact hdeps | exact hdeps.1 | exact hdeps.2 | exact hdeps.2.1 | simp [hdeps]) rfl
                have e85 : a.tmps[85]? = some (.string x.frm) := hst.has 13 _ 85 rfl (by first | exact hdeps | exact hdeps.1 | exact hdeps.2 | exact hdeps.2.1 | simp [hdeps]) rfl
                clear hst hdeps n1 n2 n3
                left
                refine ⟨86, rfl, ?_, by simp [seen]⟩
                go_simp
              | 15, ho, hfi, hdeps =>
                have ho' := Option.some.inj ho
                subst ho'
                clear hst hdeps n1 n2 n3
                left
                refine ⟨87, rfl, ?_, by simp [seen]⟩
                go_simp
              | 16, ho, hfi, hdeps =>
                have ho' := Option.some.inj ho
                subst ho'
                simp [Region.binds] at hdeps
                have e87 : a.tmps[87]? = some (.pointer (some ⟨p, 5, none⟩)) := hst.has 15 _ 87 rfl (by first | exact hdeps | exact hdeps.1 | exact hdeps.2 | exact hdeps.2.1 | simp [hdeps]) rfl
                clear hst hdeps n1 n2 n3
                left
                refine ⟨88, rfl, ?_, by simp [seen]⟩
                cases h21 : f 21 <;> cases h23 : f 23 <;> cases h25 : f 25 <;> cases h27 : f 27 <;> go_simp
              | 17, ho, hfi, hdeps =>
                have ho' := Option.some.inj ho
                subst ho'
                clear hst hdeps n1 n2 n3
                left
                refine ⟨89, rfl, ?_, by simp [seen]⟩
                go_simp
              | 18, ho, hfi, hdeps =>
                have ho' := Option.some.inj ho
                subst ho'
                simp [Region.binds] at hdeps
                have e89 : a.tmps[89]? = some (.pointer (some ⟨q, 5, none⟩)) := hst.has 17 _ 89 rfl (by first | exact hdeps | exact hdeps.1 | exact hdeps.2 | exact hdeps.2.1 | simp [hdeps]) rfl
                clear hst hdeps n1 n2 n3
                left
                refine ⟨90, rfl, ?_, by simp [seen]⟩
                cases h21 : f 21 <;> cases h23 : f 23 <;> cases h25 : f 25 <;> cases h27 : f 27 <;> go_simp
              | 19, ho, hfi, hdeps =>
                have ho' := Option.some.inj ho
                subst ho'
                simp [Region.binds] at hdeps
                have e88 : a.tmps[88]? = some (.string s.to) := hst.has 16 _ 88 rfl (by first | exact hdeps | exact hdeps.1 | exact hdeps.2 | exact hdeps.2.1 | simp [hdeps]) rfl
                have e90 : a.tmps[90]? = some (.string x.to) := hst.has 18 _ 90 rfl (by first | exact hdeps | exact hdeps.1 | exact hdeps.2 | exact hdeps.2.1 | simp [hdeps]) rfl
                clear hst hdeps n1 n2 n3
                left
                refine ⟨91, rfl, ?_, by simp [seen]⟩
                go_simp
              | 20, ho, hfi, hdeps =>
                have ho' := Option.some.inj ho
                subst ho'
                simp [Region.binds] at hdeps
                clear hst hdeps n1 n2 n3
                left
                refine ⟨92, rfl, ?_, by simp [seen]⟩
                go_simp
              | 21, ho, hfi, hdeps =>
                have ho' := Option.some.inj ho
                subst ho'
                simp [Region.binds] at hdeps
                have e92 : a.tmps[92]? = some (.pointer (some ⟨wc.heap.size, 2, none⟩)) := hst.has 20 _ 92 rfl (by first | exact hdeps | exact hdeps.1 | exact hdeps.2 | exact hdeps.2.1 | simp [hdeps]) rfl
                have e76 : a.tmps[76]? = some (.int .i64 (min s.low x.low)) := hst.has 4 _ 76 rfl (by first | exact hdeps | exact hdeps.1 | exact hdeps.2 | exact hdeps.2.1 | simp [hdeps]) rfl
                have z23 : f 23 = false := not_yet n1 hfi
                have z25 : f 25 = false := not_yet n2 z23
                have z27 : f 27 = false := not_yet n3 z25
                clear hst hdeps n1 n2 n3
                right
                refine ⟨rfl, ?_⟩
                simp only [seen, hfi, z23, z25, z27]
                go_simp
              | 22, ho, hfi, hdeps =>
                have ho' := Option.some.inj ho
                subst ho'
                simp [Region.binds] at hdeps
                clear hst hdeps n1 n2 n3
                left
                refine ⟨93, rfl, ?_, by simp [seen]⟩
                go_simp
              | 23, ho, hfi, hdeps =>
                have ho' := Option.some.inj ho
                subst ho'
                simp [Region.binds] at hdeps
                have e93 : a.tmps[93]? = some (.pointer (some ⟨wc.heap.size, 3, none⟩)) := hst.has 22 _ 93 rfl (by first | exact hdeps | exact hdeps.1 | exact hdeps.2 | exact hdeps.2.1 | simp [hdeps]) rfl
                have e81 : a.tmps[81]? = some (.int .i64 (max s.high x.high)) := hst.has 9 _ 81 rfl (by first | exact hdeps | exact hdeps.1 | exact hdeps.2 | exact hdeps.2.1 | simp [hdeps]) rfl
                have z25 : f 25 = false := not_yet n2 hfi
                have z27 : f 27 = false := not_yet n3 z25
                have z21 : f 21 = true := by first | exact hdeps.1 | simp [hdeps]
                clear hst hdeps n1 n2 n3
                right
                refine ⟨rfl, ?_⟩
                simp only [seen, hfi, z21, z25, z27]
                go_simp
              | 24, ho, hfi, hdeps =>
                have ho' := Option.some.inj ho
                subst ho'
                simp [Region.binds] at hdeps
                clear hst hdeps n1 n2 n3
                left
                refine ⟨94, rfl, ?_, by simp [seen]⟩
                go_simp
              | 25, ho, hfi, hdeps =>
                have ho' := Option.some.inj ho
                subst ho'
                simp [Region.binds] at hdeps
                have e94 : a.tmps[94]? = some (.pointer (some ⟨wc.heap.size, 4, none⟩)) := hst.has 24 _ 94 rfl (by first | exact hdeps | exact hdeps.1 | exact hdeps.2 | exact hdeps.2.1 | simp [hdeps]) rfl
                have e86 : a.tmps[86]? = some (.string (Lib.minS s.frm x.frm)) := hst.has 14 _ 86 rfl (by first | exact hdeps | exact hdeps.1 | exact hdeps.2 | exact hdeps.2.1 | simp [hdeps]) rfl
                have z27 : f 27 = false := not_yet n3 hfi
                have z21 : f 21 = true := by first | exact hdeps.1 | simp [hdeps]
                have z23 : f 23 = true := by first | exact hdeps.1 | simp [hdeps]
                clear hst hdeps n1 n2 n3
                right
                refine ⟨rfl, ?_⟩
                simp only [seen, hfi, z21, z23, z27]
                go_simp
              | 26, ho, hfi, hdeps =>
                have ho' := Option.some.inj ho
                subst ho'
                simp [Region.binds] at hdeps
                clear hst hdeps n1 n2 n3
                left
                refine ⟨95, rfl, ?_, by simp [seen]⟩
                go_simp
              | 27, ho, hfi, hdeps =>
                have ho' := Option.some.inj ho
                subst ho'
                simp [Region.binds] at hdeps
                have e95 : a.tmps[95]? = some (.pointer (some ⟨wc.heap.size, 5, none⟩)) := hst.has 26 _ 95 rfl (by first | exact hdeps | exact hdeps.1 | exact hdeps.2 | exact hdeps.2.1 | simp [hdeps]) rfl
                have e91 : a.tmps[91]? = some (.string (Lib.maxS s.to x.to)) := hst.has 19 _ 91 rfl (by first | exact hdeps | exact hdeps.1 | exact hdeps.2 | exact hdeps.2.1 | simp [hdeps]) rfl
                have z21 : f 21 = true := by first | exact hdeps.1 | simp [hdeps]
                have z23 : f 23 = true := by first | exact hdeps.1 | simp [hdeps]
                have z25 : f 25 = true := by first | exact hdeps.1 | simp [hdeps]
                clear hst hdeps n1 n2 n3
                right
                refine ⟨rfl, ?_⟩
                simp only [seen, hfi, z21, z23, z25]
                go_simp
              | j + 28, ho, _, _ => simp at ho
            · have hrg : List.range 28 = [0, 1, 2, 3, 4, 5, 6, 7, 8, 9, 10, 11, 12, 13, 14, 15, 16, 17, 18, 19, 20, 21, 22, 23, 24, 25, 26, 27] := by decide
              simp only [endTmps, dstAt, List.size_toArray, List.length_cons, List.length_nil, Nat.reduceAdd, hrg, List.foldl_cons, List.foldl_nil]
              clear hrg
              go_wp2_with fail
              go_meet
              exact ⟨rfl, below4 HBWY.out _ _ _ _, by rw [set4 HUY.out]; simp [rsideHull, HXO.out, HSO.out, PSide.cells]⟩
        case rest =>
        obtain ⟨rfl, hbz, huz⟩ := hcut
        rename World => wz
        clear P0 P1 P2 P3 P4 P5 Q0 Q1 Q2 Q3 Q4 Q5 u0 u1 u2 u3 u4 u5 fu2 fu3 fu4 fu5 HUY HBWY hzy hpu hqu
        generalize rsideHull s x = r at *
        have hoc : wz.cell? ⟨w.heap.size + 1 + 1 + 1, 1, none⟩ = some (Value.slice va k vc) := (hbz.cell (by exact hzz)).trans HOC0.out
        have hof : wz.frozen? ⟨w.heap.size + 1 + 1 + 1, 1, none⟩ = false := (hbz.frozen (by exact hzz)).trans HOF0.out
        have hzw : wc.heap.size < wz.heap.size := lt_blk huz
        have v0 := cell_blk huz 0
        have v1 := cell_blk huz 1
        have v2 := cell_blk huz 2
        have v3 := cell_blk huz 3
        have v4 := cell_blk huz 4
        have v5 := cell_blk huz 5
        simp only [PSide.cells, List.getElem?_toArray, List.getElem?_cons_succ, List.getElem?_cons_zero] at v0 v1 v2 v3 v4 v5
        have HOWZ : Hid (wz.ownsRow (w.heap.size + 4) 51 6 (.slice va k vc) k ls.flatten) := Lib.hid (HOW2.out.kept (row := none) ⟨hbz.os, hbz.tape, hbz.output, hbz.size, fun q hq _ => hbz.block q hq⟩ (by cases h : (Value.slice va k vc).ownBlock <;> simp))
        have HBZ : Hid (Below wr.heap.size wr wz) := Lib.hid (HBX2.out.trans (hbz.mono HBX2.out.size))
        have HBZM : Hid (Below (w.heap.size + 2) wr wz) := Lib.hid (HBZ.out.mono (by omega))
        clear huz hbz
        go_wp2_with (at_builtin; refine wpList_append_own _ rfl _ _ 22 rfl (w.heap.size + 4) 51 i0 _ 6 56 Try.underlying22 hi hz0 hz1 hz2 rfl (by decide) _ _ _ rfl (HOWZ.out.alloc _) ⟨wz.heap.size, 0, none⟩ 1 1 (PSide.cells r) rfl rfl ?c1 ?c2 ?c3 ?c4 ?c5 ?_)
        case c1 =>
          intro j u hj
          simp only [PSide.cells] at hj
          match j, hj with
          | 0, hj => simp at hj; subst hj; simp [Addr.add]
          | 1, hj => simp at hj; subst hj; simp [Addr.add]
          | 2, hj => simp at hj; subst hj; simp [Addr.add]
          | 3, hj => simp at hj; subst hj; simp [Addr.add]
          | 4, hj => simp at hj; subst hj; simp [Addr.add]
          | 5, hj => simp at hj; subst hj; simp [Addr.add]
        case c2 => intro u hu; simp [PSide.cells] at hu; rcases hu with rfl | rfl | rfl | rfl | rfl | rfl <;> rfl
        case c3 => unfold maxLen; omega
        case c4 => omega
        case c5 => simp; omega
        intro v' w1 hown' hgrow _
        obtain ⟨va', vc', rfl, hb1, hb2, hnx⟩ := RowInv4.next HI.out HLL.out HL.out HR.out HW.out HOW.out (HBZ.out.alloc HBZ.out.size _) hgrow hown'
        have HX := Lib.hid hnx
        have hd1 := cell_blk hb2 1
        simp only [List.getElem?_toArray, List.getElem?_cons_succ, List.getElem?_cons_zero] at hd1
        have hdf := free_blk hb2 1
        have HBN : Hid (Below (w.heap.size + 2) w0 w1) := Lib.hid (HBW.out.trans ((HBZM.out.alloc (by have := HBZM.out.size; omega) _).grown hgrow (by simp <;> omega) (fun q hq => by have := (HOW.out.lt q hq).1; omega)))
        clear hown' hgrow hnx hb1 hb2 hoc hof
        go_wp2
        go_roundw
        case rel => exact ⟨k + 1, va', vc', by omega, by go_num, HBN.out.setCell (by simp <;> omega) _, by rw [HTK.out]; exact HX.out⟩
        case measure => simp [intOf]; omega
    · have hke : k = n' := by omega
      have hOs : RowInv4 w wr 24 51 (w.heap.size + 1 + 1) (w.heap.size + 1 + 1 + 1) t (List.zipWith rsideHull ss ts) va k vc := by
        have e1 : ss.take k = ss := List.take_of_length_le (by rw [HN.out]; omega)
        have e2 : ts.take k = ts := List.take_of_length_le (by rw [HN'.out]; omega)
        rw [e1, e2] at hinv; exact hinv
      have HOS := Lib.hid hOs
      have hd0 := cell_blk hinv.2.1 0
      have hd1 := cell_blk hinv.2.1 1
      have he0 := cell_blk hinv.1 0
      have he1 := cell_blk hinv.1 1
      have hg0 := free_blk hinv.1 0
      have hg1 := free_blk hinv.1 1
      simp only [List.getElem?_toArray, List.getElem?_cons_succ, List.getElem?_cons_zero] at hd0 hd1 he0 he1
      clear hOs hke hinv hbw
      go_wp2
      obtain ⟨hk1, hk2, hbe, hO⟩ := HOS.out
      have hfin : (wr.setCell { block := w.heap.size + 1 + 1, off := 0 } (Value.int IntKind.i64 t)).heap[w.heap.size + 1 + 1]? = some (.cells #[.int .i64 t, .slice none 0 0] 24 (0, 0)) := by
        rw [heap_setCell_same _ _ _ _ _ _ hk1]; rfl
      refine bodyPost_ret (v := .agg #[.int .i64 t, .slice va k vc]) ?_ rfl ⟨⟨_, rfl, ?_⟩, (hbe.setCell (by simp <;> omega) _).setCell (by simp <;> omega) _⟩
      · have h2 : ((wr.setCell { block := w.heap.size + 1 + 1, off := 0 } (Value.int IntKind.i64 t)).setCell { block := w.heap.size + 1 + 1, off := 1 } (Value.slice va k vc)).heap[w.heap.size + 1 + 1]? = some (.cells #[.int .i64 t, .slice va k vc] 24 (0, 0)) := by
          rw [heap_setCell_same _ _ _ _ _ _ hfin]; rfl
        exact results_cell_row rfl _ _ _ 24 _ (0, 0) _ rfl h2 Try.underlying24 rfl (by kernel_rfl)
      · refine SliceRep.mono (S := fun q => q < wr.heap.size ∧ w.heap.size + 4 ≤ q) (fun q hq => ⟨by have := hq.2; omega, by simp; exact hq.1⟩) ?_
        refine SliceRep.ext (w := wr) (fun q hq => ?_) (hO.slice (by have := HN.out; simp; omega) (fun _ h => h.elim) (fun q hq => ⟨(hO.lt q hq).2, (hO.lt q hq).1⟩))
        rw [heap_setCell_other _ _ _ _ (by simp; omega), heap_setCell_other _ _ _ _ (by simp; omega)]
end Go.Proofs.Ytcbpakbhklbdnaa
