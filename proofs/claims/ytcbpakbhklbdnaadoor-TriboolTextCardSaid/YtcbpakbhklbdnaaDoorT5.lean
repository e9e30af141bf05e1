/- The walks of Format, Name, Parse and of the law over texts. -/
import Derived.Test.YtcbpakbhklbdnaaDoorT4
import Derived.OpenShut
import Derived.Outline
import Derived.Stop.LaidErr
namespace Go.Proofs.YtcbpakbhklbdnaaDoor
open Go.ChangeShapes Go.WideShapes Go.ChangeAt Go.RowKit

abbrev sF : ByteArray := ⟨#[70, 65, 76, 83, 69]⟩
abbrev sU : ByteArray := ⟨#[85, 78, 75, 78, 79, 87, 78]⟩
abbrev sT : ByteArray := ⟨#[84, 82, 85, 69]⟩
def TabN (w : World) : Prop := w.cell? ⟨1, 0, none⟩ = some (.string sF) ∧ w.cell? ⟨1, 1, none⟩ = some (.string sU) ∧ w.cell? ⟨1, 2, none⟩ = some (.string sT)

theorem tabn_of' {W : World} {rest} (h : laidMet Tryd.prog ((nNames, Rows.laid_disjoint_tribool_names) :: rest) W) : TabN W := by
  obtain ⟨ps, ⟨g, t, cs, fuel, p, q, hg, ht, hv, hd, _, _⟩, _⟩ := h
  obtain rfl := Option.some.inj (gNames.symm.trans hg)
  obtain rfl := Option.some.inj (tNames.symm.trans ht)
  obtain ⟨xs, m, hcs, hx, hlen, hn3, hel⟩ := DataW.trod_array Tryd.underlying42 hd
  have c9 : Tryd.prog.cellsOf 9 = 1 := by kernel_rfl
  have h0 := hel 0 (by decide)
  have h1 := hel 1 (by decide)
  have h2 := hel 2 (by decide)
  have c42 : Tryd.prog.cellsOf 42 = 3 := by kernel_rfl
  rw [c9] at h0 h1 h2
  rw [c42] at hlen
  simp only [Prod.mk.injEq, Rows.laid_disjoint_tribool_names, DataW.agg.injEq] at hx
  match xs, hn3, hx, h0, h1, h2 with
  | [x0, x1, x2], _, hx, h0, h1, h2 =>
    obtain ⟨l⟩ := cs
    match l, hlen with
    | [l0, l1, l2], _ =>
      simp only [List.map_cons, List.map_nil, List.cons.injEq] at hx
      obtain ⟨s0, e0, f0, _⟩ := DataW.trod_string Tryd.underlying9 (show DataW.trod _ Tryd.prog W 0 _ _ m 9 [l0] = some x0 from h0)
      obtain ⟨s1, e1, f1, _⟩ := DataW.trod_string Tryd.underlying9 (show DataW.trod _ Tryd.prog W 0 _ _ m 9 [l1] = some x1 from h1)
      obtain ⟨s2, e2, f2, _⟩ := DataW.trod_string Tryd.underlying9 (show DataW.trod _ Tryd.prog W 0 _ _ m 9 [l2] = some x2 from h2)
      simp only [List.cons.injEq, and_true] at e0 e1 e2
      subst e0 e1 e2 f0 f1 f2
      obtain ⟨⟨z0, z1, z2, _⟩, _⟩ := hx
      simp only [DataW.lit.injEq, Lit.string.injEq] at z0 z1 z2
      have c0 := World.var?_cell hg hv 0
      have c1 := World.var?_cell hg hv 1
      have c2 := World.var?_cell hg hv 2
      refine ⟨?_, ?_, ?_⟩
      · rw [c0]; simp only [List.getElem?_toArray, List.getElem?_cons_zero, Option.some.injEq, Value.string.injEq]
        exact ByteArray.ext (Array.toList_inj.1 z0.symm)
      · rw [c1]; simp only [List.getElem?_toArray, List.getElem?_cons_zero, List.getElem?_cons_succ, Option.some.injEq, Value.string.injEq]
        exact ByteArray.ext (Array.toList_inj.1 z1.symm)
      · rw [c2]; simp only [List.getElem?_toArray, List.getElem?_cons_zero, List.getElem?_cons_succ, Option.some.injEq, Value.string.injEq]
        exact ByteArray.ext (Array.toList_inj.1 z2.symm)

theorem tabs2_of {W : World} (h : laidMetH Tryd.prog Rows.triboolTextRow.laid W) : Tab W ∧ TabN W := by
  rw [MakeChecks.laidMetH_plain _ _ _ (by kernel_rfl)] at h
  refine ⟨tabs_of' (rest := [(nNames, Rows.laid_disjoint_tribool_names)]) h, tabn_of' (rest := []) ?_⟩
  exact laidMet.tail h

def nm (r : Int) : ByteArray := if r = 0 then sF else if r = 1 then sU else sT
def rnm (v : Int) : ByteArray := if v = 0 then sF else if v = 1 then sT else sU

theorem format_at (a ra : Int) (s : ByteArray) (w : World) (ha : Hid (rk a = ra)) (ha' : ra = 0 ∨ ra = 1 ∨ ra = 2) (hT : TabN w) (hs : Hid (nm ra = s)) :
    Calls Tryd.prog 22 #[.int .i64 a] w fun e w' => e = .returned (.string s) ∧ w = w' := by
  obtain ⟨h0, h1, h2⟩ := hT
  rcases ha' with rfl | rfl | rfl
  all_goals
    go_enter Tryd.func22, Tryd.ntmps22
    go_wp2_with fail
    refine (rank_at _ _ _ ha).mono ?_
    rintro e w' ⟨rfl, rfl⟩
    go_wp2
    go_ret
    refine ⟨?_, rfl⟩
    rw [← hs.out]
    rfl
theorem format_any (a : Int) (w : World) (hT : TabN w) : Calls Tryd.prog 22 #[.int .i64 a] w fun e w' => e = .returned (.string (nm (rk a))) ∧ w = w' :=
  format_at a _ _ w (Lib.hid rfl) (rk_cases a) hT (Lib.hid rfl)

theorem name_at (a ra : Int) (s : ByteArray) (w : World) (ha : Hid (vl a = ra)) (ha' : ra = 0 ∨ ra = 1 ∨ ra = 2) (hs : Hid (rnm ra = s)) :
    Calls Tryd.prog 23 #[.int .i64 a] w fun e w' => e = .returned (.string s) ∧ w = w' := by
  rcases ha' with rfl | rfl | rfl
  all_goals
    go_enter Tryd.func23, Tryd.ntmps23
    go_wp2_with fail
    refine (value_at _ _ _ ha).mono ?_
    rintro e w' ⟨rfl, rfl⟩
    go_wp2
    go_ret
    refine ⟨?_, rfl⟩
    rw [← hs.out]
    rfl
theorem name_any (a : Int) (w : World) : Calls Tryd.prog 23 #[.int .i64 a] w fun e w' => e = .returned (.string (rnm (vl a))) ∧ w = w' :=
  name_at a _ _ w (Lib.hid rfl) (vl_cases a) (Lib.hid rfl)

theorem ix0 (w : World) : (Instr.index 42 (.agg #[.string sF, .string sU, .string sT]) (.int .i64 0)).run Tryd.prog w = .ok (.string sF) w := by kernel_rfl
theorem ix1 (w : World) : (Instr.index 42 (.agg #[.string sF, .string sU, .string sT]) (.int .i64 1)).run Tryd.prog w = .ok (.string sU) w := by kernel_rfl
theorem ix2 (w : World) : (Instr.index 42 (.agg #[.string sF, .string sU, .string sT]) (.int .i64 2)).run Tryd.prog w = .ok (.string sT) w := by kernel_rfl

theorem parse_F (w : World) (hT : Tab w) (hN : TabN w) : Calls Tryd.prog 24 #[.string sF] w fun e w' => e = .returned (.tuple #[.int .i64 0, .int .i64 0]) ∧ w = w' := by
  obtain ⟨n0, n1, n2⟩ := hN
  obtain ⟨t0, t1, t2⟩ := hT
  have i0 := ix0
  have e0 : (sF == sF) = true := by decide
  go_enter Tryd.func24, Tryd.ntmps24
  go_wp2
  refine wp_loop_rounds 1 ?_
  rw [rounds_succ]
  go_wp2
  go_ret2
  exact ⟨rfl, rfl⟩

theorem parse_U (w : World) (hT : Tab w) (hN : TabN w) : Calls Tryd.prog 24 #[.string sU] w fun e w' => e = .returned (.tuple #[.int .i64 2, .int .i64 0]) ∧ w = w' := by
  obtain ⟨n0, n1, n2⟩ := hN
  obtain ⟨t0, t1, t2⟩ := hT
  have i0 := ix0
  have i1 := ix1
  have e0 : (sF == sU) = false := by decide
  have e1 : (sU == sU) = true := by decide
  go_enter Tryd.func24, Tryd.ntmps24
  go_wp2
  refine wp_loop_rounds 2 ?_
  rw [rounds_succ]
  go_wp2
  rw [rounds_succ]
  go_wp2
  go_ret2
  exact ⟨rfl, rfl⟩

theorem parse_T (w : World) (hT : Tab w) (hN : TabN w) : Calls Tryd.prog 24 #[.string sT] w fun e w' => e = .returned (.tuple #[.int .i64 1, .int .i64 0]) ∧ w = w' := by
  obtain ⟨n0, n1, n2⟩ := hN
  obtain ⟨t0, t1, t2⟩ := hT
  have i0 := ix0
  have i1 := ix1
  have i2 := ix2
  have e0 : (sF == sT) = false := by decide
  have e1 : (sU == sT) = false := by decide
  have e2 : (sT == sT) = true := by decide
  go_enter Tryd.func24, Tryd.ntmps24
  go_wp2
  refine wp_loop_rounds 3 ?_
  rw [rounds_succ]
  go_wp2
  rw [rounds_succ]
  go_wp2
  rw [rounds_succ]
  go_wp2
  go_ret2
  exact ⟨rfl, rfl⟩

theorem parse_no (s : ByteArray) (w : World) (hN : TabN w) (e0 : ([70, 65, 76, 83, 69] == s.toList) = false) (e1 : ([85, 78, 75, 78, 79, 87, 78] == s.toList) = false) (e2 : ([84, 82, 85, 69] == s.toList) = false) :
    Calls Tryd.prog 24 #[.string s] w fun e w' => e = .returned (.tuple #[.int .i64 0, .int .i64 2]) ∧ w = w' := by
  obtain ⟨n0, n1, n2⟩ := hN
  have i0 := ix0
  have i1 := ix1
  have i2 := ix2
  go_enter Tryd.func24, Tryd.ntmps24
  go_wp2
  refine wp_loop_rounds 4 ?_
  rw [rounds_succ]
  go_wp2
  rw [rounds_succ]
  go_wp2
  rw [rounds_succ]
  go_wp2
  rw [rounds_succ]
  go_wp2
  go_ret2
  exact ⟨rfl, rfl⟩

theorem parse_nm (r : Int) (w : World) (hT : Tab w) (hN : TabN w) (hr : r = 0 ∨ r = 1 ∨ r = 2) :
    Calls Tryd.prog 24 #[.string (nm r)] w fun e w' => e = .returned (.tuple #[.int .i64 (tv r), .int .i64 0]) ∧ w = w' := by
  rcases hr with rfl | rfl | rfl
  · exact parse_F w hT hN
  · exact parse_U w hT hN
  · exact parse_T w hT hN

theorem nm_rnm (a : Int) : nm (rk a) = rnm (vl a) := by unfold nm rnm rk vl; split <;> (try split) <;> simp_all
theorem tv_rk (a : Int) : tv (rk a) = vl a := by unfold tv rk vl; split <;> (try split) <;> simp_all

theorem of_toList {s : ByteArray} {l : List UInt8} (h : l = s.toList) : s = ⟨l.toArray⟩ := by
  rw [ByteArray.toList_eq] at h
  exact ByteArray.ext (Array.toList_inj.1 h.symm)

theorem names_same (a : Int) : ((nm (rk a)).toList == (rnm (vl a)).toList) = true := by rw [nm_rnm]; simp

set_option maxHeartbeats 800000 in
theorem text_in (a r : Int) (s : ByteArray) (w : World) (hT : Tab w) (hN : TabN w) (hp : Calls Tryd.prog 24 #[.string s] w fun e w' => e = .returned (.tuple #[.int .i64 r, .int .i64 0]) ∧ w = w')
    (hs : Hid (nm (rk r) = s)) (hc : ([70, 65, 76, 83, 69] = s.toList) ∨ ([84, 82, 85, 69] = s.toList) ∨ ([85, 78, 75, 78, 79, 87, 78] = s.toList)) :
    Calls Tryd.prog 9 #[.int .i64 a, .string s] w fun e w' => e = .returned (.bool true) ∧ Below w.heap.size w w' := by
  have h1 := names_same a
  have h2 : (tv (rk a) != vl a) = false := by rw [tv_rk]; simp
  have h3 : ((nm (rk r)).toList == s.toList) = true := by rw [hs.out]; simp
  have HT := Lib.hid hT; have HN := Lib.hid hN; clear hT hN
  have HP := Lib.hid hp; clear hp
  have HC : Hid ((s.toList == [70, 65, 76, 83, 69]) = true ∨ ((s.toList == [70, 65, 76, 83, 69]) = false ∧ (s.toList == [84, 82, 85, 69]) = true) ∨
      ((s.toList == [70, 65, 76, 83, 69]) = false ∧ (s.toList == [84, 82, 85, 69]) = false ∧ (s.toList == [85, 78, 75, 78, 79, 87, 78]) = true)) := by
    refine Lib.hid ?_
    rcases hc with h | h | h <;> rw [← h] <;> decide
  clear hc
  rcases HC.out with k1 | ⟨k1, k2⟩ | ⟨k1, k2, k3⟩
  all_goals
    clear HC
    go_enter Tryd.func9, Tryd.ntmps9
    go_wp2_with (first
      | (go_at_call 10; refine (awake_any _ HT.out).mono ?_; rintro e w' ⟨rfl, rfl⟩)
      | (go_at_call 17; refine (value_any _ _).mono ?_; rintro e w' ⟨rfl, rfl⟩)
      | (go_at_call 22; refine (format_any _ _ HN.out).mono ?_; rintro e w' ⟨rfl, rfl⟩)
      | (go_at_call 23; refine (name_any _ _).mono ?_; rintro e w' ⟨rfl, rfl⟩)
      | (go_at_call 24; (with_reducible refine (parse_nm _ _ HT.out HN.out (rk_cases a)).mono ?_); rintro e w' ⟨rfl, rfl⟩)
      | (go_at_call 24; (with_reducible refine (HP.out).mono ?_); rintro e w' ⟨rfl, rfl⟩))
    go_ret
    exact ⟨rfl, Below.refl _ _⟩

set_option maxHeartbeats 800000 in
theorem text_out (a : Int) (s : ByteArray) (w : World) (hT : Tab w) (hN : TabN w) (hp : Calls Tryd.prog 24 #[.string s] w fun e w' => e = .returned (.tuple #[.int .i64 0, .int .i64 2]) ∧ w = w')
    (k1 : (s.toList == [70, 65, 76, 83, 69]) = false) (k2 : (s.toList == [84, 82, 85, 69]) = false) (k3 : (s.toList == [85, 78, 75, 78, 79, 87, 78]) = false) :
    Calls Tryd.prog 9 #[.int .i64 a, .string s] w fun e w' => e = .returned (.bool true) ∧ Below w.heap.size w w' := by
  have h1 := names_same a
  have h2 : (tv (rk a) != vl a) = false := by rw [tv_rk]; simp
  have HT := Lib.hid hT; have HN := Lib.hid hN; clear hT hN
  have HP := Lib.hid hp; clear hp
  go_enter Tryd.func9, Tryd.ntmps9
  go_wp2_with (first
    | (go_at_call 10; refine (awake_any _ HT.out).mono ?_; rintro e w' ⟨rfl, rfl⟩)
    | (go_at_call 17; refine (value_any _ _).mono ?_; rintro e w' ⟨rfl, rfl⟩)
    | (go_at_call 22; refine (format_any _ _ HN.out).mono ?_; rintro e w' ⟨rfl, rfl⟩)
    | (go_at_call 23; refine (name_any _ _).mono ?_; rintro e w' ⟨rfl, rfl⟩)
    | (go_at_call 24; (with_reducible refine (parse_nm _ _ HT.out HN.out (rk_cases a)).mono ?_); rintro e w' ⟨rfl, rfl⟩)
    | (go_at_call 24; (with_reducible refine (HP.out).mono ?_); rintro e w' ⟨rfl, rfl⟩))
  go_ret
  exact ⟨rfl, Below.refl _ _⟩

theorem walk_triboolText (a : Int) (s : ByteArray) (w : World) (_ : (Lit.int .i64 a).wf = true) (_ : s.size ≤ maxLen) (hTN : Tab w ∧ TabN w) :
    Calls Tryd.prog 9 #[.int .i64 a, .string s] w fun e w' => e = .returned (.bool true) ∧ Below w.heap.size w w' := by
  obtain ⟨hT, hN⟩ := hTN
  by_cases h1 : [70, 65, 76, 83, 69] = s.toList
  · have := of_toList h1
    subst this
    exact text_in a 0 _ w hT hN (parse_F w hT hN) (Lib.hid (by rfl)) (.inl h1)
  by_cases h2 : [84, 82, 85, 69] = s.toList
  · have := of_toList h2
    subst this
    exact text_in a 1 _ w hT hN (parse_T w hT hN) (Lib.hid (by rfl)) (.inr (.inl h2))
  by_cases h3 : [85, 78, 75, 78, 79, 87, 78] = s.toList
  · have := of_toList h3
    subst this
    exact text_in a 2 _ w hT hN (parse_U w hT hN) (Lib.hid (by rfl)) (.inr (.inr h3))
  refine text_out a s w hT hN (parse_no s w hN (by simpa using h1) (by simpa using h3) (by simpa using h2)) ?_ ?_ ?_
  · simpa using fun h => h1 (Eq.symm h)
  · simpa using fun h => h2 (Eq.symm h)
  · simpa using fun h => h3 (Eq.symm h)
end Go.Proofs.YtcbpakbhklbdnaaDoor
