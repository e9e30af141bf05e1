/- The walk of the law over lists: All and Any return what the reference's And and Or fold, for every slice. -/
import Derived.Test.YtcbpakbhklbdnaaDoorT3
import Derived.LoopTactic
namespace Go.Proofs.YtcbpakbhklbdnaaDoor
open Go.ChangeShapes Go.WideShapes Go.ChangeAt Go.RowKit

theorem info22 : (Tryd.prog.info? 22).map (fun i => (i.zero, i.size, i.bytes)) = some (some (.int .i64 0), 1, 8) := by kernel_rfl

theorem all_owned (base : Nat) (v : Value) (zs : List Int) (w : World) (hT : Tab w) (h : w.ownsRow base 22 1 v zs.length (zs.map (Value.int .i64))) :
    Calls Tryd.prog 20 #[v] w fun e w' => e = .returned (.int .i64 (andAll zs)) ∧ w = w' := by
  have hl := h.1
  rcases h.2 with ⟨rfl, h0⟩ | ⟨g, cap, cur, rfl, hb, hcur, hn, hm, hs, hxs⟩
  · have : zs = [] := List.length_eq_zero_iff.1 h0
    subst this
    exact all_nil w
  · refine all_any g 0 zs.length cap zs w hT rfl (by unfold maxLen at hm; omega) ?_
    intro j hj
    have := h.cells (g := g) rfl j (.int .i64 (zs.getD j 0)) (by simp [hj])
    have e : ((⟨g, 0, none⟩ : Addr).add j) = ⟨g, j, none⟩ := by cases j <;> simp [Addr.add]
    rw [e] at this
    rw [Nat.zero_add]
    exact this

theorem any_owned (base : Nat) (v : Value) (zs : List Int) (w : World) (hT : Tab w) (h : w.ownsRow base 22 1 v zs.length (zs.map (Value.int .i64))) :
    Calls Tryd.prog 21 #[v] w fun e w' => e = .returned (.int .i64 (orAll zs)) ∧ w = w' := by
  have hl := h.1
  rcases h.2 with ⟨rfl, h0⟩ | ⟨g, cap, cur, rfl, hb, hcur, hn, hm, hs, hxs⟩
  · have : zs = [] := List.length_eq_zero_iff.1 h0
    subst this
    exact any_nil w
  · refine any_any g 0 zs.length cap zs w hT rfl (by unfold maxLen at hm; omega) ?_
    intro j hj
    have := h.cells (g := g) rfl j (.int .i64 (zs.getD j 0)) (by simp [hj])
    have e : ((⟨g, 0, none⟩ : Addr).add j) = ⟨g, j, none⟩ := by cases j <;> simp [Addr.add]
    rw [e] at this
    rw [Nat.zero_add]
    exact this

def randAll (zs : List Int) : Int := zs.foldl rand3 1
def rorAll (zs : List Int) : Int := zs.foldl ror3 0
theorem randAll_snoc (zs : List Int) (k : Nat) (h : k < zs.length) : randAll (zs.take (k + 1)) = rand3 (randAll (zs.take k)) (zs.getD k 0) := by
  unfold randAll; rw [List.take_succ_eq_append_getElem h, List.foldl_append]; simp [h]
theorem rorAll_snoc (zs : List Int) (k : Nat) (h : k < zs.length) : rorAll (zs.take (k + 1)) = ror3 (rorAll (zs.take k)) (zs.getD k 0) := by
  unfold rorAll; rw [List.take_succ_eq_append_getElem h, List.foldl_append]; simp [h]
theorem and3_rand3 (a b : Int) : and3 a b = rand3 a b := by
  rw [and3_vl, rand3_vl]
  rcases vl_cases a with h | h | h <;> rcases vl_cases b with h' | h' | h' <;> rw [h, h'] <;> rfl
theorem or3_ror3 (a b : Int) : or3 a b = ror3 a b := by
  rw [or3_vl, ror3_vl]
  rcases vl_cases a with h | h | h <;> rcases vl_cases b with h' | h' | h' <;> rw [h, h'] <;> rfl
theorem andAll_rand (zs : List Int) : andAll zs = randAll zs := by
  have : and3 = rand3 := by funext a b; exact and3_rand3 a b
  unfold andAll randAll; rw [this]
theorem orAll_ror (zs : List Int) : orAll zs = rorAll zs := by
  have : or3 = ror3 := by funext a b; exact or3_ror3 a b
  unfold orAll rorAll; rw [this]

/-- The table stands where only new blocks were written. -/
theorem Tab.below {B : Nat} {w w' : World} (h : Tab w) (hb : Below B w w') (hB : 0 < B) : Tab w' :=
  ⟨(hb.cell (p := ⟨0, 0, none⟩) hB).trans h.1, (hb.cell (p := ⟨0, 1, none⟩) hB).trans h.2.1, (hb.cell (p := ⟨0, 2, none⟩) hB).trans h.2.2⟩
theorem Tab.pos {w : World} (h : Tab w) : 0 < w.heap.size := World.block_lt_of_cell? w _ h.1

/-- The first k numbers as values. -/
def vals (zs : List Int) (k : Nat) : List Value := (zs.take k).map (Value.int .i64)
theorem vals_snoc (zs : List Int) (k : Nat) (h : k < zs.length) : vals zs (k + 1) = vals zs k ++ [.int .i64 (zs[k]?.getD 0)] := by
  unfold vals
  rw [List.take_succ_eq_append_getElem h, List.map_append]; simp [h]
theorem vals_take (zs : List Int) (k : Nat) : vals zs k = (zs.take k).map (Value.int .i64) := rfl

set_option maxHeartbeats 1600000 in
theorem lists_row (b off len cap : Nat) (zs : List Int) (w : World) (hT : Tab w) (hz : len ≤ zs.length) (hl : len ≤ 200)
    (hc : ∀ j, j < zs.length → w.cell? ⟨b, off + j, none⟩ = some (.int .i64 (zs.getD j 0))) :
    Calls Tryd.prog 8 #[.slice (some ⟨b, off, none⟩) len cap] w fun e w' => e = .returned (.bool true) ∧ Below w.heap.size w w' := by
  obtain ⟨i0, hi, hz0, hz1, hz2⟩ := info_parts info22
  have HT := Lib.hid hT; have HC := Lib.hid hc; have HZ := Lib.hid hz
  have hpos := hT.pos
  clear hT hc hz
  have h200 : ((len : Int) > 200) = False := by simp; omega
  go_enter Tryd.func8, Tryd.ntmps8
  go_wp2_with (go_at_call 10; refine (awake_any _ HT.out).mono ?_; rintro e w' ⟨rfl, rfl⟩)
  go_loopw [3, 4, 5, 18] (fun t al so i wr => ∃ k : Nat, k ≤ len ∧ i = .int .i64 k ∧ al = .int .i64 (randAll (zs.take k)) ∧ so = .int .i64 (rorAll (zs.take k)) ∧ wr.ownsRow w.heap.size 22 1 t k (vals zs k) ∧ Below w.heap.size w wr)
    (fun _ _ _ i _ => len - (intOf i).toNat)
  case atStart => exact ⟨0, Nat.zero_le _, rfl, rfl, rfl, World.ownsRow_nil _ _ _ _, Below.refl _ _⟩
  case round =>
    obtain ⟨k, hk, rfl, rfl, rfl, hown, hb⟩ := hrel
    by_cases hlt : k < len
    · have hcell : wr.cell? ⟨b, off + k, none⟩ = some (.int .i64 (zs.getD k 0)) := by
        have := HC.out k (by have := HZ.out; omega)
        exact (hb.cell (World.block_lt_of_cell? w _ this)).trans this
      have HS1 := Lib.hid (randAll_snoc zs k (by have := HZ.out; omega))
      have HS2 := Lib.hid (rorAll_snoc zs k (by have := HZ.out; omega))
      have HM := Lib.hid (vals_snoc zs k (by have := HZ.out; omega))
      have hsz := hb.size
      go_wp2_with (first
        | (at_builtin; refine wpList_append_own _ rfl _ _ 32 rfl w.heap.size 22 i0 (.int .i64 0) 1 8 Tryd.underlying32 hi hz0 hz1 hz2 rfl (by decide) _ _ _ rfl (hown.alloc _) ⟨wr.heap.size, 0, none⟩ 1 1 [.int .i64 (zs.getD k 0)] rfl rfl ?c1 ?c2 ?c3 ?c4 ?c5 ?_)
        | (go_at_call 12; refine (rand_any _ _ _).mono ?_; rintro e w' ⟨rfl, rfl⟩)
        | (go_at_call 14; refine (ror_any _ _ _).mono ?_; rintro e w' ⟨rfl, rfl⟩))
      case c1 =>
        intro j u hj
        match j, hj with
        | 0, hj => simp at hj; subst hj; simp [Addr.add]
      case c2 => intro u hu; simp at hu; subst hu; rfl
      case c3 => unfold maxLen; omega
      case c4 => omega
      case c5 => simp; omega
      intro v' w1 hown' hgrow _
      have hb1 : Below w.heap.size w w1 := (hb.alloc hsz _).grown hgrow (by simp; omega) (fun k hk => (hown.lt k hk).1)
      rw [← HM.out] at hown'
      have HO := Lib.hid hown'
      have HB := Lib.hid hb1
      clear hown' hgrow hown hcell hb1 hb
      go_wp2_with (first
        | (go_at_call 12; refine (rand_any _ _ _).mono ?_; rintro e w' ⟨rfl, rfl⟩)
        | (go_at_call 14; refine (ror_any _ _ _).mono ?_; rintro e w' ⟨rfl, rfl⟩))
      go_roundw
      case rel => exact ⟨k + 1, by omega, by go_num, by rw [HS1.out]; simp, by rw [HS2.out]; simp, HO.out, HB.out⟩
      case measure => simp [intOf]; omega
    · have hke : k = len := by omega
      have hlen : (zs.take k).length = k := by rw [List.length_take]; have := HZ.out; omega
      have hown2 : wr.ownsRow w.heap.size 22 1 u3 (zs.take k).length ((zs.take k).map (Value.int .i64)) := by rw [hlen]; exact hown
      have e1 : (andAll (zs.take k) == randAll (zs.take k)) = true := by rw [andAll_rand]; simp
      have e2 : (orAll (zs.take k) == rorAll (zs.take k)) = true := by rw [orAll_ror]; simp
      have HTr := Lib.hid (HT.out.below hb hpos)
      have HO := Lib.hid hown2
      have HB := Lib.hid hb
      clear hown2 hown hb hlen hke
      go_wp2_with (first
        | (go_at_call 20; refine (all_owned _ _ _ _ HTr.out HO.out).mono ?_; rintro e w' ⟨rfl, rfl⟩)
        | (go_at_call 21; refine (any_owned _ _ _ _ HTr.out HO.out).mono ?_; rintro e w' ⟨rfl, rfl⟩))
      go_ret
      exact ⟨rfl, HB.out⟩

theorem lists_nil (w : World) (hT : Tab w) : Calls Tryd.prog 8 #[.slice none 0 0] w fun e w' => e = .returned (.bool true) ∧ Below w.heap.size w w' := by
  have HT := Lib.hid hT; clear hT
  go_enter Tryd.func8, Tryd.ntmps8
  go_wp2_with (go_at_call 10; refine (awake_any _ HT.out).mono ?_; rintro e w' ⟨rfl, rfl⟩)
  refine wp_loop_rounds 1 ?_
  rw [rounds_succ]
  go_wp2_with (first
    | (go_at_call 20; refine (all_nil _).mono ?_; rintro e w' ⟨rfl, rfl⟩)
    | (go_at_call 21; refine (any_nil _).mono ?_; rintro e w' ⟨rfl, rfl⟩))
  go_ret
  exact ⟨rfl, Below.refl _ _⟩

theorem lists_long (a : Option Addr) (len cap : Nat) (w : World) (hT : Tab w) (hl : 200 < len) : Calls Tryd.prog 8 #[.slice a len cap] w fun e w' => e = .returned (.bool true) ∧ Below w.heap.size w w' := by
  have HT := Lib.hid hT; clear hT
  go_enter Tryd.func8, Tryd.ntmps8
  go_wp2_with (go_at_call 10; refine (awake_any _ HT.out).mono ?_; rintro e w' ⟨rfl, rfl⟩)
  go_ret
  exact ⟨rfl, Below.refl _ _⟩

theorem walk_triboolLists (a : Option Addr) (len cap : Nat) (zs : List Int) (w : World) (h : IsRow .i64 w a len cap zs) (hT : Tab w) :
    Calls Tryd.prog 8 #[.slice a len cap] w fun e w' => e = .returned (.bool true) ∧ Below w.heap.size w w' := by
  by_cases hlen : 200 < len
  · exact lists_long a len cap w hT hlen
  rcases h with ⟨rfl, rfl, rfl, rfl⟩ | ⟨x, rfl, hl, hm, hz, hcell, hwz⟩
  · exact lists_nil w hT
  · obtain ⟨b, off, spot⟩ := x
    by_cases h0 : zs.length = 0
    · have hn : len = 0 := by omega
      subst hn
      have HT := Lib.hid hT; clear hT
      go_enter Tryd.func8, Tryd.ntmps8
      go_wp2_with (go_at_call 10; refine (awake_any _ HT.out).mono ?_; rintro e w' ⟨rfl, rfl⟩)
      refine wp_loop_rounds 1 ?_
      rw [rounds_succ]
      go_wp2_with (first
        | (go_at_call 20; refine (all_nil _).mono ?_; rintro e w' ⟨rfl, rfl⟩)
        | (go_at_call 21; refine (any_nil _).mono ?_; rintro e w' ⟨rfl, rfl⟩))
      go_ret
      exact ⟨rfl, Below.refl _ _⟩
    · have hspot : spot = none := by simpa [Addr.add] using World.cell?_spot (hcell 0 (by omega))
      subst hspot
      refine lists_row b off len cap zs w hT (by omega) (by omega) ?_
      intro j hj
      have e : ((⟨b, off, none⟩ : Addr).add j) = ⟨b, off + j, none⟩ := by cases j <;> simp [Addr.add]
      have := hcell j hj
      rwa [e] at this
end Go.Proofs.YtcbpakbhklbdnaaDoor
