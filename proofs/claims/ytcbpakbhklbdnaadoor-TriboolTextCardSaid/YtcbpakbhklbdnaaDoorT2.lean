/- The contracts of All, Any (over a nil slice and over a row of numbers), awake, and what the listed tables give the walks. -/
import Derived.Test.YtcbpakbhklbdnaaDoorT1
import Derived.LaidMore
import Derived.MakeChecks
import Derived.Lib.LaidTab
import Derived.Below
namespace Go.Proofs.YtcbpakbhklbdnaaDoor
open Go.ChangeShapes Go.WideShapes Go.ChangeAt Go.RowKit

def IsRow (k : IntKind) (w : World) (a : Option Addr) (len cap : Nat) (zs : List Int) : Prop :=
  (a = none ∧ len = 0 ∧ cap = 0 ∧ zs = []) ∨
  ∃ x, a = some x ∧ len ≤ cap ∧ cap ≤ maxLen ∧ zs.length = cap ∧ (∀ i, i < zs.length → w.cell? (x.add i) = some (.int k (zs.getD i 0))) ∧ ∀ n ∈ zs, (Lit.int k n).wf = true

def nValues : String := Rows.triboolConnectivesRow.named.headD default
def nNames : String := Rows.triboolTextRow.named.getLastD default
theorem gValues : Tryd.prog.globalNamed nValues = some 0 := by kernel_rfl
theorem tValues : (Tryd.prog.globals[0]?).map (·.type) = some 40 := by kernel_rfl
theorem gNames : Tryd.prog.globalNamed nNames = some 1 := by kernel_rfl
theorem tNames : (Tryd.prog.globals[1]?).map (·.type) = some 42 := by kernel_rfl

theorem tabs_of' {W : World} {rest} (h : laidMet Tryd.prog ((nValues, Rows.laid_disjoint_tribool_values) :: rest) W) : Tab W := by
  have hT : Lib.TabIs Tryd.prog W nValues .i64 [0, 2, 1] := Lib.tabIs_of_head (rest := rest) gValues tValues Tryd.underlying40 Tryd.underlying22 (by kernel_rfl) (by kernel_rfl) h
  exact ⟨hT.cell gValues 0 (by decide), hT.cell gValues 1 (by decide), hT.cell gValues 2 (by decide)⟩

theorem tabs_of {W : World} (h : laidMetH Tryd.prog [(nValues, Rows.laid_disjoint_tribool_values)] W) : Tab W := by
  rw [MakeChecks.laidMetH_plain _ _ _ (by kernel_rfl)] at h
  exact tabs_of' h

theorem awakeAnd (w : World) (hT : Tab w) : Calls Tryd.prog 11 #[.int .i64 1, .int .i64 2] w fun e w' => e = .returned (.int .i64 2) ∧ w = w' := and_any 1 2 w hT

theorem all_nil (w : World) : Calls Tryd.prog 20 #[.slice none 0 0] w fun e w' => e = .returned (.int .i64 1) ∧ w = w' := by
  go_enter Tryd.func20, Tryd.ntmps20
  go_wp2
  refine wp_loop_rounds 1 ?_
  rw [rounds_succ]
  go_wp2
  go_ret
  exact ⟨rfl, rfl⟩

theorem any_nil (w : World) : Calls Tryd.prog 21 #[.slice none 0 0] w fun e w' => e = .returned (.int .i64 0) ∧ w = w' := by
  go_enter Tryd.func21, Tryd.ntmps21
  go_wp2
  refine wp_loop_rounds 1 ?_
  rw [rounds_succ]
  go_wp2
  go_ret
  exact ⟨rfl, rfl⟩

def andAll (zs : List Int) : Int := zs.foldl and3 1
def orAll (zs : List Int) : Int := zs.foldl or3 0
theorem andAll_snoc (zs : List Int) (k : Nat) (h : k < zs.length) : andAll (zs.take (k + 1)) = and3 (andAll (zs.take k)) (zs.getD k 0) := by
  unfold andAll; rw [List.take_succ_eq_append_getElem h, List.foldl_append]; simp [h]
theorem orAll_snoc (zs : List Int) (k : Nat) (h : k < zs.length) : orAll (zs.take (k + 1)) = or3 (orAll (zs.take k)) (zs.getD k 0) := by
  unfold orAll; rw [List.take_succ_eq_append_getElem h, List.foldl_append]; simp [h]

theorem all_any (b off len cap : Nat) (zs : List Int) (w : World) (hT : Tab w) (hz : zs.length = len) (hl : len ≤ 9223372036854775807)
    (hc : ∀ j, j < len → w.cell? ⟨b, off + j, none⟩ = some (.int .i64 (zs.getD j 0))) :
    Calls Tryd.prog 20 #[.slice (some ⟨b, off, none⟩) len cap] w fun e w' => e = .returned (.int .i64 (andAll zs)) ∧ w = w' := by
  have HT := Lib.hid hT; clear hT
  have HC := Lib.hid hc; clear hc
  have HZ := Lib.hid hz; clear hz
  go_enter Tryd.func20, Tryd.ntmps20
  go_wp2
  go_loop [3, 8] (fun v i => ∃ k : Nat, k ≤ len ∧ i = .int .i64 k ∧ v = .int .i64 (andAll (zs.take k))) (fun _ i => len - (intOf i).toNat)
  case atStart => exact ⟨0, Nat.zero_le _, rfl, rfl⟩
  case round =>
    obtain ⟨k, hk, rfl, rfl⟩ := hrel
    by_cases hlt : k < len
    · have hcell := HC.out k hlt
      have HS := Lib.hid (andAll_snoc zs k (by rw [HZ.out]; exact hlt))
      go_wp2_with fail
      refine (and_any _ _ _ HT.out).mono ?_
      rintro e w' ⟨rfl, rfl⟩
      go_wp2
      go_round
      case rel => exact ⟨k + 1, by omega, by go_num, by rw [HS.out]; simp⟩
      case measure => simp [intOf]; omega
    · have hke : k = len := by omega
      have HK := Lib.hid hke; clear hke
      go_wp2
      go_ret
      exact ⟨by rw [HK.out, ← HZ.out, List.take_length]; rfl, rfl⟩

theorem any_any (b off len cap : Nat) (zs : List Int) (w : World) (hT : Tab w) (hz : zs.length = len) (hl : len ≤ 9223372036854775807)
    (hc : ∀ j, j < len → w.cell? ⟨b, off + j, none⟩ = some (.int .i64 (zs.getD j 0))) :
    Calls Tryd.prog 21 #[.slice (some ⟨b, off, none⟩) len cap] w fun e w' => e = .returned (.int .i64 (orAll zs)) ∧ w = w' := by
  have HT := Lib.hid hT; clear hT
  have HC := Lib.hid hc; clear hc
  have HZ := Lib.hid hz; clear hz
  go_enter Tryd.func21, Tryd.ntmps21
  go_wp2
  go_loop [3, 8] (fun v i => ∃ k : Nat, k ≤ len ∧ i = .int .i64 k ∧ v = .int .i64 (orAll (zs.take k))) (fun _ i => len - (intOf i).toNat)
  case atStart => exact ⟨0, Nat.zero_le _, rfl, rfl⟩
  case round =>
    obtain ⟨k, hk, rfl, rfl⟩ := hrel
    by_cases hlt : k < len
    · have hcell := HC.out k hlt
      have HS := Lib.hid (orAll_snoc zs k (by rw [HZ.out]; exact hlt))
      go_wp2_with fail
      refine (or_any _ _ _ HT.out).mono ?_
      rintro e w' ⟨rfl, rfl⟩
      go_wp2
      go_round
      case rel => exact ⟨k + 1, by omega, by go_num, by rw [HS.out]; simp⟩
      case measure => simp [intOf]; omega
    · have hke : k = len := by omega
      have HK := Lib.hid hke; clear hke
      go_wp2
      go_ret
      exact ⟨by rw [HK.out, ← HZ.out, List.take_length]; rfl, rfl⟩

theorem awake_any (w : World) (hT : Tab w) : Calls Tryd.prog 10 #[] w fun e w' => e = .returned (.bool true) ∧ w = w' := by
  have c1 : Calls Tryd.prog 11 #[.int .i64 1, .int .i64 2] w fun e w' => e = .returned (.int .i64 2) ∧ w = w' := and_any 1 2 w hT
  have c2 : Calls Tryd.prog 11 #[.int .i64 0, .int .i64 2] w fun e w' => e = .returned (.int .i64 0) ∧ w = w' := and_any 0 2 w hT
  have c3 : Calls Tryd.prog 13 #[.int .i64 1, .int .i64 2] w fun e w' => e = .returned (.int .i64 1) ∧ w = w' := or_any 1 2 w hT
  have c4 : Calls Tryd.prog 15 #[.int .i64 0] w fun e w' => e = .returned (.int .i64 1) ∧ w = w' := not_any 0 w hT
  have C1 := Lib.hid c1; have C2 := Lib.hid c2; have C3 := Lib.hid c3; have C4 := Lib.hid c4
  clear c1 c2 c3 c4 hT
  go_enter Tryd.func10, Tryd.ntmps10
  go_wp2_with fail
  refine C1.out.mono ?_
  rintro e w' ⟨rfl, rfl⟩
  go_wp2_with fail
  refine C2.out.mono ?_
  rintro e w' ⟨rfl, rfl⟩
  go_wp2_with fail
  refine (all_nil _).mono ?_
  rintro e w' ⟨rfl, rfl⟩
  go_wp2_with fail
  refine C3.out.mono ?_
  rintro e w' ⟨rfl, rfl⟩
  go_wp2_with fail
  refine C4.out.mono ?_
  rintro e w' ⟨rfl, rfl⟩
  go_wp2
  go_ret
  exact ⟨rfl, rfl⟩

end Go.Proofs.YtcbpakbhklbdnaaDoor
