/- The walks of package tribool's small functions: rank, And, Or, Not, Of and the reference's Value, And, Not, Or, Of return plain functions of their arguments and leave memory alone, where the table 'values' holds its three numbers. -/
import Derived.Test.YtcbpakbhklbdnaaDoorRows
import Derived.WalkKit
import Derived.ProofKit
import Derived.OpenShut
import Derived.Lib.Hide
namespace Go.Proofs.YtcbpakbhklbdnaaDoor
open Go.ChangeShapes Go.WideShapes Go.ChangeAt Go.RowKit

/-- The table 'values' lies in block 0. -/
def Tab (w : World) : Prop := w.cell? ⟨0, 0, none⟩ = some (.int .i64 0) ∧ w.cell? ⟨0, 1, none⟩ = some (.int .i64 2) ∧ w.cell? ⟨0, 2, none⟩ = some (.int .i64 1)

def rk (a : Int) : Int := if a = 0 then 0 else if a = 1 then 2 else 1
def tv (r : Int) : Int := if r = 0 then 0 else if r = 1 then 2 else 1
def vl (a : Int) : Int := if a = 0 then 0 else if a = 1 then 1 else 2
def and3 (a b : Int) : Int := tv (if rk a ≤ rk b then rk a else rk b)
def or3 (a b : Int) : Int := tv (if rk a ≤ rk b then rk b else rk a)
def not3 (a : Int) : Int := tv (2 - rk a)
def rand3 (a b : Int) : Int := if vl a = 0 ∨ vl b = 0 then 0 else if vl a = 1 ∧ vl b = 1 then 1 else 2
def rnot3 (a : Int) : Int := if vl a = 0 then 1 else if vl a = 1 then 0 else 2
def ror3 (a b : Int) : Int := rnot3 (rand3 (rnot3 a) (rnot3 b))

theorem rk_cases (a : Int) : rk a = 0 ∨ rk a = 1 ∨ rk a = 2 := by unfold rk; split <;> (try split) <;> simp
theorem vl_cases (a : Int) : vl a = 0 ∨ vl a = 1 ∨ vl a = 2 := by unfold vl; split <;> (try split) <;> simp

theorem rank_any (a : Int) (w : World) : Calls Tryd.prog 25 #[.int .i64 a] w fun e w' => e = .returned (.int .i64 (rk a)) ∧ w = w' := by
  by_cases h0 : a = 0
  · subst h0
    go_enter Tryd.func25, Tryd.ntmps25
    go_wp2
    go_ret
    exact ⟨rfl, rfl⟩
  · by_cases h1 : a = 1
    · subst h1
      go_enter Tryd.func25, Tryd.ntmps25
      go_wp2
      go_ret
      exact ⟨rfl, rfl⟩
    · have hr : rk a = 1 := by simp [rk, h0, h1]
      rw [hr]; clear hr
      go_enter Tryd.func25, Tryd.ntmps25
      go_wp2
      go_ret
      exact ⟨rfl, rfl⟩

theorem rank_at (a r : Int) (w : World) (h : Hid (rk a = r)) : Calls Tryd.prog 25 #[.int .i64 a] w fun e w' => e = .returned (.int .i64 r) ∧ w = w' := by
  have := rank_any a w
  rw [h.out] at this
  exact this

theorem and_at (a b ra rb r : Int) (w : World) (ha : Hid (rk a = ra)) (hb : Hid (rk b = rb)) (ha' : ra = 0 ∨ ra = 1 ∨ ra = 2) (hb' : rb = 0 ∨ rb = 1 ∨ rb = 2) (hT : Tab w) (hr : Hid (tv (if ra ≤ rb then ra else rb) = r)) :
    Calls Tryd.prog 11 #[.int .i64 a, .int .i64 b] w fun e w' => e = .returned (.int .i64 r) ∧ w = w' := by
  obtain ⟨h0, h1, h2⟩ := hT
  rcases ha' with rfl | rfl | rfl <;> rcases hb' with rfl | rfl | rfl
  all_goals
    go_enter Tryd.func11, Tryd.ntmps11
    go_wp2_with fail
    refine (rank_at _ _ _ ha).mono ?_
    rintro e w' ⟨rfl, rfl⟩
    go_wp2_with fail
    refine (rank_at _ _ _ hb).mono ?_
    rintro e w' ⟨rfl, rfl⟩
    go_wp2
    go_ret
    refine ⟨?_, rfl⟩
    rw [← hr.out]
    rfl

theorem and_any (a b : Int) (w : World) (hT : Tab w) : Calls Tryd.prog 11 #[.int .i64 a, .int .i64 b] w fun e w' => e = .returned (.int .i64 (and3 a b)) ∧ w = w' :=
  and_at a b _ _ _ w (Lib.hid rfl) (Lib.hid rfl) (rk_cases a) (rk_cases b) hT (Lib.hid rfl)

theorem or_at (a b ra rb r : Int) (w : World) (ha : Hid (rk a = ra)) (hb : Hid (rk b = rb)) (ha' : ra = 0 ∨ ra = 1 ∨ ra = 2) (hb' : rb = 0 ∨ rb = 1 ∨ rb = 2) (hT : Tab w) (hr : Hid (tv (if ra ≤ rb then rb else ra) = r)) :
    Calls Tryd.prog 13 #[.int .i64 a, .int .i64 b] w fun e w' => e = .returned (.int .i64 r) ∧ w = w' := by
  obtain ⟨h0, h1, h2⟩ := hT
  rcases ha' with rfl | rfl | rfl <;> rcases hb' with rfl | rfl | rfl
  all_goals
    go_enter Tryd.func13, Tryd.ntmps13
    go_wp2_with fail
    refine (rank_at _ _ _ ha).mono ?_
    rintro e w' ⟨rfl, rfl⟩
    go_wp2_with fail
    refine (rank_at _ _ _ hb).mono ?_
    rintro e w' ⟨rfl, rfl⟩
    go_wp2
    go_ret
    refine ⟨?_, rfl⟩
    rw [← hr.out]
    rfl

theorem or_any (a b : Int) (w : World) (hT : Tab w) : Calls Tryd.prog 13 #[.int .i64 a, .int .i64 b] w fun e w' => e = .returned (.int .i64 (or3 a b)) ∧ w = w' :=
  or_at a b _ _ _ w (Lib.hid rfl) (Lib.hid rfl) (rk_cases a) (rk_cases b) hT (Lib.hid rfl)

theorem not_at (a ra r : Int) (w : World) (ha : Hid (rk a = ra)) (ha' : ra = 0 ∨ ra = 1 ∨ ra = 2) (hT : Tab w) (hr : Hid (tv (2 - ra) = r)) :
    Calls Tryd.prog 15 #[.int .i64 a] w fun e w' => e = .returned (.int .i64 r) ∧ w = w' := by
  obtain ⟨h0, h1, h2⟩ := hT
  rcases ha' with rfl | rfl | rfl
  all_goals
    go_enter Tryd.func15, Tryd.ntmps15
    go_wp2_with fail
    refine (rank_at _ _ _ ha).mono ?_
    rintro e w' ⟨rfl, rfl⟩
    go_wp2
    go_ret
    refine ⟨?_, rfl⟩
    rw [← hr.out]
    rfl

theorem not_any (a : Int) (w : World) (hT : Tab w) : Calls Tryd.prog 15 #[.int .i64 a] w fun e w' => e = .returned (.int .i64 (not3 a)) ∧ w = w' :=
  not_at a _ _ w (Lib.hid rfl) (rk_cases a) hT (Lib.hid rfl)

theorem value_any (a : Int) (w : World) : Calls Tryd.prog 17 #[.int .i64 a] w fun e w' => e = .returned (.int .i64 (vl a)) ∧ w = w' := by
  by_cases h0 : a = 0
  · subst h0
    go_enter Tryd.func17, Tryd.ntmps17
    go_wp2
    go_ret
    exact ⟨rfl, rfl⟩
  · by_cases h1 : a = 1
    · subst h1
      go_enter Tryd.func17, Tryd.ntmps17
      go_wp2
      go_ret
      exact ⟨rfl, rfl⟩
    · have hr : vl a = 2 := by simp [vl, h0, h1]
      rw [hr]; clear hr
      have h0' : (a == 0) = false := by simpa using h0
      have h1' : (a == 1) = false := by simpa using h1
      go_enter Tryd.func17, Tryd.ntmps17
      go_wp2
      go_ret
      exact ⟨rfl, rfl⟩

theorem value_at (a r : Int) (w : World) (h : Hid (vl a = r)) : Calls Tryd.prog 17 #[.int .i64 a] w fun e w' => e = .returned (.int .i64 r) ∧ w = w' := by
  have := value_any a w
  rw [h.out] at this
  exact this

theorem rand_at (a b ra rb r : Int) (w : World) (ha : Hid (vl a = ra)) (hb : Hid (vl b = rb)) (ha' : ra = 0 ∨ ra = 1 ∨ ra = 2) (hb' : rb = 0 ∨ rb = 1 ∨ rb = 2) (hr : Hid ((if ra = 0 ∨ rb = 0 then 0 else if ra = 1 ∧ rb = 1 then 1 else 2) = r)) :
    Calls Tryd.prog 12 #[.int .i64 a, .int .i64 b] w fun e w' => e = .returned (.int .i64 r) ∧ w = w' := by
  rcases ha' with rfl | rfl | rfl <;> rcases hb' with rfl | rfl | rfl
  all_goals
    go_enter Tryd.func12, Tryd.ntmps12
    go_wp2_with fail
    refine (value_at _ _ _ ha).mono ?_
    rintro e w' ⟨rfl, rfl⟩
    go_wp2_with fail
    refine (value_at _ _ _ hb).mono ?_
    rintro e w' ⟨rfl, rfl⟩
    go_wp2
    go_ret
    refine ⟨?_, rfl⟩
    rw [← hr.out]
    rfl

theorem rand_any (a b : Int) (w : World) : Calls Tryd.prog 12 #[.int .i64 a, .int .i64 b] w fun e w' => e = .returned (.int .i64 (rand3 a b)) ∧ w = w' :=
  rand_at a b _ _ _ w (Lib.hid rfl) (Lib.hid rfl) (vl_cases a) (vl_cases b) (Lib.hid rfl)

theorem rnot_at (a ra r : Int) (w : World) (ha : Hid (vl a = ra)) (ha' : ra = 0 ∨ ra = 1 ∨ ra = 2) (hr : Hid ((if ra = 0 then 1 else if ra = 1 then 0 else 2) = r)) :
    Calls Tryd.prog 16 #[.int .i64 a] w fun e w' => e = .returned (.int .i64 r) ∧ w = w' := by
  rcases ha' with rfl | rfl | rfl
  all_goals
    go_enter Tryd.func16, Tryd.ntmps16
    go_wp2_with fail
    refine (value_at _ _ _ ha).mono ?_
    rintro e w' ⟨rfl, rfl⟩
    go_wp2
    go_ret
    refine ⟨?_, rfl⟩
    rw [← hr.out]
    rfl

theorem rnot_any (a : Int) (w : World) : Calls Tryd.prog 16 #[.int .i64 a] w fun e w' => e = .returned (.int .i64 (rnot3 a)) ∧ w = w' :=
  rnot_at a _ _ w (Lib.hid rfl) (vl_cases a) (Lib.hid rfl)

theorem ror_any (a b : Int) (w : World) : Calls Tryd.prog 14 #[.int .i64 a, .int .i64 b] w fun e w' => e = .returned (.int .i64 (ror3 a b)) ∧ w = w' := by
  go_enter Tryd.func14, Tryd.ntmps14
  go_wp2_with fail
  refine (rnot_any _ _).mono ?_
  rintro e w' ⟨rfl, rfl⟩
  go_wp2_with fail
  refine (rnot_any _ _).mono ?_
  rintro e w' ⟨rfl, rfl⟩
  go_wp2_with fail
  refine (rand_any _ _ _).mono ?_
  rintro e w' ⟨rfl, rfl⟩
  go_wp2_with fail
  refine (rnot_any _ _).mono ?_
  rintro e w' ⟨rfl, rfl⟩
  go_wp2
  go_ret
  exact ⟨rfl, rfl⟩

def of3 (b : Bool) : Int := if b then 1 else 0
theorem of_any (b : Bool) (w : World) : Calls Tryd.prog 18 #[.bool b] w fun e w' => e = .returned (.int .i64 (of3 b)) ∧ w = w' := by
  cases b
  all_goals
    go_enter Tryd.func18, Tryd.ntmps18
    go_wp2
    go_ret
    exact ⟨rfl, rfl⟩
theorem rof_any (b : Bool) (w : World) : Calls Tryd.prog 19 #[.bool b] w fun e w' => e = .returned (.int .i64 (of3 b)) ∧ w = w' := by
  cases b
  all_goals
    go_enter Tryd.func19, Tryd.ntmps19
    go_wp2
    go_ret
    exact ⟨rfl, rfl⟩
end Go.Proofs.YtcbpakbhklbdnaaDoor
