/- The walks of the laws over And, Or, Not and Of: each returns true, for every input, where the table 'values' holds its three numbers. -/
import Derived.Test.YtcbpakbhklbdnaaDoorT2
namespace Go.Proofs.YtcbpakbhklbdnaaDoor
open Go.ChangeShapes Go.WideShapes Go.ChangeAt Go.RowKit

theorem vl_rk (a b c : Int) (P : Int → Int → Int → Prop) (h : ∀ a b c : Int, (a = 0 ∨ a = 1 ∨ a = 2) → (b = 0 ∨ b = 1 ∨ b = 2) → (c = 0 ∨ c = 1 ∨ c = 2) → P a b c) : P (vl a) (vl b) (vl c) :=
  h _ _ _ (vl_cases a) (vl_cases b) (vl_cases c)
theorem rk_vl (a : Int) : rk (vl a) = rk a := by unfold rk vl; split <;> (try split) <;> simp_all
theorem vl_vl (a : Int) : vl (vl a) = vl a := by unfold vl; split <;> (try split) <;> simp_all
theorem and3_vl (a b : Int) : and3 a b = and3 (vl a) (vl b) := by simp only [and3, rk_vl]
theorem or3_vl (a b : Int) : or3 a b = or3 (vl a) (vl b) := by simp only [or3, rk_vl]
theorem not3_vl (a : Int) : not3 a = not3 (vl a) := by simp only [not3, rk_vl]
theorem rand3_vl (a b : Int) : rand3 a b = rand3 (vl a) (vl b) := by simp only [rand3, vl_vl]
theorem rnot3_vl (a : Int) : rnot3 a = rnot3 (vl a) := by simp only [rnot3, vl_vl]
theorem ror3_vl (a b : Int) : ror3 a b = ror3 (vl a) (vl b) := by unfold ror3; rw [rnot3_vl a, rnot3_vl b]

theorem walk_triboolConnectives (a b : Int) (w : World) (_ : (Lit.int .i64 a).wf = true) (_ : (Lit.int .i64 b).wf = true) (hT : Tab w) :
    Calls Tryd.prog 3 #[.int .i64 a, .int .i64 b] w fun e w' => e = .returned (.bool true) ∧ Below w.heap.size w w' := by
  have h1 : (and3 a b == rand3 a b) = true := by
    rw [and3_vl, rand3_vl]
    rcases vl_cases a with h | h | h <;> rcases vl_cases b with h' | h' | h' <;> rw [h, h'] <;> rfl
  have h2 : (or3 a b == ror3 a b) = true := by
    rw [or3_vl, ror3_vl]
    rcases vl_cases a with h | h | h <;> rcases vl_cases b with h' | h' | h' <;> rw [h, h'] <;> rfl
  have h3 : (not3 a == rnot3 a) = true := by
    rw [not3_vl, rnot3_vl]
    rcases vl_cases a with h | h | h <;> rw [h] <;> rfl
  have HT := Lib.hid hT; clear hT
  go_enter Tryd.func3, Tryd.ntmps3
  go_wp2_with (first
    | (go_at_call 10; refine (awake_any _ HT.out).mono ?_; rintro e w' ⟨rfl, rfl⟩)
    | (go_at_call 11; refine (and_any _ _ _ HT.out).mono ?_; rintro e w' ⟨rfl, rfl⟩)
    | (go_at_call 12; refine (rand_any _ _ _).mono ?_; rintro e w' ⟨rfl, rfl⟩)
    | (go_at_call 13; refine (or_any _ _ _ HT.out).mono ?_; rintro e w' ⟨rfl, rfl⟩)
    | (go_at_call 14; refine (ror_any _ _ _).mono ?_; rintro e w' ⟨rfl, rfl⟩)
    | (go_at_call 15; refine (not_any _ _ HT.out).mono ?_; rintro e w' ⟨rfl, rfl⟩)
    | (go_at_call 16; refine (rnot_any _ _).mono ?_; rintro e w' ⟨rfl, rfl⟩)
    | (go_at_call 17; refine (value_any _ _).mono ?_; rintro e w' ⟨rfl, rfl⟩)
    | (go_at_call 18; refine (of_any _ _).mono ?_; rintro e w' ⟨rfl, rfl⟩)
    | (go_at_call 19; refine (rof_any _ _).mono ?_; rintro e w' ⟨rfl, rfl⟩))
  go_ret
  exact ⟨rfl, Below.refl _ _⟩

theorem walk_triboolDistributive (a b c : Int) (w : World) (_ : (Lit.int .i64 a).wf = true) (_ : (Lit.int .i64 b).wf = true) (_ : (Lit.int .i64 c).wf = true) (hT : Tab w) :
    Calls Tryd.prog 5 #[.int .i64 a, .int .i64 b, .int .i64 c] w fun e w' => e = .returned (.bool true) ∧ Below w.heap.size w w' := by
  have h1 : (and3 a (or3 b c) == or3 (and3 a b) (and3 a c)) = true := by
    rw [and3_vl a b, and3_vl a c, and3_vl a, or3_vl b c]
    rcases vl_cases a with h | h | h <;> rcases vl_cases b with h' | h' | h' <;> rcases vl_cases c with h'' | h'' | h'' <;> rw [h, h', h''] <;> rfl
  have h2 : (or3 a (and3 b c) == and3 (or3 a b) (or3 a c)) = true := by
    rw [or3_vl a b, or3_vl a c, or3_vl a, and3_vl b c]
    rcases vl_cases a with h | h | h <;> rcases vl_cases b with h' | h' | h' <;> rcases vl_cases c with h'' | h'' | h'' <;> rw [h, h', h''] <;> rfl
  have HT := Lib.hid hT; clear hT
  go_enter Tryd.func5, Tryd.ntmps5
  go_wp2_with (first
    | (go_at_call 10; refine (awake_any _ HT.out).mono ?_; rintro e w' ⟨rfl, rfl⟩)
    | (go_at_call 11; refine (and_any _ _ _ HT.out).mono ?_; rintro e w' ⟨rfl, rfl⟩)
    | (go_at_call 12; refine (rand_any _ _ _).mono ?_; rintro e w' ⟨rfl, rfl⟩)
    | (go_at_call 13; refine (or_any _ _ _ HT.out).mono ?_; rintro e w' ⟨rfl, rfl⟩)
    | (go_at_call 14; refine (ror_any _ _ _).mono ?_; rintro e w' ⟨rfl, rfl⟩)
    | (go_at_call 15; refine (not_any _ _ HT.out).mono ?_; rintro e w' ⟨rfl, rfl⟩)
    | (go_at_call 16; refine (rnot_any _ _).mono ?_; rintro e w' ⟨rfl, rfl⟩)
    | (go_at_call 17; refine (value_any _ _).mono ?_; rintro e w' ⟨rfl, rfl⟩)
    | (go_at_call 18; refine (of_any _ _).mono ?_; rintro e w' ⟨rfl, rfl⟩)
    | (go_at_call 19; refine (rof_any _ _).mono ?_; rintro e w' ⟨rfl, rfl⟩))
  go_ret
  exact ⟨rfl, Below.refl _ _⟩

theorem walk_triboolBooleans (a b : Bool) (w : World) (hT : Tab w) :
    Calls Tryd.prog 6 #[.bool a, .bool b] w fun e w' => e = .returned (.bool true) ∧ Below w.heap.size w w' := by
  have HT := Lib.hid hT; clear hT
  have h1 : (and3 (of3 a) (of3 b) == of3 (a && b)) = true := by cases a <;> cases b <;> rfl
  have h2 : (or3 (of3 a) (of3 b) == of3 (a || b)) = true := by cases a <;> cases b <;> rfl
  have h3 : (not3 (of3 a) == of3 (!a)) = true := by cases a <;> rfl
  have H1 := Lib.hid h1; have H2 := Lib.hid h2; have H3 := Lib.hid h3; clear h1 h2 h3
  cases a <;> cases b
  all_goals
    have h1 := H1.out; have h2 := H2.out; have h3 := H3.out
    simp only [Bool.and_true, Bool.and_false, Bool.or_true, Bool.or_false, Bool.not_true, Bool.not_false] at h1 h2 h3
    go_enter Tryd.func6, Tryd.ntmps6
    go_wp2_with (first
    | (go_at_call 10; refine (awake_any _ HT.out).mono ?_; rintro e w' ⟨rfl, rfl⟩)
    | (go_at_call 11; refine (and_any _ _ _ HT.out).mono ?_; rintro e w' ⟨rfl, rfl⟩)
    | (go_at_call 12; refine (rand_any _ _ _).mono ?_; rintro e w' ⟨rfl, rfl⟩)
    | (go_at_call 13; refine (or_any _ _ _ HT.out).mono ?_; rintro e w' ⟨rfl, rfl⟩)
    | (go_at_call 14; refine (ror_any _ _ _).mono ?_; rintro e w' ⟨rfl, rfl⟩)
    | (go_at_call 15; refine (not_any _ _ HT.out).mono ?_; rintro e w' ⟨rfl, rfl⟩)
    | (go_at_call 16; refine (rnot_any _ _).mono ?_; rintro e w' ⟨rfl, rfl⟩)
    | (go_at_call 17; refine (value_any _ _).mono ?_; rintro e w' ⟨rfl, rfl⟩)
    | (go_at_call 18; refine (of_any _ _).mono ?_; rintro e w' ⟨rfl, rfl⟩)
    | (go_at_call 19; refine (rof_any _ _).mono ?_; rintro e w' ⟨rfl, rfl⟩))
    go_ret
    exact ⟨rfl, Below.refl _ _⟩

theorem walk_triboolLaws (a b c : Int) (w : World) (_ : (Lit.int .i64 a).wf = true) (_ : (Lit.int .i64 b).wf = true) (_ : (Lit.int .i64 c).wf = true) (hT : Tab w) :
    Calls Tryd.prog 4 #[.int .i64 a, .int .i64 b, .int .i64 c] w fun e w' => e = .returned (.bool true) ∧ Below w.heap.size w w' := by
  have h1 : (and3 a b != and3 b a) = false := by
    rw [and3_vl a b, and3_vl b a]
    rcases vl_cases a with h | h | h <;> rcases vl_cases b with h' | h' | h' <;> rw [h, h'] <;> rfl
  have h2 : (or3 a b != or3 b a) = false := by
    rw [or3_vl a b, or3_vl b a]
    rcases vl_cases a with h | h | h <;> rcases vl_cases b with h' | h' | h' <;> rw [h, h'] <;> rfl
  have h3 : (and3 a (and3 b c) != and3 (and3 a b) c) = false := by
    rw [and3_vl a (and3 b c), and3_vl b c, and3_vl (and3 a b) c, and3_vl a b]
    rcases vl_cases a with h | h | h <;> rcases vl_cases b with h' | h' | h' <;> rcases vl_cases c with h'' | h'' | h'' <;> rw [h, h', h''] <;> rfl
  have h4 : (or3 a (or3 b c) != or3 (or3 a b) c) = false := by
    rw [or3_vl a (or3 b c), or3_vl b c, or3_vl (or3 a b) c, or3_vl a b]
    rcases vl_cases a with h | h | h <;> rcases vl_cases b with h' | h' | h' <;> rcases vl_cases c with h'' | h'' | h'' <;> rw [h, h', h''] <;> rfl
  have h5 : (not3 (and3 a b) == or3 (not3 a) (not3 b)) = true := by
    rw [and3_vl a b, not3_vl a, not3_vl b]
    rcases vl_cases a with h | h | h <;> rcases vl_cases b with h' | h' | h' <;> rw [h, h'] <;> rfl
  have h6 : (not3 (or3 a b) == and3 (not3 a) (not3 b)) = true := by
    rw [or3_vl a b, not3_vl a, not3_vl b]
    rcases vl_cases a with h | h | h <;> rcases vl_cases b with h' | h' | h' <;> rw [h, h'] <;> rfl
  have h7 : (not3 (not3 a) == vl a) = true := by
    rw [not3_vl a]
    rcases vl_cases a with h | h | h <;> rw [h] <;> rfl
  have HT := Lib.hid hT; clear hT
  go_enter Tryd.func4, Tryd.ntmps4
  go_wp2_with (first
    | (go_at_call 10; refine (awake_any _ HT.out).mono ?_; rintro e w' ⟨rfl, rfl⟩)
    | (go_at_call 11; refine (and_any _ _ _ HT.out).mono ?_; rintro e w' ⟨rfl, rfl⟩)
    | (go_at_call 12; refine (rand_any _ _ _).mono ?_; rintro e w' ⟨rfl, rfl⟩)
    | (go_at_call 13; refine (or_any _ _ _ HT.out).mono ?_; rintro e w' ⟨rfl, rfl⟩)
    | (go_at_call 14; refine (ror_any _ _ _).mono ?_; rintro e w' ⟨rfl, rfl⟩)
    | (go_at_call 15; refine (not_any _ _ HT.out).mono ?_; rintro e w' ⟨rfl, rfl⟩)
    | (go_at_call 16; refine (rnot_any _ _).mono ?_; rintro e w' ⟨rfl, rfl⟩)
    | (go_at_call 17; refine (value_any _ _).mono ?_; rintro e w' ⟨rfl, rfl⟩)
    | (go_at_call 18; refine (of_any _ _).mono ?_; rintro e w' ⟨rfl, rfl⟩)
    | (go_at_call 19; refine (rof_any _ _).mono ?_; rintro e w' ⟨rfl, rfl⟩))
  go_ret
  exact ⟨rfl, Below.refl _ _⟩

theorem walk_triboolKnown (a b : Int) (c : Bool) (w : World) (_ : (Lit.int .i64 a).wf = true) (_ : (Lit.int .i64 b).wf = true) (hT : Tab w) :
    Calls Tryd.prog 7 #[.int .i64 a, .int .i64 b, .bool c] w fun e w' => e = .returned (.bool true) ∧ Below w.heap.size w w' := by
  by_cases hv : vl a = 2
  · have HV := Lib.hid hv; clear hv
    have HT := Lib.hid hT; clear hT
    have n1 : (vl a != 2) = false := by rw [HV.out]; rfl
    have E1 : Hid (and3 (vl a) b = and3 2 (vl b)) := by rw [HV.out, and3_vl 2 b]; exact rfl
    have E2 : Hid (or3 (vl a) b = or3 2 (vl b)) := by rw [HV.out, or3_vl 2 b]; exact rfl
    have E3 : Hid (and3 (of3 c) b = and3 (of3 c) (vl b)) := by rw [and3_vl (of3 c) b]; cases c <;> exact rfl
    have E4 : Hid (or3 (of3 c) b = or3 (of3 c) (vl b)) := by rw [or3_vl (of3 c) b]; cases c <;> exact rfl
    rcases vl_cases b with hb | hb | hb <;> have HB := Lib.hid hb <;> clear hb
    · have h1 : (and3 (vl a) b == 2) = false := by rw [E1.out, HB.out]; rfl
      have h2 : (or3 (vl a) b == 2) = true := by rw [E2.out, HB.out]; rfl
      have h3 : (and3 (of3 c) b == and3 (vl a) b) = true := by rw [E1.out, E3.out, HB.out]; cases c <;> rfl
      go_enter Tryd.func7, Tryd.ntmps7
      go_wp2_with (first
    | (go_at_call 10; refine (awake_any _ HT.out).mono ?_; rintro e w' ⟨rfl, rfl⟩)
    | (go_at_call 11; refine (and_any _ _ _ HT.out).mono ?_; rintro e w' ⟨rfl, rfl⟩)
    | (go_at_call 12; refine (rand_any _ _ _).mono ?_; rintro e w' ⟨rfl, rfl⟩)
    | (go_at_call 13; refine (or_any _ _ _ HT.out).mono ?_; rintro e w' ⟨rfl, rfl⟩)
    | (go_at_call 14; refine (ror_any _ _ _).mono ?_; rintro e w' ⟨rfl, rfl⟩)
    | (go_at_call 15; refine (not_any _ _ HT.out).mono ?_; rintro e w' ⟨rfl, rfl⟩)
    | (go_at_call 16; refine (rnot_any _ _).mono ?_; rintro e w' ⟨rfl, rfl⟩)
    | (go_at_call 17; refine (value_any _ _).mono ?_; rintro e w' ⟨rfl, rfl⟩)
    | (go_at_call 18; refine (of_any _ _).mono ?_; rintro e w' ⟨rfl, rfl⟩)
    | (go_at_call 19; refine (rof_any _ _).mono ?_; rintro e w' ⟨rfl, rfl⟩))
      go_ret
      exact ⟨rfl, Below.refl _ _⟩
    · have h1 : (and3 (vl a) b == 2) = true := by rw [E1.out, HB.out]; rfl
      have h2 : (or3 (vl a) b == 2) = false := by rw [E2.out, HB.out]; rfl
      have h3 : (or3 (of3 c) b == or3 (vl a) b) = true := by rw [E2.out, E4.out, HB.out]; cases c <;> rfl
      go_enter Tryd.func7, Tryd.ntmps7
      go_wp2_with (first
    | (go_at_call 10; refine (awake_any _ HT.out).mono ?_; rintro e w' ⟨rfl, rfl⟩)
    | (go_at_call 11; refine (and_any _ _ _ HT.out).mono ?_; rintro e w' ⟨rfl, rfl⟩)
    | (go_at_call 12; refine (rand_any _ _ _).mono ?_; rintro e w' ⟨rfl, rfl⟩)
    | (go_at_call 13; refine (or_any _ _ _ HT.out).mono ?_; rintro e w' ⟨rfl, rfl⟩)
    | (go_at_call 14; refine (ror_any _ _ _).mono ?_; rintro e w' ⟨rfl, rfl⟩)
    | (go_at_call 15; refine (not_any _ _ HT.out).mono ?_; rintro e w' ⟨rfl, rfl⟩)
    | (go_at_call 16; refine (rnot_any _ _).mono ?_; rintro e w' ⟨rfl, rfl⟩)
    | (go_at_call 17; refine (value_any _ _).mono ?_; rintro e w' ⟨rfl, rfl⟩)
    | (go_at_call 18; refine (of_any _ _).mono ?_; rintro e w' ⟨rfl, rfl⟩)
    | (go_at_call 19; refine (rof_any _ _).mono ?_; rintro e w' ⟨rfl, rfl⟩))
      go_ret
      exact ⟨rfl, Below.refl _ _⟩
    · have h1 : (and3 (vl a) b == 2) = true := by rw [E1.out, HB.out]; rfl
      have h2 : (or3 (vl a) b == 2) = true := by rw [E2.out, HB.out]; rfl
      go_enter Tryd.func7, Tryd.ntmps7
      go_wp2_with (first
    | (go_at_call 10; refine (awake_any _ HT.out).mono ?_; rintro e w' ⟨rfl, rfl⟩)
    | (go_at_call 11; refine (and_any _ _ _ HT.out).mono ?_; rintro e w' ⟨rfl, rfl⟩)
    | (go_at_call 12; refine (rand_any _ _ _).mono ?_; rintro e w' ⟨rfl, rfl⟩)
    | (go_at_call 13; refine (or_any _ _ _ HT.out).mono ?_; rintro e w' ⟨rfl, rfl⟩)
    | (go_at_call 14; refine (ror_any _ _ _).mono ?_; rintro e w' ⟨rfl, rfl⟩)
    | (go_at_call 15; refine (not_any _ _ HT.out).mono ?_; rintro e w' ⟨rfl, rfl⟩)
    | (go_at_call 16; refine (rnot_any _ _).mono ?_; rintro e w' ⟨rfl, rfl⟩)
    | (go_at_call 17; refine (value_any _ _).mono ?_; rintro e w' ⟨rfl, rfl⟩)
    | (go_at_call 18; refine (of_any _ _).mono ?_; rintro e w' ⟨rfl, rfl⟩)
    | (go_at_call 19; refine (rof_any _ _).mono ?_; rintro e w' ⟨rfl, rfl⟩))
      go_ret
      exact ⟨rfl, Below.refl _ _⟩
  · have n1 : (vl a != 2) = true := by rw [bne_iff_ne]; exact hv
    have HT := Lib.hid hT; clear hT
    clear hv
    go_enter Tryd.func7, Tryd.ntmps7
    go_wp2_with (first
    | (go_at_call 10; refine (awake_any _ HT.out).mono ?_; rintro e w' ⟨rfl, rfl⟩)
    | (go_at_call 11; refine (and_any _ _ _ HT.out).mono ?_; rintro e w' ⟨rfl, rfl⟩)
    | (go_at_call 12; refine (rand_any _ _ _).mono ?_; rintro e w' ⟨rfl, rfl⟩)
    | (go_at_call 13; refine (or_any _ _ _ HT.out).mono ?_; rintro e w' ⟨rfl, rfl⟩)
    | (go_at_call 14; refine (ror_any _ _ _).mono ?_; rintro e w' ⟨rfl, rfl⟩)
    | (go_at_call 15; refine (not_any _ _ HT.out).mono ?_; rintro e w' ⟨rfl, rfl⟩)
    | (go_at_call 16; refine (rnot_any _ _).mono ?_; rintro e w' ⟨rfl, rfl⟩)
    | (go_at_call 17; refine (value_any _ _).mono ?_; rintro e w' ⟨rfl, rfl⟩)
    | (go_at_call 18; refine (of_any _ _).mono ?_; rintro e w' ⟨rfl, rfl⟩)
    | (go_at_call 19; refine (rof_any _ _).mono ?_; rintro e w' ⟨rfl, rfl⟩))
    go_ret
    exact ⟨rfl, Below.refl _ _⟩
end Go.Proofs.YtcbpakbhklbdnaaDoor
