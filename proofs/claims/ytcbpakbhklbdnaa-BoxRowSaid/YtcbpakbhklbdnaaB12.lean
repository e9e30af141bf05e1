/- Walks: the headers of the functions over two boxes, in front of their loops. -/
import Derived.Test.YtcbpakbhklbdnaaB7
import Derived.Test.YtcbpakbhklbdnaaB8rmeet
import Derived.Test.YtcbpakbhklbdnaaB8same
import Derived.Test.YtcbpakbhklbdnaaB8typed
import Derived.Test.YtcbpakbhklbdnaaB8fits
namespace Go.Proofs.Ytcbpakbhklbdnaa
open Go.ChangeShapes Go.WideShapes Go.ChangeAt Go.RowKit
set_option linter.unusedVariables false

def sameB (t : Int) (ss : List PSide) (t' : Int) (ts : List PSide) : Bool := t == t' && ss.length == ts.length && allZip sideEq ss ts
def typedB (ss : List PSide) (vs : List PVal) : Bool := ss.length == vs.length && allZip sideTyped ss vs
theorem pairs_eq (ss ts : List PSide) : pairs sideMeet ss ts = allZip sideMeet ss ts := rfl

set_option maxHeartbeats 2000000 in
theorem meet_any (t t2 : Int) (ss ts : List PSide) (sv tv : Value) (w : World) (hs : SliceRep sideRep (Lt w.heap.size) w ss sv) (ht : SliceRep sideRep (Lt w.heap.size) w ts tv) :
    Calls Try.prog 14 #[.agg #[.int .i64 t, sv], .agg #[.int .i64 t2, tv]] w fun e w' => e = .returned (.bool (meetB t ss t2 ts)) ∧ Below w.heap.size w w' := by
  by_cases h : t = t2 ∧ ss.length = ts.length ∧ ss.length ≠ 0
  · obtain ⟨h1, h2, h3⟩ := h
    subst h1
    have hh := meet_loop t ss ts sv tv w hs ht h2 h3
    have e1 : meetB t ss t ts = pairs sideMeet ss ts := by
      have h4 : ts.length ≠ 0 := by omega
      simp only [meetB, beq_self_eq_true, h2, Bool.true_and]; rw [beq_eq_false_iff_ne.2 h4]; rfl
    rw [e1]; exact hh
  · have e1 : meetB t ss t2 ts = false := by
      unfold meetB
      by_cases h1 : t = t2
      · by_cases h2 : ss.length = ts.length
        · have h3 : ss.length = 0 := Classical.byContradiction fun h3 => h ⟨h1, h2, h3⟩
          rw [h3]; simp
        · simp [h2]
      · simp [h1]
    have E1 := Lib.hid e1; clear e1
    obtain ⟨a, n, cap, rfl, HN, hcap, hcap2, hl⟩ := hs.opn
    obtain ⟨a', n', cap', rfl, HN', hcap', hcap2', hl'⟩ := ht.opn
    have H : Hid (¬ (t = t2 ∧ ss.length = ts.length ∧ ss.length ≠ 0)) := Lib.hid h
    clear hs ht h
    by_cases h1 : t = t2
    · subst h1
      by_cases h2 : n = n'
      · have h0 : n = 0 := Classical.byContradiction fun h3 => H.out ⟨rfl, by rw [HN.out, HN'.out, h2], by rw [HN.out]; exact h3⟩
        have h0' : n' = 0 := by omega
        clear h2
        go_enter Try.func14, Try.ntmps14
        go_wp2
        go_ret
        exact ⟨by rw [E1.out]; rfl, ((Below.refl _ _).alloc (Nat.le_refl _) _).alloc (by simp) _⟩
      · have he : ((n : Int) != (n' : Int)) = true := by rw [bne_iff_ne]; omega
        have he0 : ((n : Int) == 0) = decide (n = 0) := by by_cases h : n = 0 <;> simp [h]
        clear he0
        clear h2
        go_enter Try.func14, Try.ntmps14
        go_wp2
        go_ret
        exact ⟨by rw [E1.out]; rfl, ((Below.refl _ _).alloc (Nat.le_refl _) _).alloc (by simp) _⟩
    · have he : ((t : Int) != t2) = true := by rw [bne_iff_ne]; exact h1
      clear h1
      go_enter Try.func14, Try.ntmps14
      go_wp2
      go_ret
      exact ⟨by rw [E1.out]; rfl, ((Below.refl _ _).alloc (Nat.le_refl _) _).alloc (by simp) _⟩

set_option maxHeartbeats 2000000 in
theorem rmeet_any (t t2 : Int) (ss ts : List PSide) (sv tv : Value) (w : World) (hs : SliceRep sideRep (Lt w.heap.size) w ss sv) (ht : SliceRep sideRep (Lt w.heap.size) w ts tv) :
    Calls Try.prog 15 #[.agg #[.int .i64 t, sv], .agg #[.int .i64 t2, tv]] w fun e w' => e = .returned (.bool (meetB t ss t2 ts)) ∧ Below w.heap.size w w' := by
  by_cases h : t = t2 ∧ ss.length = ts.length ∧ ss.length ≠ 0
  · obtain ⟨h1, h2, h3⟩ := h
    subst h1
    have hh := rmeet_loop t t ss ts sv tv w hs ht h2 h3 (Lib.hid rfl)
    have e1 : meetB t ss t ts = allZip sideMeet ss ts := by
      have h4 : ts.length ≠ 0 := by omega
      simp only [meetB, beq_self_eq_true, h2, Bool.true_and]; rw [beq_eq_false_iff_ne.2 h4]; rfl
    rw [e1]; exact hh
  · have e1 : meetB t ss t2 ts = false := by
      unfold meetB
      by_cases h1 : t = t2
      · by_cases h2 : ss.length = ts.length
        · have h3 : ss.length = 0 := Classical.byContradiction fun h3 => h ⟨h1, h2, h3⟩
          rw [h3]; simp
        · simp [h2]
      · simp [h1]
    have E1 := Lib.hid e1; clear e1
    obtain ⟨a, n, cap, rfl, HN, hcap, hcap2, hl⟩ := hs.opn
    obtain ⟨a', n', cap', rfl, HN', hcap', hcap2', hl'⟩ := ht.opn
    have H : Hid (¬ (t = t2 ∧ ss.length = ts.length ∧ ss.length ≠ 0)) := Lib.hid h
    clear hs ht h
    by_cases h1 : t = t2
    · subst h1
      by_cases h2 : n = n'
      · have h0 : n = 0 := Classical.byContradiction fun h3 => H.out ⟨rfl, by rw [HN.out, HN'.out, h2], by rw [HN.out]; exact h3⟩
        have h0' : n' = 0 := by omega
        clear h2
        go_enter Try.func15, Try.ntmps15
        go_wp2
        go_ret
        exact ⟨by rw [E1.out]; rfl, ((Below.refl _ _).alloc (Nat.le_refl _) _).alloc (by simp) _⟩
      · have he : ((n : Int) != (n' : Int)) = true := by rw [bne_iff_ne]; omega
        have he0 : ((n : Int) == 0) = decide (n = 0) := by by_cases h : n = 0 <;> simp [h]
        cases h0 : decide (n = 0)
        all_goals
          rw [h0] at he0; clear h0 h2
          go_enter Try.func15, Try.ntmps15
          go_wp2
          go_ret
          exact ⟨by rw [E1.out]; rfl, ((Below.refl _ _).alloc (Nat.le_refl _) _).alloc (by simp) _⟩
    · have he : ((t : Int) != t2) = true := by rw [bne_iff_ne]; exact h1
      clear h1
      go_enter Try.func15, Try.ntmps15
      go_wp2
      go_ret
      exact ⟨by rw [E1.out]; rfl, ((Below.refl _ _).alloc (Nat.le_refl _) _).alloc (by simp) _⟩

set_option maxHeartbeats 2000000 in
theorem same_any (t t2 : Int) (ss ts : List PSide) (sv tv : Value) (w : World) (hs : SliceRep sideRep (Lt w.heap.size) w ss sv) (ht : SliceRep sideRep (Lt w.heap.size) w ts tv) :
    Calls Try.prog 18 #[.agg #[.int .i64 t, sv], .agg #[.int .i64 t2, tv]] w fun e w' => e = .returned (.bool (sameB t ss t2 ts)) ∧ Below w.heap.size w w' := by
  by_cases h : t = t2 ∧ ss.length = ts.length
  · obtain ⟨h1, h2⟩ := h
    subst h1
    have hh := same_loop t t ss ts sv tv w hs ht h2 (Lib.hid rfl)
    have e1 : sameB t ss t ts = allZip sideEq ss ts := by simp [sameB, h2]
    rw [e1]; exact hh
  · have e1 : sameB t ss t2 ts = false := by
      unfold sameB
      by_cases h1 : t = t2
      · by_cases h2 : ss.length = ts.length
        · exact absurd ⟨h1, h2⟩ h
        · simp [h2]
      · simp [h1]
    have E1 := Lib.hid e1; clear e1
    obtain ⟨a, n, cap, rfl, HN, hcap, hcap2, hl⟩ := hs.opn
    obtain ⟨a', n', cap', rfl, HN', hcap', hcap2', hl'⟩ := ht.opn
    have H : Hid (¬ (t = t2 ∧ ss.length = ts.length)) := Lib.hid h
    clear hs ht h
    by_cases h1 : t = t2
    · subst h1
      by_cases h2 : n = n'
      · exact absurd ⟨rfl, by rw [HN.out, HN'.out, h2]⟩ H.out
      · have he : ((n : Int) != (n' : Int)) = true := by rw [bne_iff_ne]; omega
        have he0 : ((n : Int) == 0) = decide (n = 0) := by by_cases h : n = 0 <;> simp [h]
        clear he0
        clear h2
        go_enter Try.func18, Try.ntmps18
        go_wp2
        go_ret
        exact ⟨by rw [E1.out]; rfl, ((Below.refl _ _).alloc (Nat.le_refl _) _).alloc (by simp) _⟩
    · have he : ((t : Int) != t2) = true := by rw [bne_iff_ne]; exact h1
      clear h1
      go_enter Try.func18, Try.ntmps18
      go_wp2
      go_ret
      exact ⟨by rw [E1.out]; rfl, ((Below.refl _ _).alloc (Nat.le_refl _) _).alloc (by simp) _⟩

set_option maxHeartbeats 2000000 in
theorem typed_any (t : Int) (ss : List PSide) (vs : List PVal) (sv tv : Value) (w : World) (hs : SliceRep sideRep (Lt w.heap.size) w ss sv) (ht : SliceRep valRep (Lt w.heap.size) w vs tv) :
    Calls Try.prog 16 #[.agg #[.int .i64 t, sv], tv] w fun e w' => e = .returned (.bool (typedB ss vs)) ∧ Below w.heap.size w w' := by
  by_cases h : ss.length = vs.length
  · have hh := typed_loop t ss vs sv tv w hs ht h
    have e1 : typedB ss vs = allZip sideTyped ss vs := by simp [typedB, h]
    rw [e1]; exact hh
  · have E1 : Hid (typedB ss vs = false) := Lib.hid (by simp [typedB, h])
    obtain ⟨a, n, cap, rfl, HN, hcap, hcap2, hl⟩ := hs.opn
    obtain ⟨a', n', cap', rfl, HN', hcap', hcap2', hl'⟩ := ht.opn
    have he : ((n : Int) != (n' : Int)) = true := by rw [bne_iff_ne]; have := HN.out; have := HN'.out; omega
    clear hs ht h
    go_enter Try.func16, Try.ntmps16
    go_wp2
    go_ret
    exact ⟨by rw [E1.out]; rfl, (Below.refl _ _).alloc (Nat.le_refl _) _⟩
end Go.Proofs.Ytcbpakbhklbdnaa
