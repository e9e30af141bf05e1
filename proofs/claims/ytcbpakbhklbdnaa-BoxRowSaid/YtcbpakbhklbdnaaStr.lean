/- Go's order of strings as a total order on lists of bytes. -/
import Derived.Lib.MinMaxS
import Derived.Laws.Cover1
namespace Go.Proofs.Ytcbpakbhklbdnaa
set_option linter.unusedVariables false

/-- a < b as Go compares strings. -/
def slt (a b : ByteArray) : Bool := Op.bytesLess a.toList b.toList
theorem slt_eq (a b : ByteArray) : slt a b = decide (a.data.toList < b.data.toList) := by
  unfold slt; rw [Proofs.bytesLess_eq, ByteArray.toList_eq, ByteArray.toList_eq]
theorem seq_eq (a b : ByteArray) : (a.toList == b.toList) = decide (a = b) := by
  rw [ByteArray.toList_eq, ByteArray.toList_eq, Bool.eq_iff_iff]
  simp only [beq_iff_eq, decide_eq_true_eq]
  exact ⟨fun h => ByteArray.ext (Array.toList_inj.1 h), fun h => by rw [h]⟩
theorem slt_irrefl (a : ByteArray) : slt a a = false := by
  rw [slt_eq]; simp [List.lt_irrefl]
theorem slt_trans {a b c : ByteArray} (h1 : slt a b = true) (h2 : slt b c = true) : slt a c = true := by
  rw [slt_eq, decide_eq_true_eq] at *
  exact List.lt_trans h1 h2
theorem slt_tri (a b : ByteArray) : slt a b = true ∨ a = b ∨ slt b a = true := by
  rw [slt_eq, slt_eq, decide_eq_true_eq, decide_eq_true_eq]
  by_cases h : a.data.toList < b.data.toList
  · exact .inl h
  · right
    have h' : b.data.toList ≤ a.data.toList := List.not_lt.1 h
    by_cases h2 : b.data.toList < a.data.toList
    · exact .inr h2
    · left
      have h3 : a.data.toList ≤ b.data.toList := List.not_lt.1 h2
      exact ByteArray.ext (Array.toList_inj.1 (List.le_antisymm h3 h'))
theorem slt_asymm {a b : ByteArray} (h : slt a b = true) : slt b a = false := by
  cases h' : slt b a
  · rfl
  · have := slt_trans h h'
    rw [slt_irrefl] at this
    cases this
/-- a ≤ b. -/
def sle (a b : ByteArray) : Bool := slt a b || a.toList == b.toList
theorem sle_iff (a b : ByteArray) : sle a b = !slt b a := by
  unfold sle
  rw [seq_eq]
  rcases slt_tri a b with h | h | h
  · rw [h, slt_asymm h]; rfl
  · subst h; simp [slt_irrefl]
  · rw [h, slt_asymm h]
    simp only [Bool.false_or, Bool.not_true, decide_eq_false_iff_not]
    intro e; subst e; rw [slt_irrefl] at h; cases h
end Go.Proofs.Ytcbpakbhklbdnaa
