/- Plain notions for reading memory: a list of cells at an address; a reading 'Rep' of a Go type as plain data, kept where its blocks are kept; slices of such readings. Nothing of the program stands here. -/
import Derived.WalkKit
import Derived.Below
import Derived.Lib.Hide
import Derived.Laws.AppendOwn
namespace Go.Proofs.Ytcbpakbhklbdnaa
set_option linter.unusedVariables false
open Go.RowKit

def CellsAt (w : World) (b off : Nat) (l : List Value) : Prop := ∀ j, j < l.length → w.cell? ⟨b, off + j, none⟩ = l[j]?

/-- A reading of a Go type as plain data: 'rep S w a l': in w the cells l read as a, and all memory behind them lies in blocks of S. -/
structure Rep (α : Type) where
  n : Nat
  rep : (Nat → Prop) → World → α → List Value → Prop
  len : ∀ {S w a l}, rep S w a l → l.length = n
  mono : ∀ {S S' : Nat → Prop} {w a l}, (∀ k, S k → S' k) → rep S w a l → rep S' w a l
  ext : ∀ {S : Nat → Prop} {w w' : World} {a l}, (∀ k, S k → w'.heap[k]? = w.heap[k]?) → rep S w a l → rep S w' a l

/-- Plain cells alone. -/
def Rep.flat {α : Type} (n : Nat) (f : α → List Value) (hf : ∀ a, (f a).length = n) : Rep α where
  n := n
  rep := fun _ _ a l => l = f a
  len := fun h => by rw [h]; exact hf _
  mono := fun _ h => h
  ext := fun _ h => h

/-- Plain cells alone, of data that fits. -/
def Rep.flatW {α : Type} (n : Nat) (f : α → List Value) (W : α → Prop) (hf : ∀ a, (f a).length = n) : Rep α where
  n := n
  rep := fun _ _ a l => l = f a ∧ W a
  len := fun h => by rw [h.1]; exact hf _
  mono := fun _ h => h
  ext := fun _ h => h

theorem CellsAt.ext {w w' : World} {b off : Nat} {l : List Value} (h : CellsAt w b off l) (hb : w'.heap[b]? = w.heap[b]?) : CellsAt w' b off l := by
  intro j hj
  rw [World.cell?_of_block (w := w) (a := ⟨b, off + j, none⟩) hb]
  exact h j hj

theorem cell_blk {w : World} {b : Nat} {cs : Array Value} {t : TypeId} (h : w.heap[b]? = some (.cells cs t (0, 0))) (j : Nat) : w.cell? ⟨b, j, none⟩ = cs[j]? := by simp [World.cell?, h]
theorem free_blk {w : World} {b : Nat} {cs : Array Value} {t : TypeId} (h : w.heap[b]? = some (.cells cs t (0, 0))) (j : Nat) : w.frozen? ⟨b, j, none⟩ = false := by simp [World.frozen?, h]
theorem lt_blk {w : World} {b : Nat} {o : Obj} (h : w.heap[b]? = some o) : b < w.heap.size := by
  rcases Nat.lt_or_ge b w.heap.size with h' | h'
  · exact h'
  · simp [Array.getElem?_eq_none h'] at h

/-- A slice whose elements read as 'as'. -/
def SliceRep {α : Type} (R : Rep α) (S : Nat → Prop) (w : World) (as : List α) (v : Value) : Prop :=
  ∃ a cap, v = .slice a as.length cap ∧ as.length ≤ cap ∧ cap ≤ maxLen ∧ as.length ≤ 140737488355328 ∧
    (as = [] ∨ ∃ b off, a = some ⟨b, off, none⟩ ∧ S b ∧ ∀ k (hk : k < as.length), ∃ l, R.rep S w as[k] l ∧ CellsAt w b (off + k * R.n) l)

theorem SliceRep.nil {α : Type} (R : Rep α) (S : Nat → Prop) (w : World) : SliceRep R S w [] (.slice none 0 0) :=
  ⟨none, 0, rfl, Nat.le_refl _, Nat.zero_le _, Nat.zero_le _, .inl rfl⟩

theorem SliceRep.mono {α : Type} {R : Rep α} {S S' : Nat → Prop} {w : World} {as : List α} {v : Value} (hS : ∀ k, S k → S' k) (h : SliceRep R S w as v) : SliceRep R S' w as v := by
  obtain ⟨a, cap, rfl, h1, h2, h2', h3⟩ := h
  refine ⟨a, cap, rfl, h1, h2, h2', ?_⟩
  rcases h3 with h3 | ⟨b, off, rfl, hb, h4⟩
  · exact .inl h3
  · exact .inr ⟨b, off, rfl, hS _ hb, fun k hk => by obtain ⟨l, hl, hc⟩ := h4 k hk; exact ⟨l, R.mono hS hl, hc⟩⟩

theorem SliceRep.ext {α : Type} {R : Rep α} {S : Nat → Prop} {w w' : World} {as : List α} {v : Value} (hS : ∀ k, S k → w'.heap[k]? = w.heap[k]?) (h : SliceRep R S w as v) : SliceRep R S w' as v := by
  obtain ⟨a, cap, rfl, h1, h2, h2', h3⟩ := h
  refine ⟨a, cap, rfl, h1, h2, h2', ?_⟩
  rcases h3 with h3 | ⟨b, off, rfl, hb, h4⟩
  · exact .inl h3
  · exact .inr ⟨b, off, rfl, hb, fun k hk => by obtain ⟨l, hl, hc⟩ := h4 k hk; exact ⟨l, R.ext hS hl, hc.ext (hS _ hb)⟩⟩

/-- Below a block number. -/
def Lt (n : Nat) : Nat → Prop := fun k => k < n

/-- From a block number on, below another. -/
def Btw (a b : Nat) : Nat → Prop := fun k => a ≤ k ∧ k < b

theorem SliceRep.below {α : Type} {R : Rep α} {w w' : World} {as : List α} {v : Value} {B : Nat} (h : SliceRep R (Lt B) w as v) (hb : Below B w w') : SliceRep R (Lt B) w' as v :=
  h.ext fun k hk => hb.block k hk

theorem SliceRep.below' {α : Type} {R : Rep α} {w w' : World} {as : List α} {v : Value} (h : SliceRep R (Lt w.heap.size) w as v) (hb : Below w.heap.size w w') : SliceRep R (Lt w'.heap.size) w' as v :=
  (h.below hb).mono fun k (hk : k < w.heap.size) => Nat.lt_of_lt_of_le hk hb.size

/-- A slice as the reading of one cell. -/
def Rep.slice {α : Type} (R : Rep α) : Rep (List α) where
  n := 1
  rep := fun S w as l => ∃ v, l = [v] ∧ SliceRep R S w as v
  len := fun ⟨_, h, _⟩ => by rw [h]; rfl
  mono := fun hS ⟨v, h, hs⟩ => ⟨v, h, hs.mono hS⟩
  ext := fun hS ⟨v, h, hs⟩ => ⟨v, h, hs.ext hS⟩

/-- What a walk takes of a slice: its address where it has an element, and the element's cells. -/
theorem SliceRep.at {α : Type} {R : Rep α} {S : Nat → Prop} {w : World} {as : List α} {a : Option Addr} {n cap : Nat} (h : SliceRep R S w as (.slice a n cap)) (k : Nat) (hk : k < as.length) :
    ∃ b off l, a = some ⟨b, off, none⟩ ∧ S b ∧ R.rep S w as[k] l ∧ CellsAt w b (off + k * R.n) l := by
  obtain ⟨a', cap', e, h1, h2, h2', h3⟩ := h
  simp only [Value.slice.injEq] at e
  obtain ⟨rfl, rfl, rfl⟩ := e
  rcases h3 with rfl | ⟨b, off, rfl, hb, h4⟩
  · simp at hk
  · obtain ⟨l, hl, hc⟩ := h4 k hk
    exact ⟨b, off, l, rfl, hb, hl, hc⟩

theorem SliceRep.shape {α : Type} {R : Rep α} {S : Nat → Prop} {w : World} {as : List α} {v : Value} (h : SliceRep R S w as v) :
    ∃ a cap, v = .slice a as.length cap ∧ as.length ≤ cap ∧ cap ≤ 9223372036854775807 ∧ as.length ≤ 140737488355328 := by
  obtain ⟨a, cap, rfl, h1, h2, h2', _⟩ := h
  unfold maxLen at h2
  exact ⟨a, cap, rfl, h1, by omega, h2'⟩

/-- .. with its length under a name. -/
theorem SliceRep.opn {α : Type} {R : Rep α} {S : Nat → Prop} {w : World} {as : List α} {v : Value} (h : SliceRep R S w as v) :
    ∃ a n cap, v = .slice a n cap ∧ Hid (as.length = n) ∧ n ≤ cap ∧ cap ≤ 9223372036854775807 ∧ n ≤ 140737488355328 := by
  obtain ⟨a, cap, rfl, h1, h2, h3⟩ := h.shape
  exact ⟨a, _, cap, rfl, Lib.hid rfl, h1, h2, h3⟩

/-- A slice of the call's own, whose elements read as 'as'. -/
def Owns {α : Type} (R : Rep α) (S : Nat → Prop) (w : World) (base : Nat) (e : TypeId) (as : List α) (v : Value) : Prop :=
  ∃ ls : List (List Value), ls.length = as.length ∧ (∀ k (hk : k < as.length) (hk' : k < ls.length), R.rep S w as[k] ls[k]) ∧ w.ownsRow base e R.n v as.length ls.flatten

theorem flatten_at {n : Nat} : ∀ (ls : List (List Value)) (_ : ∀ l ∈ ls, l.length = n) (k : Nat) (hk : k < ls.length) (j : Nat), j < n → ls.flatten[k * n + j]? = ls[k][j]?
  | l :: ls, h, 0, _, j, hj => by
    have := h l (by simp)
    simp only [List.flatten_cons, Nat.zero_mul, Nat.zero_add, List.getElem_cons_zero]
    rw [List.getElem?_append_left (by omega)]
  | l :: ls, h, k + 1, hk, j, hj => by
    have h0 := h l (by simp)
    have := flatten_at ls (fun l' hl => h l' (by simp [hl])) k (by simpa using hk) j hj
    simp only [List.flatten_cons, List.getElem_cons_succ]
    rw [List.getElem?_append_right (by rw [Nat.add_mul]; omega), ← this]
    congr 1
    rw [Nat.add_mul]; omega

theorem flatten_len {n : Nat} : ∀ (ls : List (List Value)) (_ : ∀ l ∈ ls, l.length = n), ls.flatten.length = ls.length * n
  | [], _ => by simp
  | l :: ls, h => by
    have h0 := h l (by simp)
    have := flatten_len ls (fun l' hl => h l' (by simp [hl]))
    simp only [List.flatten_cons, List.length_append, List.length_cons, Nat.add_mul, this, h0]
    omega

theorem Owns.nil {α : Type} (R : Rep α) (S : Nat → Prop) (w : World) (base : Nat) (e : TypeId) : Owns R S w base e [] (.slice none 0 0) :=
  ⟨[], rfl, fun k hk => by simp at hk, World.ownsRow_nil _ _ _ _⟩

/-- The append law gave 'ls.flatten ++ l': the list has one more. -/
theorem Owns.push {α : Type} {R : Rep α} {S S' : Nat → Prop} {w w' : World} {base : Nat} {e : TypeId} {as : List α} {v' : Value} {x : α} {l : List Value} {ls : List (List Value)}
    (hl : ls.length = as.length) (hr : ∀ k (hk : k < as.length) (hk' : k < ls.length), R.rep S w as[k] ls[k]) (hx : R.rep S' w' x l) (hS : ∀ k, S k → S' k) (hb : ∀ k, S k → w'.heap[k]? = w.heap[k]?)
    (h : w'.ownsRow base e R.n v' (as.length + 1) (ls.flatten ++ l)) : Owns R S' w' base e (as ++ [x]) v' := by
  refine ⟨ls ++ [l], by simp [hl], fun k hk hk' => ?_, by simpa using h⟩
  by_cases hlt : k < as.length
  · rw [List.getElem_append_left hlt, List.getElem_append_left (by omega)]
    exact R.mono hS (R.ext hb (hr k hlt (by omega)))
  · have e1 : k = as.length := by simp at hk; omega
    subst e1
    rw [List.getElem_append_right (by omega), List.getElem_append_right (by omega)]
    simpa using hx

/-- One round that appends: what was owned is owned with one more; what lay there before is as it was, but for the own block. -/
theorem Owns.step {α : Type} {R : Rep α} {S S' : Nat → Prop} {w wr wx w1 : World} {B base : Nat} {e : TypeId} {as : List α} {v v' : Value} {x : α} {l : List Value} {ls : List (List Value)}
    (hll : ls.length = as.length) (hr : ∀ k (hk : k < as.length) (hk' : k < ls.length), R.rep S wr as[k] ls[k]) (hx : R.rep S' w1 x l) (hSS : ∀ q, S q → S' q)
    (hbx : Below wr.heap.size wr wx) (hown : wr.ownsRow base e R.n v as.length ls.flatten) (hgrow : wx.grownBy w1 v.ownBlock) (hS : ∀ q, S q → q < wr.heap.size ∧ v.ownBlock ≠ some q)
    (hown' : w1.ownsRow base e R.n v' (as.length + 1) (ls.flatten ++ l)) (hB : B ≤ base) (hB' : B ≤ wr.heap.size) (hb : Below B w wr) :
    Owns R S' w1 base e (as ++ [x]) v' ∧ (∀ q, q < wr.heap.size → v.ownBlock ≠ some q → w1.heap[q]? = wr.heap[q]?) ∧ wr.heap.size ≤ w1.heap.size ∧ Below B w w1 := by
  have hkeep : ∀ q, q < wr.heap.size → v.ownBlock ≠ some q → w1.heap[q]? = wr.heap[q]? := fun q hq hne =>
    (hgrow.block q (Nat.lt_of_lt_of_le hq hbx.size) (fun e => hne e.symm)).trans (hbx.block q hq)
  refine ⟨Owns.push hll hr hx hSS (fun q hq => hkeep q (hS q hq).1 (hS q hq).2) hown', hkeep, Nat.le_trans hbx.size hgrow.size, ?_⟩
  exact (hb.trans (hbx.mono hB')).grown hgrow (Nat.le_trans hB' hbx.size) (fun q hq => Nat.le_trans hB (hown.lt q hq).1)

theorem Owns.len {α : Type} {R : Rep α} {S : Nat → Prop} {w : World} {base : Nat} {e : TypeId} {as : List α} {v : Value} (h : Owns R S w base e as v) : ∃ a cap, v = .slice a as.length cap := by
  obtain ⟨ls, hl, hr, hx, ⟨rfl, h0⟩ | ⟨g, cap, cur, rfl, hb, hcur, hn, hm, hs, hxs⟩⟩ := h
  · exact ⟨none, 0, by rw [h0]⟩
  · exact ⟨_, _, rfl⟩

/-- It stays where its own block and S's are as they were. -/
theorem Owns.ext {α : Type} {R : Rep α} {S : Nat → Prop} {w w' : World} {base : Nat} {e : TypeId} {as : List α} {v : Value} (h : Owns R S w base e as v) (hS : ∀ k, S k → w'.heap[k]? = w.heap[k]?)
    (hv : ∀ k, v.ownBlock = some k → w'.heap[k]? = w.heap[k]?) : Owns R S w' base e as v := by
  obtain ⟨ls, hl, hr, hx, hown⟩ := h
  refine ⟨ls, hl, fun k hk hk' => R.ext hS (hr k hk hk'), hx, ?_⟩
  rcases hown with h0 | ⟨g, cap, cur, rfl, hb, hcur, hn, hm, hs, hxs⟩
  · exact .inl h0
  · exact .inr ⟨g, cap, cur, rfl, hb, by rw [hv g rfl]; exact hcur, hn, hm, hs, hxs⟩

theorem Owns.lt {α : Type} {R : Rep α} {S : Nat → Prop} {w : World} {base : Nat} {e : TypeId} {as : List α} {v : Value} (h : Owns R S w base e as v) : ∀ k, v.ownBlock = some k → base ≤ k ∧ k < w.heap.size := by
  obtain ⟨ls, hl, hr, hown⟩ := h
  exact hown.lt

/-- It reads as a slice; its blocks: S and its own. -/
theorem Owns.slice {α : Type} {R : Rep α} {S S' : Nat → Prop} {w : World} {base : Nat} {e : TypeId} {as : List α} {v : Value} (h : Owns R S w base e as v) (hlen47 : as.length ≤ 140737488355328) (hS : ∀ k, S k → S' k) (hv : ∀ k, v.ownBlock = some k → S' k) : SliceRep R S' w as v := by
  obtain ⟨ls, hl, hr, hx, hown⟩ := h
  have hlen : ∀ l ∈ ls, l.length = R.n := by
    intro l hl'
    obtain ⟨k, hk, rfl⟩ := List.getElem_of_mem hl'
    exact R.len (hr k (by omega) hk)
  rcases hown with ⟨rfl, h0⟩ | ⟨g, cap, cur, rfl, hb, hcur, hn, hm, hs, hxs⟩
  · have : as = [] := List.length_eq_zero_iff.1 h0
    subst this
    exact SliceRep.nil _ _ _
  · refine ⟨some ⟨g, 0, none⟩, cap, rfl, hn, hm, hlen47, ?_⟩
    by_cases has : as = []
    · exact .inl has
    · refine .inr ⟨g, 0, rfl, hv g rfl, fun k hk => ⟨ls[k], R.mono hS (hr k hk (by omega)), fun j hj => ?_⟩⟩
      have hj' : j < R.n := by rw [← hlen ls[k] (List.getElem_mem _)]; exact hj
      rw [← flatten_at ls hlen k (by omega) j hj', ← hxs]
      have hlt : k * R.n + j < as.length * R.n := by
        have : (k + 1) * R.n ≤ as.length * R.n := Nat.mul_le_mul_right _ hk
        rw [Nat.add_mul] at this; omega
      rw [List.getElem?_take_of_lt hlt]
      have hcs : as.length * R.n ≤ cap * R.n := Nat.mul_le_mul_right _ hn
      have e1 : 0 + k * R.n + j = k * R.n + j := by omega
      rw [e1]
      simp [World.cell?, hcur]

end Go.Proofs.Ytcbpakbhklbdnaa
