/- What an operation does, said of plain values: writing, new blocks, places in slices. -/
import Derived.Test.YtcbpakbhklbdnaaAS3
namespace Go.Proofs.Ytcbpakbhklbdnaa
set_option linter.unusedVariables false
open Go.RowKit

/-! ### A new block -/

def Ctx.alloc (C : Ctx) (u : Nat) (cells : Array Value) (t : TypeId) (b : Blk) : Ctx :=
  { ρ := fun i => if i = u then (C.w.heap.size, 0) else C.ρ i, sz := fun i => if i = u then cells.size else C.sz i, η := C.η.set u (some b), U := fun i => C.U i ∨ i = u, T := C.T, w := C.w.alloc (.cells cells t) }

theorem Heap.set_same (η : Heap) (id : Nat) (b : Option Blk) : η.set id b id = b := by simp [Heap.set]
theorem Heap.set_other (η : Heap) {id i : Nat} (b : Option Blk) (h : i ≠ id) : η.set id b i = η i := by
  have : Nat.beq i id = false := by
    cases hb : Nat.beq i id with
    | false => rfl
    | true => exact absurd (Nat.eq_of_beq_eq_true hb) h
  simp [Heap.set, this]

section
variable {C : Ctx} {u : Nat} {cells : Array Value} {t : TypeId} {b : Blk}

theorem Ctx.alloc_ev (hg : Good C) (hu : ¬ C.U u) (hn : b.nilp = false) : Ev C (C.alloc u cells t b) where
  os := rfl
  tape := rfl
  output := rfl
  size := by simp [Ctx.alloc]
  keep := fun k hk _ => Below.heap_alloc _ _ _ hk
  mine := fun k ⟨id, ⟨b', hb', hn'⟩, hk⟩ => by
    by_cases e : id = u
    · right; subst e; simp only [Ctx.alloc, if_true] at hk; omega
    · left
      simp only [Ctx.alloc] at hb' hk
      rw [Heap.set_other _ _ e] at hb'
      simp only [e, if_false] at hk
      exact ⟨id, ⟨b', hb', hn'⟩, hk⟩
  T := fun _ h => h
  Tnew := fun _ h => .inl h
  U := fun _ h => .inl h
  old := fun id b' hid hb' => by
    have e : id ≠ u := fun e => hu (e ▸ hid)
    simp only [Ctx.alloc] at hb'
    rw [Heap.set_other _ _ e] at hb'
    exact ⟨b', hb', Nat.le_refl _, fun _ => ⟨by simp [Ctx.alloc, e], by simp [Ctx.alloc, e], rfl, rfl⟩⟩

theorem Ctx.alloc_good (hg : Good C) (hu : ¬ C.U u) (hn : b.nilp = false) (hl : b.cs.length ≤ cells.size) (hv : ∀ j (h : j < b.cs.length) (h' : j < cells.size), VR C b.cs[j] cells[j]) : Good (C.alloc u cells t b) := by
  have he := Ctx.alloc_ev (C := C) (u := u) (cells := cells) (t := t) (b := b) hg hu hn
  have hne : ∀ {id b'}, C.η id = some b' → id ≠ u := fun hb e => hu (e ▸ hg.used hb)
  have hlive : ∀ {id b'}, (C.alloc u cells t b).η id = some b' → (id = u ∧ b' = b) ∨ (id ≠ u ∧ C.η id = some b') := by
    intro id b' hb'
    simp only [Ctx.alloc] at hb'
    by_cases e : id = u
    · subst e; rw [Heap.set_same] at hb'; cases hb'; exact .inl ⟨rfl, rfl⟩
    · rw [Heap.set_other _ _ e] at hb'; exact .inr ⟨e, hb'⟩
  have hlt : ∀ {id b'}, C.η id = some b' → b'.nilp = false → (C.ρ id).1 < C.w.heap.size := by
    intro id b' hb' hn'
    obtain ⟨c, t', h1, _⟩ := hg.blk hb' hn'
    exact (Array.getElem?_eq_some_iff.1 h1).1
  refine ⟨?_, ?_, ?_, ?_, ?_, ?_⟩
  · intro id b' hb'
    rcases hlive hb' with ⟨rfl, rfl⟩ | ⟨e, hb'⟩
    · exact .inr rfl
    · exact .inl (hg.used hb')
  · intro id b' hb' hn'
    rcases hlive hb' with ⟨rfl, rfl⟩ | ⟨e, hb'⟩
    · rw [hn] at hn'; cases hn'
    · exact hg.nils hb' hn'
  · intro id b' hb' hn'
    rcases hlive hb' with ⟨rfl, rfl⟩ | ⟨e, hb'⟩
    · refine ⟨cells, t, ?_, by simp [Ctx.alloc], ?_, ?_⟩
      · simp only [Ctx.alloc, if_true]; exact heap_alloc_new C.w _
      · simp only [Ctx.alloc, if_true]; omega
      · intro j h h'
        have e0 : ((C.alloc id cells t b').ρ id).2 + j = j := by simp [Ctx.alloc]
        simp only [e0]
        exact (hv j h (by rw [e0] at h'; exact h')).mono hg he
    · obtain ⟨c, t', h1, h2, h3, h4⟩ := hg.blk hb' hn'
      have e1 : (C.alloc u cells t b).ρ id = C.ρ id := by simp [Ctx.alloc, e]
      have e2 : (C.alloc u cells t b).sz id = C.sz id := by simp [Ctx.alloc, e]
      rw [e1, e2]
      refine ⟨c, t', ?_, h2, h3, fun j h h' => (h4 j h h').mono hg he⟩
      exact (Below.heap_alloc _ _ _ (hlt hb' hn')).trans h1
  · rintro id id' ⟨b1, hb1, hn1⟩ ⟨b2, hb2, hn2⟩ h
    rcases hlive hb1 with ⟨h1, _⟩ | ⟨e1, hb3⟩ <;> rcases hlive hb2 with ⟨h2, _⟩ | ⟨e2, hb4⟩
    · exact h1.trans h2.symm
    · have := hlt hb4 hn2
      simp only [Ctx.alloc, h1, if_true, e2, if_false] at h; omega
    · have := hlt hb3 hn1
      simp only [Ctx.alloc, h2, if_true, e1, if_false] at h; omega
    · simp only [Ctx.alloc, e1, e2, if_false] at h
      exact hg.inj ⟨b1, hb3, hn1⟩ ⟨b2, hb4, hn2⟩ h
  · intro k hk
    have := hg.tlt (k := k) hk
    simp [Ctx.alloc]; omega
  · rintro k ⟨id, ⟨b', hb', hn'⟩, hk⟩ hT
    rcases hlive hb' with ⟨rfl, rfl⟩ | ⟨e, hb'⟩
    · have := hg.tlt (k := k) hT
      simp only [Ctx.alloc, if_true] at hk; omega
    · simp only [Ctx.alloc, e, if_false] at hk
      exact hg.apart ⟨id, ⟨b', hb', hn'⟩, hk⟩ hT
end

/-! ### Writing -/

def setR : Array Value → Nat → List Value → Array Value
  | cs, _, [] => cs
  | cs, o, v :: r => setR (cs.setIfInBounds o v) (o + 1) r
theorem setR_size : ∀ (xs : List Value) (cs : Array Value) (o : Nat), (setR cs o xs).size = cs.size
  | [], _, _ => rfl
  | v :: r, cs, o => by rw [setR, setR_size r]; simp
theorem setR_out : ∀ (xs : List Value) (cs : Array Value) (o j : Nat), j < o ∨ o + xs.length ≤ j → (setR cs o xs)[j]? = cs[j]?
  | [], _, _, _, _ => rfl
  | v :: r, cs, o, j, h => by
    rw [setR, setR_out r _ (o + 1) j (by simp at h; omega), Array.getElem?_setIfInBounds, if_neg (by simp at h; omega)]
theorem setR_in : ∀ (xs : List Value) (cs : Array Value) (o j : Nat), o + xs.length ≤ cs.size → j < xs.length → (setR cs o xs)[o + j]? = xs[j]?
  | v :: r, cs, o, 0, h, _ => by
    show (setR (cs.setIfInBounds o v) (o + 1) r)[o]? = some v
    rw [setR_out r _ (o + 1) o (by omega), Array.getElem?_setIfInBounds, if_pos rfl, if_pos (by simp at h; omega)]
  | v :: r, cs, o, j + 1, h, hj => by
    have := setR_in r (cs.setIfInBounds o v) (o + 1) j (by simp at h ⊢; omega) (by simpa using hj)
    rw [setR, show o + (j + 1) = o + 1 + j by omega, this]
    rfl
theorem setCells_heap : ∀ (xs : List Value) (w : World) (g o : Nat) (cs : Array Value) (t : TypeId), w.heap[g]? = some (.cells cs t (0, 0)) → (w.setCells g o xs).heap[g]? = some (.cells (setR cs o xs) t (0, 0))
  | [], _, _, _, _, _, h => h
  | v :: r, w, g, o, cs, t, h => setCells_heap r _ g (o + 1) _ t (heap_setCell_same _ _ _ _ _ _ h)
theorem setCells_other : ∀ (xs : List Value) (w : World) (g o k : Nat), k ≠ g → (w.setCells g o xs).heap[k]? = w.heap[k]?
  | [], _, _, _, _, _ => rfl
  | v :: r, w, g, o, k, h => by rw [World.setCells, setCells_other r _ g _ k h, heap_setCell_other _ _ _ _ h]
theorem setCells_rest : ∀ (xs : List Value) (w : World) (g o : Nat), (w.setCells g o xs).os = w.os ∧ (w.setCells g o xs).tape = w.tape ∧ (w.setCells g o xs).output = w.output ∧ (w.setCells g o xs).heap.size = w.heap.size
  | [], _, _, _ => ⟨rfl, rfl, rfl, rfl⟩
  | v :: r, w, g, o => by
    obtain ⟨h1, h2, h3, h4⟩ := setCells_rest r (w.setCell ⟨g, o, none⟩ v) g (o + 1)
    exact ⟨h1, h2, h3, by rw [World.setCells, h4]; simp [World.setCell]⟩

def setRange (cs : List AV) (o : Nat) (vs : List AV) : List AV := cs.take o ++ vs ++ cs.drop (o + vs.length)
theorem setRange_length {cs : List AV} {o : Nat} {vs : List AV} (h : o + vs.length ≤ cs.length) : (setRange cs o vs).length = cs.length := by simp [setRange]; omega

def Ctx.store (C : Ctx) (id : Nat) (b : Blk) (o : Nat) (vs : List AV) (xs : List Value) : Ctx :=
  { C with η := C.η.set id (some { b with cs := setRange b.cs o vs }), w := C.w.setCells (C.ρ id).1 ((C.ρ id).2 + o) xs }

section
variable {C : Ctx} {id : Nat} {b : Blk} {o : Nat} {vs : List AV} {xs : List Value}

theorem Ctx.store_ev (hg : Good C) (hb : C.η id = some b) (hn : b.nilp = false) : Ev C (C.store id b o vs xs) where
  os := (setCells_rest _ _ _ _).1
  tape := (setCells_rest _ _ _ _).2.1
  output := (setCells_rest _ _ _ _).2.2.1
  size := by simp only [Ctx.store]; rw [(setCells_rest _ _ _ _).2.2.2]; exact Nat.le_refl _
  keep := fun k _ hm => setCells_other _ _ _ _ _ (fun e => hm ⟨id, ⟨b, hb, hn⟩, e.symm⟩)
  mine := fun k ⟨id', ⟨b', hb', hn'⟩, hk⟩ => by
    left
    by_cases e : id' = id
    · subst e; exact ⟨id', ⟨b, hb, hn⟩, hk⟩
    · simp only [Ctx.store] at hb'
      rw [Heap.set_other _ _ e] at hb'
      exact ⟨id', ⟨b', hb', hn'⟩, hk⟩
  T := fun _ h => h
  Tnew := fun _ h => .inl h
  U := fun _ h => h
  old := fun id' b' hid hb' => by
    simp only [Ctx.store] at hb'
    by_cases e : id' = id
    · subst e
      rw [Heap.set_same] at hb'
      cases hb'
      exact ⟨b, hb, Nat.le_refl _, fun _ => ⟨rfl, rfl, rfl, rfl⟩⟩
    · rw [Heap.set_other _ _ e] at hb'
      exact ⟨b', hb', Nat.le_refl _, fun _ => ⟨rfl, rfl, rfl, rfl⟩⟩

theorem Ctx.store_good (hg : Good C) (hb : C.η id = some b) (hn : b.nilp = false) (ho : o + vs.length ≤ b.cs.length) (hl : xs.length = vs.length) (hv : ∀ i (h : i < vs.length) (h' : i < xs.length), VR C vs[i] xs[i]) : Good (C.store id b o vs xs) := by
  have he := Ctx.store_ev (C := C) (id := id) (b := b) (o := o) (vs := vs) (xs := xs) hg hb hn
  have hlive : ∀ {id' b'}, (C.store id b o vs xs).η id' = some b' → (id' = id ∧ b' = { b with cs := setRange b.cs o vs }) ∨ (id' ≠ id ∧ C.η id' = some b') := by
    intro id' b' hb'
    simp only [Ctx.store] at hb'
    by_cases e : id' = id
    · subst e; rw [Heap.set_same] at hb'; cases hb'; exact .inl ⟨rfl, rfl⟩
    · rw [Heap.set_other _ _ e] at hb'; exact .inr ⟨e, hb'⟩
  have hold : ∀ {id' b'}, (C.store id b o vs xs).η id' = some b' → b'.nilp = false → C.live id' := by
    intro id' b' hb' hn'
    rcases hlive hb' with ⟨rfl, rfl⟩ | ⟨_, h⟩
    · exact ⟨b, hb, hn⟩
    · exact ⟨b', h, hn'⟩
  refine ⟨?_, ?_, ?_, ?_, ?_, ?_⟩
  · intro id' b' hb'
    rcases hlive hb' with ⟨rfl, rfl⟩ | ⟨e, hb'⟩
    · exact hg.used hb
    · exact hg.used hb'
  · intro id' b' hb' hn'
    rcases hlive hb' with ⟨rfl, rfl⟩ | ⟨e, hb'⟩
    · simp only at hn'; rw [hn] at hn'; cases hn'
    · exact hg.nils hb' hn'
  · intro id' b' hb' hn'
    rcases hlive hb' with ⟨rfl, rfl⟩ | ⟨e, hb'⟩
    · obtain ⟨c, t', h1, h2, h3, h4⟩ := hg.blk hb hn
      refine ⟨setR c ((C.ρ id').2 + o) xs, t', setCells_heap xs C.w _ _ c t' h1, by rw [setR_size]; exact h2, ?_, ?_⟩
      · rw [setR_size, setRange_length ho]; exact h3
      · show ∀ j (h : j < (setRange b.cs o vs).length) (h' : (C.ρ id').2 + j < (setR c ((C.ρ id').2 + o) xs).size), VR (C.store id' b o vs xs) (setRange b.cs o vs)[j] (setR c ((C.ρ id').2 + o) xs)[(C.ρ id').2 + j]
        intro j h h'
        have hj : j < b.cs.length := by rw [setRange_length ho] at h; exact h
        have hjc : (C.ρ id').2 + j < c.size := by omega
        by_cases hin : o ≤ j ∧ j < o + vs.length
        · obtain ⟨i, rfl⟩ : ∃ i, j = o + i := ⟨j - o, by omega⟩
          have hi : i < vs.length := by omega
          have e1 : (setRange b.cs o vs)[o + i] = vs[i] := by
            have : (setRange b.cs o vs)[o + i]? = vs[i]? := by
              simp only [setRange]
              rw [List.getElem?_append_left (by simp; omega), List.getElem?_append_right (by simp; omega)]
              congr 1
              simp; omega
            rw [List.getElem?_eq_getElem h, List.getElem?_eq_getElem hi] at this
            exact Option.some.inj this
          have e2 : (setR c ((C.ρ id').2 + o) xs)[(C.ρ id').2 + (o + i)]? = xs[i]? := by
            rw [← Nat.add_assoc]; exact setR_in xs c _ i (by omega) (by omega)
          have e3 : (setR c ((C.ρ id').2 + o) xs)[(C.ρ id').2 + (o + i)]'h' = xs[i]'(by omega) := by
            have := e2
            rw [Array.getElem?_eq_getElem h', List.getElem?_eq_getElem (by omega)] at this
            exact Option.some.inj this
          rw [e1, e3]
          exact (hv i hi (by omega)).mono hg he
        · have e1 : (setRange b.cs o vs)[j] = b.cs[j] := by
            have : (setRange b.cs o vs)[j]? = b.cs[j]? := by
              simp only [setRange]
              by_cases hjo : j < o
              · rw [List.getElem?_append_left (by simp; omega), List.getElem?_append_left (by simp; omega)]
                rw [List.getElem?_take_of_lt hjo]
              · rw [List.getElem?_append_right (by simp; omega), List.getElem?_drop]
                congr 1
                simp; omega
            rw [List.getElem?_eq_getElem h, List.getElem?_eq_getElem hj] at this
            exact Option.some.inj this
          have e3 : (setR c ((C.ρ id').2 + o) xs)[(C.ρ id').2 + j]'h' = c[(C.ρ id').2 + j] := by
            have := setR_out xs c ((C.ρ id').2 + o) ((C.ρ id').2 + j) (by omega)
            rw [Array.getElem?_eq_getElem h', Array.getElem?_eq_getElem hjc] at this
            exact Option.some.inj this
          rw [e1, e3]
          exact (h4 j hj hjc).mono hg he
    · obtain ⟨c, t', h1, h2, h3, h4⟩ := hg.blk hb' hn'
      refine ⟨c, t', ?_, h2, h3, fun j h h' => (h4 j h h').mono hg he⟩
      refine (setCells_other _ _ _ _ _ (fun e' => e (hg.inj ⟨b', hb', hn'⟩ ⟨b, hb, hn⟩ e'))).trans h1
  · rintro i i' ⟨b1, hb1, hn1⟩ ⟨b2, hb2, hn2⟩ h
    exact hg.inj (hold hb1 hn1) (hold hb2 hn2) h
  · intro k hk
    have := hg.tlt (k := k) hk
    simp only [Ctx.store]; rw [(setCells_rest _ _ _ _).2.2.2]; exact this
  · rintro k ⟨i, ⟨b', hb', hn'⟩, hk⟩ hT
    exact hg.apart ⟨i, hold hb' hn', hk⟩ hT
end
end Go.Proofs.Ytcbpakbhklbdnaa
