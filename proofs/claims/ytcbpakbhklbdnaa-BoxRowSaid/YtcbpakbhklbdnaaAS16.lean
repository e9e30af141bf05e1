/- More small rules. -/
import Derived.Test.YtcbpakbhklbdnaaAS15
namespace Go.Proofs.Ytcbpakbhklbdnaa
set_option linter.unusedVariables false
open Go.RowKit

section
variable {P : Program} {τ : Nat → AV} {η : Heap} {d : Option Tmp} {ty : TypeId} {pos : String} {af : Array Edge} {g : Option (Nat × Bool)}

/-- append of nothing to nil. -/
theorem LOp.appendZ {t e sz : Nat} {s x : Operand} {fp : List Nat} {news : List AV} (ht : P.underlying t = some (.slice e)) (hs : sizeInfo P e = some sz) (hx : aev τ s = .v (.slice none 0 0)) (hsrc : Src η fp (aev τ x) 0 news) (hn : news = []) :
    LOp P ⟨d, .call { callee := .builtin .append, args := #[s, x], argTypes := #[t, t] }, ty, pos, af, g⟩ τ η fp [] (.v (.slice none 0 0)) :=
  .look fp fun C a hg hxs hfp => by
    unfold sizeInfo at hs
    cases hi : P.info? e with
    | none => rw [hi] at hs; cases hs
    | some inf =>
      have e1 := hxs s (by simp [Op.operands, Call.operands])
      rw [hx] at e1
      have e0 := e1.v_inv
      rcases hsrc C hg hfp _ (hxs x (by simp [Op.operands, Call.operands])) with ⟨_, _, ad, c, hx2⟩ | ⟨ad, c, vals, hx2, _⟩
      · refine ⟨.slice none 0 0, exec_append C.w ?_, VR.v C _⟩
        rw [e0, hx2]
        exact run_append_zero (P := P) (ty := ty) ht hi C.w none ad 0 0 c (Nat.le_refl _)
      · refine ⟨.slice none 0 0, exec_append C.w ?_, VR.v C _⟩
        rw [e0, hx2]
        exact run_append_zero (P := P) (ty := ty) ht hi C.w none (some ad) 0 0 c (Nat.le_refl _)

theorem Src.treeMap {η : Heap} {α : Type} {n m : Nat} {f : α → List AV} {l : List α} (hm : l.length = m) : Src η [] (.tree n (l.map f)) m (l.map f).flatten := by
  have := Src.tree (η := η) (n := n) (xs := l.map f)
  rw [List.length_map, hm] at this
  exact this

theorem run_eqBool {P : Program} {t : TypeId} (hu : P.underlying t = some .bool) (p q : Bool) (n : Nat) (w : World) : (Op.equalIn (n + 1) t (.bool p) (.bool q)).run P w = .ok (p == q) w := by
  simp only [Op.equalIn, Sem.run_bind, run_underlying hu, Result.andThen_ok, Sem.run_pure]
theorem run_eqBool' {P : Program} {t : TypeId} (hu : P.underlying t = some .bool) (p q : Bool) (w : World) : (Op.equal t (.bool p) (.bool q)).run P w = .ok (p == q) w := run_eqBool hu p q 9999 w
/-- Whether two truth values are equal. -/
theorem LOp.eqB {t t' : Nat} {x y : Operand} {p q : Bool} (hx : aev τ x = .v (.bool p)) (hy : aev τ y = .v (.bool q)) (hu : P.underlying t = some .bool) :
    LOp P ⟨d, .binOp .eql t x y t', ty, pos, af, g⟩ τ η [] [] (.v (.bool (p == q))) :=
  .look [] fun C a _ hxs _ => by
    have e1 := hxs x (by simp [Op.operands])
    have e2 := hxs y (by simp [Op.operands])
    rw [hx] at e1
    rw [hy] at e2
    refine ⟨.bool (p == q), ?_, VR.v C _⟩
    have h : (binOp .eql t (.bool p) (.bool q)).run P C.w = .ok (.bool (p == q)) C.w := by
      show ((do pure (.bool (← Op.equal t (.bool p) (.bool q))) : Sem Value)).run P C.w = _
      simp only [Sem.run_bind, run_eqBool' hu, Result.andThen_ok, Sem.run_pure]
    have h2 : (eqGuard .eql t x y (.bool p) (.bool q)) = pure () := rfl
    simp only [execOp, e1.v_inv, e2.v_inv, h2, Sem.run_bind, Sem.run_pure, Result.andThen_ok, h]
theorem LOp.neB {t t' : Nat} {x y : Operand} {p q : Bool} (hx : aev τ x = .v (.bool p)) (hy : aev τ y = .v (.bool q)) (hu : P.underlying t = some .bool) :
    LOp P ⟨d, .binOp .neq t x y t', ty, pos, af, g⟩ τ η [] [] (.v (.bool (!(p == q)))) :=
  .look [] fun C a _ hxs _ => by
    have e1 := hxs x (by simp [Op.operands])
    have e2 := hxs y (by simp [Op.operands])
    rw [hx] at e1
    rw [hy] at e2
    refine ⟨.bool (!(p == q)), ?_, VR.v C _⟩
    have h : (binOp .neq t (.bool p) (.bool q)).run P C.w = .ok (.bool (!(p == q))) C.w := by
      show ((do pure (.bool (!(← Op.equal t (.bool p) (.bool q)))) : Sem Value)).run P C.w = _
      simp only [Sem.run_bind, run_eqBool' hu, Result.andThen_ok, Sem.run_pure]
    have h2 : (eqGuard .neq t x y (.bool p) (.bool q)) = pure () := rfl
    simp only [execOp, e1.v_inv, e2.v_inv, h2, Sem.run_bind, Sem.run_pure, Result.andThen_ok, h]

/-- The cells of a block as rows of some plain data. -/
theorem FzP.slMap {α : Type} {fp : List Nat} {η : Heap} {id ver w n len : Nat} {cs : List AV} {ez : Nat} {np : Bool} {f : α → List AV} {l : List α} (hid : id ∈ fp) (hb : η id = some ⟨w, cs, ez, np⟩) (hv : w = ver) (hn : np = false) (hz : ez = n) (hcs : cs = (l.map f).flatten) (hl : l.length = len) (hf : ∀ a ∈ l, (f a).length = n ∧ pureL (f a) = true) :
    FzP fp η (.sl id ver 0 len) (.tree n (l.map f)) := by
  subst hz; subst hn; subst hv; subst hcs
  have hrow : ∀ k (h : k < (l.map f).length), (l.map f)[k].length = ez := fun k h => by simp; exact (hf _ (List.getElem_mem _)).1
  refine FzP.sl (b := ⟨w, (l.map f).flatten, ez, false⟩) hid hb rfl rfl (by simpa using hl) hrow (fun k h j h' => ?_)
  have hj : j < ez := by rw [hrow k h] at h'; exact h'
  have hlt : k * ez + j < (l.map f).length * ez := by
    have : (k + 1) * ez ≤ (l.map f).length * ez := Nat.mul_le_mul_right _ h
    rw [Nat.add_mul] at this; omega
  obtain ⟨g1, g2, g3, g4⟩ := flatten_get (l.map f) hrow (k * ez + j) hlt
  have hez : 0 < ez := by omega
  have e1 : (k * ez + j) / ez = k := by rw [Nat.mul_comm, Nat.mul_add_div hez, Nat.div_eq_of_lt hj, Nat.add_zero]
  have e2 : (k * ez + j) % ez = j := by rw [Nat.mul_comm, Nat.mul_add_mod, Nat.mod_eq_of_lt hj]
  refine ⟨(l.map f)[k][j], ?_, FzP.pure ?_⟩
  · rw [Nat.zero_add, List.getElem?_eq_getElem g3, g4]
    simp only [e1, e2]
  · have := (hf (l[k]'(by simpa using h)) (List.getElem_mem _)).2
    exact pureL_at (by simpa using this) j h'
end
end Go.Proofs.Ytcbpakbhklbdnaa
namespace Go.Proofs.Ytcbpakbhklbdnaa
/-- A loop that is left in its first round. -/
theorem AWP.loopExit {P : Program} {N : Nat} {Q : Exit → St → Prop} {s : St} {c : Code} (h : AWP P N c (andThen (fun _ => False) Q) s) : AWP P N (.loop c) Q s :=
  AWP.loop (fun _ s' => s' = s) (fun n s' e => by
    subst e
    refine AWP.mono h ?_
    intro e s'' hq
    cases e with
    | normal => exact hq.elim
    | _ => exact hq) (n := 0) rfl
end Go.Proofs.Ytcbpakbhklbdnaa
