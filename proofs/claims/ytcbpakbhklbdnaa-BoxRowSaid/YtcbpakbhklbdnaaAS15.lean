/- Calls that are handed slices of the call's own for good; parts of several results. -/
import Derived.Test.YtcbpakbhklbdnaaAS14
namespace Go.Proofs.Ytcbpakbhklbdnaa
set_option linter.unusedVariables false
open Go.RowKit

section
variable {P : Program} {τ : Nat → AV} {η : Heap} {d : Option Tmp} {ty : TypeId} {pos : String} {af : Array Edge} {g : Option (Nat × Bool)}

/-- What a callee leaves that is handed the blocks of fp for good. -/
def Ctx.given (C : Ctx) (fp : List Nat) (T' : Nat → Prop) (w' : World) : Ctx := { C with η := C.η.put (fp.map fun id => (id, none)), T := T', w := w' }
theorem put_none (η : Heap) : ∀ (fp : List Nat) (id : Nat), (η.put (fp.map fun id => (id, none))) id = if id ∈ fp then none else η id := by
  intro fp id
  rw [put_eq]
  have : ∀ fp : List Nat, lastΔ (fp.map fun id => ((id, none) : Nat × Option Blk)) id = if id ∈ fp then some none else none := by
    intro fp
    induction fp with
    | nil => rfl
    | cons a r ih =>
      simp only [List.map_cons, lastΔ, ih, List.mem_cons]
      by_cases h : id ∈ r
      · simp [h]
      · by_cases e : a = id
        · subst e; simp [h]
        · have e' : ¬ id = a := fun h => e h.symm
          simp [h, e, e']
  rw [this fp]
  by_cases h : id ∈ fp <;> simp [h]

theorem LOp.callF {f : FuncId} {xs : Array Operand} {ats : Array TypeId} {ret : AV} {args : List AV} (fp : List Nat) (hb : bodied P f = true) (hl : xs.size = args.length) (hf : ∀ i (h : i < xs.size) (h' : i < args.length), FzP fp η (aev τ xs[i]) args[i]) (hused : ∀ id ∈ fp, (η id).isSome = true) (hc : PCall P f args ret) :
    LOp P ⟨d, .call { callee := .value (.func f), args := xs, argTypes := ats }, ty, pos, af, g⟩ τ η fp (fp.map fun id => (id, none)) ret := by
  intro C a hg hxs hfp _ K Q hK
  have hargs : TRs (fun b => C.T b ∨ C.mineOf fp b) C.w args (xs.map a.eval) := ⟨by simp; omega, fun i h h' => by
    simp only [Array.getElem_map]
    have h'' : i < xs.size := by simpa using h'
    exact hf i h'' h C hg hfp _ (hxs _ (by simp [Op.operands, Call.operands]))⟩
  have hrun : (execOp a.eval ⟨d, .call { callee := .value (.func f), args := xs, argTypes := ats }, ty, pos, af, g⟩).run P C.w = .ok (.enter f (xs.map a.eval)) C.w := by
    have : execOp a.eval ⟨d, .call { callee := .value (.func f), args := xs, argTypes := ats }, ty, pos, af, g⟩ = callFunc f (#[] ++ xs.map a.eval ++ #[]) := rfl
    rw [this, run_callFunc' hb]
    simp
  unfold Oper.wp
  rw [hrun]
  refine Calls.mono (hc (fun b => C.T b ∨ C.mineOf fp b) C.w _ hargs (fun b hb => hb.elim (fun h => hg.tlt h) (fun h => Ctx.mine_lt hg (Ctx.mineOf_mine h)))) ?_
  rintro e w' ⟨x, T', rfl, hx, t1, t2, t3, hbel⟩
  have hl : ∀ {i b'}, (C.given fp T' w').η i = some b' → i ∉ fp ∧ C.η i = some b' := by
    intro i b' hb'
    have := hb'
    simp only [Ctx.given] at this
    rw [put_none] at this
    by_cases e : i ∈ fp
    · rw [if_pos e] at this; cases this
    · rw [if_neg e] at this; exact ⟨e, this⟩
  have hlive : ∀ {i}, (C.given fp T' w').live i → i ∉ fp ∧ C.live i := fun ⟨b', h1, h2⟩ => ⟨(hl h1).1, b', (hl h1).2, h2⟩
  have hmine : ∀ {k}, (C.given fp T' w').mine k → C.mine k := fun ⟨i, h1, h2⟩ => ⟨i, (hlive h1).2, h2⟩
  have hev : Ev C (C.given fp T' w') := by
    refine ⟨⟨hbel.os, hbel.tape, hbel.output, hbel.size, fun k hk _ => hbel.block k hk, fun k hk => .inl (hmine hk), fun k hk => t1 k (.inl hk), fun k hk => ?_⟩, fun _ h => h, fun i b' _ hb' => ⟨b', (hl hb').2, Nat.le_refl _, fun _ => ⟨rfl, rfl, rfl, rfl⟩⟩⟩
    rcases t2 k hk with (h | h) | h
    · exact .inl h
    · exact .inr (.inl (Ctx.mineOf_mine h))
    · exact .inr (.inr h)
  have hgood : Good (C.given fp T' w') := by
    refine ⟨fun hb' => hg.used (hl hb').2, fun hb' hn => hg.nils (hl hb').2 hn, ?_, fun h1 h2 h3 => hg.inj (hlive h1).2 (hlive h2).2 h3, fun {k} hk => t3 k hk, ?_⟩
    · intro i b' hb' hn
      obtain ⟨c, t', g1, g2, g3, g4⟩ := hg.blk (hl hb').2 hn
      exact ⟨c, t', (hbel.block _ (Array.getElem?_eq_some_iff.1 g1).1).trans g1, g2, g3, fun j hj hj' => (g4 j hj hj').mono hg hev⟩
    · rintro k ⟨i, h1, rfl⟩ hT
      obtain ⟨hni, hli⟩ := hlive h1
      rcases t2 _ hT with (h | ⟨i', hi', hl', e⟩) | h
      · exact hg.apart ⟨i, hli, rfl⟩ h
      · have := hg.inj hl' hli e
        subst this
        exact hni hi'
      · have := Ctx.mine_lt hg ⟨i, hli, rfl⟩
        have h' : C.w.heap.size ≤ (C.ρ i).1 := h
        omega
  refine hK x (C.given fp T' w') rfl (fun id => ?_) hgood hev (.imm hx)
  simp only [Ctx.given, List.map_map, List.mem_map, Function.comp]
  constructor
  · exact fun h => .inl h
  · rintro (h | ⟨i, hi, rfl⟩)
    · exact h
    · have h1 := hused i hi
      rw [← hfp i hi] at h1
      obtain ⟨b, hb⟩ := Option.isSome_iff_exists.1 h1
      exact hg.used hb

theorem LOp.extract {x : Operand} {i : Nat} {cs : List AV} {v : AV} (hx : aev τ x = .tup cs) (hv : cs[i]? = some v) : LOp P ⟨d, .extract x i, ty, pos, af, g⟩ τ η [] [] v :=
  .look [] fun C a _ hxs _ => by
    have h1 := hxs x (by simp [Op.operands])
    rw [hx] at h1
    obtain ⟨vs, e, h2, h3⟩ := h1.tup_inv
    obtain ⟨hlt, he⟩ := List.getElem?_eq_some_iff.1 hv
    have hlt' : i < vs.size := by omega
    refine ⟨vs[i], ?_, by rw [← he]; exact h3 i hlt hlt'⟩
    simp [execOp, e, Instr.extract, hlt']
end

section
variable {P : Program} {N : Nat} {ops : Array Oper} {l : List Oper} {K : St → Prop} {KD : List Rec → St → Prop} {τ : Nat → AV} {η : Heap} {u : Nat} {op : Op} {ty : TypeId} {pos : String} {af : Array Edge} {g : Option (Nat × Bool)}
theorem newOk_given {fp : List Nat} {u : Nat} (h : fp.all (fun id => Nat.ble (id + 1) u) = true) : newOk fp (fp.map fun id => ((id, none) : Nat × Option Blk)) u u = true := by
  unfold newOk
  rw [List.all_eq_true]
  intro p hp
  obtain ⟨i, hi, rfl⟩ := List.mem_map.1 hp
  have := List.all_eq_true.1 h i hi
  simp only [Bool.or_eq_true, Bool.and_eq_true, List.contains_iff_mem]
  exact .inl ⟨hi, this⟩
/-- A step that writes some blocks (and lays no new ones). -/
theorem AOps.gv {d : Nat} {fp : List Nat} {δ : List (Nat × Option Blk)} {v : AV} (hL : LOp P ⟨some d, op, ty, pos, af, g⟩ τ η fp δ v) (hw : want ops τ ⟨some d, op, ty, pos, af, g⟩ = some true) (hd : dstOk N ops ⟨some d, op, ty, pos, af, g⟩ = true) (u' : Nat) (hu : Nat.ble u u' = true) (hn : newOk fp δ u u' = true)
    (h : AOps P N ops l K ⟨upd τ d v, η.put δ, u'⟩) : AOps P N ops (⟨some d, op, ty, pos, af, g⟩ :: l) K ⟨τ, η, u⟩ :=
  AOps.op (s := ⟨τ, η, u⟩) u' hL hw hd hu hn h
theorem SeqC.gv {d : Nat} {fp : List Nat} {δ : List (Nat × Option Blk)} {v : AV} (hL : LOp P ⟨some d, op, ty, pos, af, g⟩ τ η fp δ v) (hw : want ops τ ⟨some d, op, ty, pos, af, g⟩ = some true) (hd : dstOk N ops ⟨some d, op, ty, pos, af, g⟩ = true) (u' : Nat) (hu : Nat.ble u u' = true) (hn : newOk fp δ u u' = true)
    (h : SeqC P N ops l (fun rs s' => KD (⟨fp, δ, v, u'⟩ :: rs) s') ⟨upd τ d v, η.put δ, u'⟩) : SeqC P N ops (⟨some d, op, ty, pos, af, g⟩ :: l) KD ⟨τ, η, u⟩ := by
  obtain ⟨rs, s', h1, h2⟩ := h
  exact ⟨_, s', Seq.op (s := ⟨τ, η, u⟩) u' hL hw hd hu hn h1, h2⟩
end
end Go.Proofs.Ytcbpakbhklbdnaa
