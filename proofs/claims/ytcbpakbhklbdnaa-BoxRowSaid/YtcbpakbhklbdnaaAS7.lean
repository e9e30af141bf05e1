/- Calls of functions that are handed plain values and give plain values; entering and leaving a function; forgetting. -/
import Derived.Test.YtcbpakbhklbdnaaAS6
namespace Go.Proofs.Ytcbpakbhklbdnaa
set_option linter.unusedVariables false
open Go.RowKit

mutual
/-- No block of the call's own is named. -/
def AV.pureB : AV → Bool
  | .v _ => true
  | .tree _ _ => true
  | .tp _ _ => true
  | .unk => true
  | .ptr _ _ _ => false
  | .sl _ _ _ _ => false
  | .agg cs => pureL cs
  | .tup cs => pureL cs
  | .clo _ cs => pureL cs
def pureL : List AV → Bool
  | [] => true
  | a :: r => a.pureB && pureL r
end
mutual
/-- All blocks of the call's own that are named lie below u. -/
def AV.lowB (u : Nat) : AV → Bool
  | .v _ => true
  | .tree _ _ => true
  | .tp _ _ => true
  | .unk => true
  | .ptr id _ _ => Nat.ble (id + 1) u
  | .sl id _ _ _ => Nat.ble (id + 1) u
  | .agg cs => lowL u cs
  | .tup cs => lowL u cs
  | .clo _ cs => lowL u cs
def lowL (u : Nat) : List AV → Bool
  | [] => true
  | a :: r => a.lowB u && lowL u r
end
theorem pureL_at : ∀ {cs : List AV} (_ : pureL cs = true) (i : Nat) (h : i < cs.length), cs[i].pureB = true
  | a :: r, h, 0, _ => by simp only [pureL, Bool.and_eq_true] at h; exact h.1
  | a :: r, h, i + 1, hi => by simp only [pureL, Bool.and_eq_true] at h; exact pureL_at h.2 i (by simpa using hi)
theorem pureL_iff {cs : List AV} : pureL cs = true ↔ ∀ a ∈ cs, a.pureB = true := by
  induction cs with
  | nil => simp [pureL]
  | cons a r ih => simp [pureL, ih]
theorem lowL_iff {u : Nat} {cs : List AV} : lowL u cs = true ↔ ∀ a ∈ cs, a.lowB u = true := by
  induction cs with
  | nil => simp [lowL]
  | cons a r ih => simp [lowL, ih]
theorem lowL_at {u : Nat} {cs : List AV} (h : lowL u cs = true) (i : Nat) (hi : i < cs.length) : cs[i].lowB u = true := lowL_iff.1 h _ (List.getElem_mem _)

theorem VR.pure {C : Ctx} {a : AV} {x : Value} (h : VR C a x) (hp : a.pureB = true) : TR C.T C.w a x := by
  induction h with
  | imm h => exact h
  | agg hl _ ih => exact .agg hl (fun i h h' => ih i h h' (pureL_at (by simpa [AV.pureB] using hp) i h))
  | tup hl _ ih => exact .tup hl (fun i h h' => ih i h h' (pureL_at (by simpa [AV.pureB] using hp) i h))
  | clo hl _ ih => exact .clo hl (fun i h h' => ih i h h' (pureL_at (by simpa [AV.pureB] using hp) i h))
  | _ => simp [AV.pureB] at hp

/-! ### Calls -/

def TRs (T : Nat → Prop) (w : World) (as : List AV) (vs : Array Value) : Prop := as.length = vs.size ∧ ∀ i (h : i < as.length) (h' : i < vs.size), TR T w as[i] vs[i]

/-- What a call gives. -/
def Gives (T : Nat → Prop) (w : World) (ret : AV) (e : Ending) (w' : World) : Prop :=
  ∃ x T', e = .returned x ∧ TR T' w' ret x ∧ (∀ b, T b → T' b) ∧ (∀ b, T' b → T b ∨ w.heap.size ≤ b) ∧ (∀ b, T' b → b < w'.heap.size) ∧ Below w.heap.size w w'

/-- The call of f at plain values gives a plain value, and nothing else is seen of it. -/
def PCall (P : Program) (f : FuncId) (args : List AV) (ret : AV) : Prop :=
  ∀ (T : Nat → Prop) (w : World) (vals : Array Value), TRs T w args vals → (∀ b, T b → b < w.heap.size) → Calls P f vals w (Gives T w ret)

/-- A function with a body. -/
def bodied (P : Program) (f : Nat) : Bool := match P.funcs[f]? with
  | some fn => fn.body.isSome && !(fn.name == "runtime.NumGoroutine")
  | none => false
theorem run_callFunc' {P : Program} {f : Nat} (h : bodied P f = true) (args : Array Value) (w : World) : (callFunc f args).run P w = .ok (.enter f args) w := by
  unfold bodied at h
  cases hf : P.funcs[f]? with
  | none => rw [hf] at h; cases h
  | some fn =>
    rw [hf] at h
    simp only [Bool.and_eq_true, Bool.not_eq_true', beq_eq_false_iff_ne] at h
    obtain ⟨h1, h2⟩ := h
    cases hb : fn.body with
    | none => rw [hb] at h1; cases h1
    | some c => simp [callFunc, hf, h2, hb]

section
variable {P : Program} {τ : Nat → AV} {η : Heap} {d : Option Tmp} {ty : TypeId} {pos : String} {af : Array Edge} {g : Option (Nat × Bool)}

/-- What a callee leaves: the blocks that were there as they were. -/
def Ctx.after (C : Ctx) (T' : Nat → Prop) (w' : World) : Ctx := { C with T := T', w := w' }
theorem Ctx.mine_lt {C : Ctx} (hg : Good C) {k : Nat} (h : C.mine k) : k < C.w.heap.size := by
  obtain ⟨id, ⟨b, hb, hn⟩, rfl⟩ := h
  obtain ⟨c, t', h1, _⟩ := hg.blk hb hn
  exact (Array.getElem?_eq_some_iff.1 h1).1
theorem Ctx.after_ev {C : Ctx} (hg : Good C) {T' : Nat → Prop} {w' : World} (hb : Below C.w.heap.size C.w w') (h1 : ∀ b, C.T b → T' b) (h2 : ∀ b, T' b → C.T b ∨ C.w.heap.size ≤ b) : Ev C (C.after T' w') where
  os := hb.os
  tape := hb.tape
  output := hb.output
  size := hb.size
  keep := fun k hk _ => hb.block k hk
  mine := fun k hk => .inl hk
  T := h1
  Tnew := fun k hk => (h2 k hk).imp id .inr
  U := fun _ h => h
  old := fun id b' _ hb' => ⟨b', hb', Nat.le_refl _, fun _ => ⟨rfl, rfl, rfl, rfl⟩⟩
theorem Ctx.after_good {C : Ctx} (hg : Good C) {T' : Nat → Prop} {w' : World} (hb : Below C.w.heap.size C.w w') (h1 : ∀ b, C.T b → T' b) (h2 : ∀ b, T' b → C.T b ∨ C.w.heap.size ≤ b) (h3 : ∀ b, T' b → b < w'.heap.size) : Good (C.after T' w') where
  used := hg.used
  nils := hg.nils
  blk := fun {id b} hb' hn => by
    obtain ⟨c, t', g1, g2, g3, g4⟩ := hg.blk hb' hn
    exact ⟨c, t', (hb.block _ (Array.getElem?_eq_some_iff.1 g1).1).trans g1, g2, g3, fun j h h' => (g4 j h h').mono hg (Ctx.after_ev hg hb h1 h2)⟩
  inj := hg.inj
  tlt := fun {k} hk => h3 k hk
  apart := fun {k} hk hT => by
    rcases h2 k hT with h | h
    · exact hg.apart hk h
    · have := Ctx.mine_lt hg hk
      omega

theorem args_rel {C : Ctx} {a : Act} {xs : Array Operand} (h : ∀ x ∈ xs, VR C (aev τ x) (a.eval x)) (hp : pureL (xs.toList.map (aev τ)) = true) : TRs C.T C.w (xs.toList.map (aev τ)) (xs.map a.eval) := by
  refine ⟨by simp, fun i hi hi' => ?_⟩
  have hx := pureL_at hp i hi
  simp only [List.getElem_map, Array.getElem_toList, Array.getElem_map] at hx ⊢
  exact (h _ (Array.getElem_mem _)).pure hx

theorem LOp.of_call {o : Oper} {f : FuncId} {args : List AV} {ret : AV} {fp : List Nat} (hc : PCall P f args ret)
    (h : ∀ (C : Ctx) (a : Act), Good C → (∀ x ∈ o.op.operands, VR C (aev τ x) (a.eval x)) → (∀ id ∈ fp, C.η id = η id) → ∃ vals, TRs C.T C.w args vals ∧ (execOp a.eval o).run P C.w = .ok (.enter f vals) C.w) :
    LOp P o τ η fp [] ret := by
  intro C a hg hxs hfp _ K Q hK
  obtain ⟨vals, h1, h2⟩ := h C a hg hxs hfp
  unfold Oper.wp
  rw [h2]
  refine Calls.mono (hc C.T C.w vals h1 (fun b hb => hg.tlt hb)) ?_
  rintro e w' ⟨x, T', rfl, hx, t1, t2, t3, hb⟩
  exact hK x (C.after T' w') rfl (fun id => by simp [Ctx.after]) (Ctx.after_good hg hb t1 t2 t3) (Ctx.after_ev hg hb t1 t2) (.imm hx)

theorem LOp.call {f : FuncId} {xs : Array Operand} {ats : Array TypeId} {ret : AV} (hb : bodied P f = true) (hp : pureL (xs.toList.map (aev τ)) = true) (hc : PCall P f (xs.toList.map (aev τ)) ret) :
    LOp P ⟨d, .call { callee := .value (.func f), args := xs, argTypes := ats }, ty, pos, af, g⟩ τ η [] [] ret :=
  .of_call hc fun C a hg hxs _ => ⟨xs.map a.eval, args_rel (fun x hx => hxs x (by simp [Op.operands, Call.operands]; exact .inr (by simpa using hx))) hp, by
    have : execOp a.eval ⟨d, .call { callee := .value (.func f), args := xs, argTypes := ats }, ty, pos, af, g⟩ = callFunc f (#[] ++ xs.map a.eval ++ #[]) := rfl
    rw [this, run_callFunc' hb]
    simp⟩

/-! ### What is the call's own, handed over for good -/

def Ctx.mineOf (C : Ctx) (fp : List Nat) (k : Nat) : Prop := ∃ id ∈ fp, C.live id ∧ (C.ρ id).1 = k
theorem Ctx.mineOf_mine {C : Ctx} {fp : List Nat} {k : Nat} (h : C.mineOf fp k) : C.mine k := by obtain ⟨id, _, h1, h2⟩ := h; exact ⟨id, h1, h2⟩
/-- A value read with the blocks of 'fp' taken for such that nobody writes any more. -/
def FzP (fp : List Nat) (η : Heap) (a r : AV) : Prop := ∀ C : Ctx, Good C → (∀ id ∈ fp, C.η id = η id) → ∀ x, VR C a x → TR (fun b => C.T b ∨ C.mineOf fp b) C.w r x

theorem FzP.pure {fp : List Nat} {η : Heap} {a : AV} (h : a.pureB = true) : FzP fp η a a := fun C hg _ x hx => (hx.pure h).mono (fun b hb => .inl hb) (fun _ _ => rfl)
theorem FzP.mono {fp fp' : List Nat} {η : Heap} {a r : AV} (h : FzP fp η a r) (hs : ∀ i ∈ fp, i ∈ fp') : FzP fp' η a r := fun C hg hη x hx => (h C hg (fun id hid => hη id (hs id hid)) x hx).mono (fun b hb => hb.imp (fun h => h) (fun ⟨i, h1, h2⟩ => ⟨i, hs i h1, h2⟩)) (fun _ _ => rfl)
theorem FzP.nil {fp : List Nat} {η : Heap} {n : Nat} : FzP fp η (.v (.slice none 0 0)) (.tree n []) := fun C hg _ x hx => by
  rw [hx.v_inv]; exact .tree0 (by unfold maxLen; omega)
theorem FzP.agg {fp : List Nat} {η : Heap} {cs ds : List AV} (hl : cs.length = ds.length) (h : ∀ i (h : i < cs.length) (h' : i < ds.length), FzP fp η cs[i] ds[i]) : FzP fp η (.agg cs) (.agg ds) := fun C hg hη x hx => by
  obtain ⟨vs, rfl, h1, h2⟩ := hx.agg_inv
  exact .agg (by omega) (fun i hi hi' => h i (by omega) hi C hg hη _ (h2 i (by omega) hi'))
theorem FzP.sl {fp : List Nat} {η : Heap} {id ver off len : Nat} {b : Blk} {rows : List (List AV)} (hid : id ∈ fp) (hb : η id = some b) (hv : b.ver = ver) (hn : b.nilp = false) (hl : rows.length = len) (hrow : ∀ k (h : k < rows.length), rows[k].length = b.esz)
    (hc : ∀ k (h : k < rows.length) j (h' : j < rows[k].length), ∃ c, b.cs[off + k * b.esz + j]? = some c ∧ FzP fp η c rows[k][j]) : FzP fp η (.sl id ver off len) (.tree b.esz rows) := fun C hg hη x hx => by
  have hb' : C.η id = some b := (hη id hid).trans hb
  obtain ⟨ad, cap, rfl, h1, h2, h3, h4⟩ := hx.sl_inv hb' hv hn
  subst hl
  by_cases h0 : rows = []
  · subst h0; exact .tree0 h2
  have hpos : 0 < rows.length := List.length_pos_iff.2 h0
  rcases h4 with ⟨h4, _⟩ | ⟨rfl, h4⟩
  · omega
  have hcell : ∀ k j, k < rows.length → j < b.esz → ∃ y, C.w.cell? ⟨(C.ρ id).1, (C.ρ id).2 + off + k * b.esz + j, none⟩ = some y ∧ ∀ (hk : k < rows.length) (hj : j < rows[k].length), TR (fun b => C.T b ∨ C.mineOf fp b) C.w rows[k][j] y := by
    intro k j hk hj
    obtain ⟨c, g1, g2⟩ := hc k hk j (by rw [hrow k hk]; exact hj)
    obtain ⟨hlt, hce⟩ := List.getElem?_eq_some_iff.1 g1
    obtain ⟨y, hy, hvy⟩ := hg.cell hb' hn hlt
    refine ⟨y, by rw [← hy]; congr 2; omega, fun hk' hj' => ?_⟩
    rw [hce] at hvy
    exact g2 C hg hη y hvy
  let cell : Nat → Nat → Value := fun k j => if h : k < rows.length ∧ j < b.esz then Classical.choose (hcell k j h.1 h.2) else undef
  have hcs : ∀ k j (hk : k < rows.length) (hj : j < b.esz), C.w.cell? ⟨(C.ρ id).1, (C.ρ id).2 + off + k * b.esz + j, none⟩ = some (cell k j) ∧ ∀ (hk : k < rows.length) (hj : j < rows[k].length), TR (fun b => C.T b ∨ C.mineOf fp b) C.w rows[k][j] (cell k j) := by
    intro k j hk hj
    have hh : k < rows.length ∧ j < b.esz := ⟨hk, hj⟩
    have e : cell k j = Classical.choose (hcell k j hk hj) := dif_pos hh
    rw [e]
    exact Classical.choose_spec (hcell k j hk hj)
  exact .tree cell (.inr ⟨id, hid, ⟨b, hb', hn⟩, rfl⟩) h1 h2 h3 hrow (fun k j hk hj => (hcs k j hk hj).1) (fun k hk j hj => (hcs k j hk (by rw [← hrow k hk]; exact hj)).2 hk hj)

/-- A call that is handed blocks of the call's own to look at, and gives what names no block. -/
theorem LOp.of_callB {o : Oper} {f : FuncId} {args : List AV} {y : Value} {fp : List Nat} (hc : PCall P f args (.v y))
    (h : ∀ (C : Ctx) (a : Act), Good C → (∀ x ∈ o.op.operands, VR C (aev τ x) (a.eval x)) → (∀ id ∈ fp, C.η id = η id) → ∃ vals, TRs (fun b => C.T b ∨ C.mine b) C.w args vals ∧ (execOp a.eval o).run P C.w = .ok (.enter f vals) C.w) :
    LOp P o τ η fp [] (.v y) := by
  intro C a hg hxs hfp _ K Q hK
  obtain ⟨vals, h1, h2⟩ := h C a hg hxs hfp
  unfold Oper.wp
  rw [h2]
  refine Calls.mono (hc (fun b => C.T b ∨ C.mine b) C.w vals h1 (fun b hb => hb.elim (fun h => hg.tlt h) (fun h => Ctx.mine_lt hg h))) ?_
  rintro e w' ⟨x, T', rfl, hx, t1, t2, t3, hb⟩
  have hT : ∀ b, C.T b → b < w'.heap.size := fun b hb' => Nat.lt_of_lt_of_le (hg.tlt hb') hb.size
  have := hx.v_inv
  subst this
  exact hK x (C.after C.T w') rfl (fun id => by simp [Ctx.after]) (Ctx.after_good hg hb (fun _ h => h) (fun _ h => .inl h) hT) (Ctx.after_ev hg hb (fun _ h => h) (fun _ h => .inl h)) (VR.v _ _)

theorem LOp.callB {f : FuncId} {xs : Array Operand} {ats : Array TypeId} {y : Value} {args : List AV} (fp : List Nat) (hb : bodied P f = true) (hl : xs.size = args.length) (hf : ∀ i (h : i < xs.size) (h' : i < args.length), FzP fp η (aev τ xs[i]) args[i]) (hc : PCall P f args (.v y)) :
    LOp P ⟨d, .call { callee := .value (.func f), args := xs, argTypes := ats }, ty, pos, af, g⟩ τ η fp [] (.v y) :=
  .of_callB hc fun C a hg hxs hη => ⟨xs.map a.eval, ⟨by simp; omega, fun i h h' => by
      simp only [Array.getElem_map]
      have h'' : i < xs.size := by simpa using h'
      exact (hf i h'' h C hg hη _ (hxs _ (by simp [Op.operands, Call.operands]))).mono (fun b hb => hb.imp (fun h => h) Ctx.mineOf_mine) (fun _ _ => rfl)⟩, by
    have : execOp a.eval ⟨d, .call { callee := .value (.func f), args := xs, argTypes := ats }, ty, pos, af, g⟩ = callFunc f (#[] ++ xs.map a.eval ++ #[]) := rfl
    rw [this, run_callFunc' hb]
    simp⟩
end

/-! ### Entering and leaving -/

def frameOf (args : List AV) : Nat → AV := fun t => args.getD t (.v undef)
def noHeap : Heap := fun _ => none

/-- What the function gives in a state. -/
def Outs (P : Program) (N : Nat) (fn : Func) (s : St) (ret : AV) : Prop :=
  ∀ C a, SRel N C s a → ∃ x, (results fn a.tmps).run P C.w = .ok x C.w ∧ TR (fun b => C.T b ∨ C.mine b) C.w ret x

theorem PCall.of_body {P : Program} {f : FuncId} {fn : Func} {c : Code} {N : Nat} {args : List AV} {ret : AV} (hf : P.funcs[f]? = some fn) (hb : fn.body = some c) (hN : fn.ntmps = N) (hl : args.length ≤ N)
    (h : AWP P N c (fun e s' => (e = .normal ∨ e = .ret) ∧ Outs P N fn s' ret) ⟨frameOf args, noHeap, 0⟩) : PCall P f args ret := by
  intro T w vals ⟨hlen, hv⟩ hT
  let C : Ctx := ⟨fun _ => (0, 0), fun _ => 0, noHeap, fun _ => False, T, w⟩
  have hno : ∀ k, ¬ C.mine k := by rintro k ⟨_, ⟨_, h, _⟩, _⟩; cases h
  have hg : Good C := { used := fun h => (by cases h), nils := fun h => (by cases h), blk := fun h => (by cases h), inj := fun h _ => (by obtain ⟨_, h, _⟩ := h; cases h), tlt := fun hk => hT _ hk, apart := fun h _ => hno _ h }
  have hr : SRel N C ⟨frameOf args, noHeap, 0⟩ { tmps := vals ++ Array.replicate (fn.ntmps - vals.size) undef, defers := [] } := by
    refine ⟨hg, rfl, fun id h => h.elim, rfl, by simp; omega, fun t => ?_⟩
    simp only [Act.eval, frameOf]
    by_cases ht : t < args.length
    · have h1 : args.getD t (.v undef) = args[t] := by simp [List.getD, ht]
      have h2 : (vals ++ Array.replicate (fn.ntmps - vals.size) undef).getD t undef = vals[t]'(by omega) := by
        rw [Array.getD_eq_getD_getElem?, Array.getElem?_append_left (by omega)]
        simp [show t < vals.size by omega]
      rw [h1, h2]
      exact .imm (hv t ht (by omega))
    · have h1 : args.getD t (.v undef) = .v undef := by simp [List.getD, List.getElem?_eq_none (Nat.le_of_not_lt ht)]
      have h2 : (vals ++ Array.replicate (fn.ntmps - vals.size) undef).getD t undef = undef := by
        rw [Array.getD_eq_getD_getElem?, Array.getElem?_append_right (by omega)]
        rw [Array.getElem?_replicate]
        split <;> rfl
      rw [h1, h2]
      exact VR.v _ _
  refine calls_of_wp hf hb (Code.wp_mono ?_ (h C _ hr))
  rintro e a' w' ⟨s', C', ⟨he, ho⟩, rfl, hr', hfr⟩
  obtain ⟨x, h1, h2⟩ := ho C' a' hr'
  have hgive : Gives T w ret (.returned x) C'.w := by
    refine ⟨x, fun b => C'.T b ∨ C'.mine b, rfl, h2, fun b hb => .inl (hfr.T b hb), ?_, ?_, ⟨hfr.os, hfr.tape, hfr.output, hfr.size, fun k hk => hfr.keep k hk (hno k)⟩⟩
    · rintro b (hb | hb)
      · rcases hfr.Tnew b hb with h | h | h
        · exact .inl h
        · exact absurd h (hno b)
        · exact .inr h
      · rcases hfr.mine b hb with h | h
        · exact absurd h (hno b)
        · exact .inr h
    · rintro b (hb | hb)
      · exact hr'.good.tlt hb
      · exact Ctx.mine_lt hr'.good hb
  rcases he with rfl | rfl
  · exact ⟨hr'.defers, x, h1, hgive⟩
  · exact ⟨hr'.defers, x, h1, hgive⟩

theorem Outs.tmp {P : Program} {N : Nat} {fn : Func} {s : St} {ret : AV} {t : Nat} (hr : fn.results = #[.tmp t]) (h : ∃ fp, FzP fp s.η (s.τ t) ret) : Outs P N fn s ret := by
  intro C a hs
  obtain ⟨fp, hf⟩ := h
  refine ⟨a.tmps.getD t undef, ?_, (hf C hs.good (fun id _ => by rw [hs.η]) _ (hs.τ t)).mono (fun b hb => hb.imp (fun h => h) Ctx.mineOf_mine) (fun _ _ => rfl)⟩
  simp [results, hr]
theorem Outs.cell {P : Program} {N : Nat} {fn : Func} {s : St} {ret : AV} {t ty n id ver : Nat} {b : Blk} (hr : fn.results = #[.cell t ty]) (ht : rowOf P ty = some (some n)) (hx : s.τ t = .ptr id ver 0) (hb : s.η id = some b) (hv : b.ver = ver) (hn : b.nilp = false) (hl : b.cs.length = n)
    (h : ∃ fp, FzP fp s.η (.agg b.cs) ret) : Outs P N fn s ret := by
  intro C a hs
  obtain ⟨fp, hf⟩ := h
  have hb' : C.η id = some b := by rw [hs.η]; exact hb
  have h1 := hs.τ t
  rw [hx] at h1
  have h2 := h1.ptr_inv hb' hv
  simp only [Act.eval] at h2
  obtain ⟨fcell, hfc⟩ := choose_cells (n := n) (p := fun j y => C.w.cell? ⟨(C.ρ id).1, (C.ρ id).2 + j, none⟩ = some y ∧ VR C (b.cs.getD j .unk) y) (fun j hj => by
    obtain ⟨y, hy, hvy⟩ := hs.good.cell hb' hn (j := j) (by omega)
    refine ⟨y, hy, ?_⟩
    have : b.cs.getD j .unk = b.cs[j]'(by omega) := by simp [List.getD, show j < b.cs.length by omega]
    rw [this]; exact hvy)
  have hlen : ((List.range n).map fcell).length = n := by simp
  have hload := run_loadAtN (P := P) ht (b := (C.ρ id).1) (o := (C.ρ id).2) (w := C.w) hlen (fun j v hj => by
    obtain ⟨hlt, he⟩ := List.getElem?_eq_some_iff.1 hj
    simp only [List.getElem_map, List.getElem_range] at he
    subst he
    exact (hfc j (by simpa using hlt)).1)
  refine ⟨.agg ((List.range n).map fcell).toArray, ?_, (hf C hs.good (fun id _ => by rw [hs.η]) _ (.agg (by simp; omega) (fun i hi hi' => ?_))).mono (fun b hb => hb.imp (fun h => h) Ctx.mineOf_mine) (fun _ _ => rfl)⟩
  · have hh : (loadVar ty ⟨(C.ρ id).1, (C.ρ id).2 + 0, none⟩).run P C.w = .ok (.agg ((List.range n).map fcell).toArray) C.w := by
      have := hload
      simp only [Instr.loadAt, Instr.sureAddr, Sem.run_bind, Sem.run_pure, Result.andThen_ok] at this
      rw [Nat.add_zero]; exact this
    have hsingle : (results fn a.tmps).run P C.w = ((asAddr (a.tmps.getD t undef)).run P C.w).andThen fun ad w₁ => (loadVar ty ad).run P w₁ := by
      simp only [results, hr]
      simp [Sem.run_bind, Result.andThen]
    rw [hsingle, h2]
    simp only [asAddr, Sem.run_pure, Result.andThen_ok, hh]
  · have hin : i < n := by omega
    simp only [List.getElem_toArray, List.getElem_map, List.getElem_range]
    have := (hfc i hin).2
    simpa [List.getD, show i < b.cs.length by omega] using this
end Go.Proofs.Ytcbpakbhklbdnaa
