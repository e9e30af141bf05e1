/- What an operation does, said of plain values: what it looks at, what it writes, what it gives. The plain operations; the sequence of operations of a region in the order of the text; the code around. -/
import Derived.Test.YtcbpakbhklbdnaaAS1
import Derived.Deep.MidRow
import Derived.Laws.Append
namespace Go.Proofs.Ytcbpakbhklbdnaa
set_option linter.unusedVariables false
open Go.RowKit

def aev (τ : Nat → AV) : Operand → AV
  | .tmp t => τ t
  | .const x => .v x
  | .global g => .v (.pointer (some ⟨g, 0, none⟩))
  | .func f => .clo f []
def upd (τ : Nat → AV) (d : Nat) (v : AV) : Nat → AV := fun t => bif Nat.beq t d then v else τ t
def updO (τ : Nat → AV) (d : Option Nat) (v : AV) : Nat → AV := match d with | some d => upd τ d v | none => τ
def Heap.set (η : Heap) (id : Nat) (b : Option Blk) : Heap := fun i => bif Nat.beq i id then b else η i
def Heap.put (η : Heap) : List (Nat × Option Blk) → Heap
  | [] => η
  | p :: r => Heap.put (η.set p.1 p.2) r

theorem TR.v_inv {T : Nat → Prop} {w : World} {x y : Value} (h : TR T w (.v x) y) : y = x := by cases h; rfl
theorem VR.v_inv {C : Ctx} {x y : Value} (h : VR C (.v x) y) : y = x := by
  cases h with
  | imm h => exact h.v_inv
theorem VR.v (C : Ctx) (x : Value) : VR C (.v x) x := .imm (.v x)
theorem VR.unk (C : Ctx) (x : Value) : VR C .unk x := .imm (.unk x)

/-- What an operation does: 'fp': the blocks of the call's own that it looks at or writes; 'δ': what it writes; 'v': what it gives. -/
def LOp (P : Program) (o : Oper) (τ : Nat → AV) (η : Heap) (fp : List Nat) (δ : List (Nat × Option Blk)) (v : AV) : Prop :=
  ∀ (C : Ctx) (a : Act), Good C → (∀ x ∈ o.op.operands, VR C (aev τ x) (a.eval x)) → (∀ id ∈ fp, C.η id = η id) → (∀ p ∈ δ, p.1 ∉ fp → ¬ C.U p.1) →
    ∀ (K : Act → World → Prop) (Q : Exit → Act → World → Prop),
      (∀ x C', C'.η = C.η.put δ → (∀ id, C'.U id ↔ C.U id ∨ id ∈ δ.map (·.1)) → Good C' → Ev C C' → VR C' v x → K (a.put o.dst x) C'.w) → o.wp P a C.w K Q

/-- An operation that only looks. -/
theorem LOp.look {P : Program} {o : Oper} {τ : Nat → AV} {η : Heap} {v : AV} (fp : List Nat)
    (h : ∀ (C : Ctx) (a : Act), Good C → (∀ x ∈ o.op.operands, VR C (aev τ x) (a.eval x)) → (∀ id ∈ fp, C.η id = η id) → ∃ x, (execOp a.eval o).run P C.w = .ok (.value x) C.w ∧ VR C v x) :
    LOp P o τ η fp [] v := by
  intro C a hg hx hf _ K Q hK
  obtain ⟨x, hr, hv⟩ := h C a hg hx hf
  unfold Oper.wp
  rw [hr]
  exact hK x C rfl (fun id => by simp) hg (Ev.refl C) hv

/-- .. at plain values alone. -/
def AV.val : AV → Value
  | .v x => x
  | _ => undef
def AV.isV : AV → Bool
  | .v _ => true
  | _ => false
theorem LOp.plain {P : Program} {o : Oper} {τ : Nat → AV} {η : Heap} {y : Value} (hv : (o.op.operands.toList.all fun x => (aev τ x).isV) = true) (hs : ∀ cs b, o.op ≠ .select cs b)
    (h : ∀ w, (execOp (fun x => (aev τ x).val) o).run P w = .ok (.value y) w) : LOp P o τ η [] [] (.v y) :=
  .look [] fun C a hg hx _ => by
    refine ⟨y, ?_, VR.v C y⟩
    rw [← h C.w, execOp_congr o hs]
    intro x hm
    have h1 := List.all_eq_true.1 hv x (by simpa using hm)
    have h2 := hx x hm
    cases e : aev τ x with
    | v c => rw [e] at h2; exact h2.v_inv
    | _ => rw [e] at h1; cases h1

theorem LOp.move {P : Program} {τ : Nat → AV} {η : Heap} {d : Option Tmp} {ty : TypeId} {pos : String} {af : Array Edge} {g : Option (Nat × Bool)} (x : Operand) :
    LOp P ⟨d, .move x, ty, pos, af, g⟩ τ η [] [] (aev τ x) :=
  .look [] fun C a _ hx _ => ⟨a.eval x, rfl, hx x (by simp [Op.operands])⟩
theorem LOp.assign {P : Program} {τ : Nat → AV} {η : Heap} {d : Option Tmp} {ty : TypeId} {pos : String} {af : Array Edge} {g : Option (Nat × Bool)} (x : Operand) :
    LOp P ⟨d, .assign x, ty, pos, af, g⟩ τ η [] [] (aev τ x) :=
  .look [] fun C a _ hx _ => ⟨a.eval x, rfl, hx x (by simp [Op.operands])⟩
theorem LOp.pick {P : Program} {τ : Nat → AV} {η : Heap} {d : Option Tmp} {ty : TypeId} {pos : String} {af : Array Edge} {g : Option (Nat × Bool)} {c x y : Operand} {t : Bool} (hc : aev τ c = .v (.bool t)) :
    LOp P ⟨d, .pick c x y, ty, pos, af, g⟩ τ η [] [] (if t then aev τ x else aev τ y) :=
  .look [] fun C a _ hx _ => by
    have h1 := hx c (by simp [Op.operands])
    rw [hc] at h1
    have h2 := h1.v_inv
    refine ⟨if t then a.eval x else a.eval y, ?_, ?_⟩
    · simp only [execOp, h2, asBool, Sem.run_bind, Sem.run_pure, Result.andThen_ok]
    · cases t
      · exact hx y (by simp [Op.operands])
      · exact hx x (by simp [Op.operands])

/-! ### The code around -/

structure St where
  τ : Nat → AV
  η : Heap
  u : Nat

structure SRel (N : Nat) (C : Ctx) (s : St) (a : Act) : Prop where
  good : Good C
  η : C.η = s.η
  u : ∀ id, C.U id → id < s.u
  defers : a.defers = []
  size : a.tmps.size = N
  τ : ∀ t, VR C (s.τ t) (a.eval (.tmp t))

theorem SRel.eval {N : Nat} {C : Ctx} {s : St} {a : Act} (h : SRel N C s a) (x : Operand) : VR C (aev s.τ x) (a.eval x) := by
  cases x with
  | tmp t => exact h.τ t
  | const c => exact VR.v C c
  | global g => exact VR.v C _
  | func f => exact .imm (.clo (by simp) (fun i hi => by simp at hi))

theorem SRel.put {N : Nat} {C C' : Ctx} {s : St} {a : Act} (h : SRel N C s a) (he : Ev C C') (hg : Good C') {u' : Nat} (hu : ∀ id, C'.U id → id < u') {dst : Option Tmp} (hd : ∀ d, dst = some d → d < N) {v : AV} {x : Value} (hv : VR C' v x) :
    SRel N C' ⟨updO s.τ dst v, C'.η, u'⟩ (a.put dst x) := by
  refine ⟨hg, rfl, hu, ?_, ?_, fun t => ?_⟩
  · cases dst <;> simp [Act.put, h.defers]
  · cases dst <;> simp [Act.put, h.size]
  · cases dst with
    | none => exact (h.τ t).mono h.good he
    | some d =>
      have hdN : d < a.tmps.size := by rw [h.size]; exact hd d rfl
      by_cases e : t = d
      · subst e
        have e1 : updO s.τ (some t) v t = v := by simp [updO, upd, cond]
        have e2 : (a.put (some t) x).eval (.tmp t) = x := by simp [Act.eval, Act.put, hdN]
        rw [e2]; show VR C' (updO s.τ (some t) v t) x; rw [e1]; exact hv
      · have e1 : updO s.τ (some d) v t = s.τ t := by
          have : Nat.beq t d = false := by
            cases hb : Nat.beq t d with
            | false => rfl
            | true => exact absurd (Nat.eq_of_beq_eq_true hb) e
          simp [updO, upd, cond, this]
        have e2 : (a.put (some d) x).eval (.tmp t) = a.eval (.tmp t) := Act.eval_put (fun q hq => by cases hq; simp; exact e)
        rw [e2]; show VR C' (updO s.τ (some d) v t) _; rw [e1]; exact (h.τ t).mono h.good he

/-- Code, said of plain values. -/
def AWP (P : Program) (N : Nat) (c : Code) (Q : Exit → St → Prop) (s : St) : Prop :=
  ∀ C a, SRel N C s a → c.wp P (fun e a' w' => ∃ s' C', Q e s' ∧ C'.w = w' ∧ SRel N C' s' a' ∧ Fr C C') a C.w

/-- The operations of a region in the order of the text. -/
def AOps (P : Program) (N : Nat) (ops : Array Oper) (l : List Oper) (K : St → Prop) (s : St) : Prop :=
  ∀ C a (Q : Exit → Act → World → Prop), SRel N C s a → (∀ s' C' a', K s' → SRel N C' s' a' → Fr C C' → Q .normal a' C'.w) → wpList P ops Q l a C.w

section
variable {P : Program} {N : Nat} {Q : Exit → St → Prop} {s : St}

def want (ops : Array Oper) (τ : Nat → AV) (o : Oper) : Option Bool :=
  match o.guard with
  | none => some true
  | some (j, b) => match (ops[j]?).bind (·.dst) with
    | none => none
    | some d => match τ d with
      | .v (.bool c) => some (c == b)
      | .v (.tuple _) => some false
      | _ => none

theorem want_spec {ops : Array Oper} {C : Ctx} {a : Act} {o : Oper} {b : Bool} (h : want ops s.τ o = some b) (hr : SRel N C s a) (hd : ∀ j c, o.guard = some (j, c) → ∀ d, (ops[j]?).bind (·.dst) = some d → d < N) :
    Region.wanted o (yielded ops a.tmps) = b := by
  unfold want at h
  unfold Region.wanted
  cases hg : o.guard with
  | none => rw [hg] at h; simpa using h
  | some p =>
    obtain ⟨j, c⟩ := p
    rw [hg] at h
    simp only at h ⊢
    cases hj : (ops[j]?).bind (·.dst) with
    | none => rw [hj] at h; cases h
    | some d =>
      rw [hj] at h
      simp only at h
      have hlt := hd j c hg d hj
      rw [← hr.size] at hlt
      have h2 := hr.τ d
      cases e : s.τ d with
      | v x =>
        rw [e] at h h2
        cases x with
        | bool t =>
          have h3 := h2.v_inv
          have h4 : a.tmps[d]? = some (.bool t) := by
            simp only [Act.eval] at h3
            rw [Array.getD_eq_getD_getElem?] at h3
            rw [Array.getElem?_eq_getElem hlt] at h3 ⊢
            simpa using h3
          simp only [yielded, hj, Option.bind_some, h4]
          simp only [Option.some.injEq] at h
          rw [← h]
          cases t <;> cases c <;> rfl
        | tuple l =>
          have h3 := h2.v_inv
          have h4 : a.tmps[d]? = some (.tuple l) := by
            simp only [Act.eval] at h3
            rw [Array.getD_eq_getD_getElem?] at h3
            rw [Array.getElem?_eq_getElem hlt] at h3 ⊢
            simpa using h3
          simp only [yielded, hj, Option.bind_some, h4]
          simp only [Option.some.injEq] at h
          rw [← h]
          rfl
        | _ => simp at h
      | _ => rw [e] at h; simp at h

theorem AOps.nil {ops : Array Oper} {K : St → Prop} (h : K s) : AOps P N ops [] K s :=
  fun C a Q hr hK => hK s C a h hr (Fr.refl C)

/-- The new numbers that an operation takes are the next ones. -/
def newOk (fp : List Nat) (δ : List (Nat × Option Blk)) (u u' : Nat) : Bool := δ.all fun p => (fp.contains p.1 && Nat.ble (p.1 + 1) u) || (Nat.ble u p.1 && Nat.ble (p.1 + 1) u')
def dstOk (N : Nat) (ops : Array Oper) (o : Oper) : Bool :=
  (match o.dst with | some d => Nat.ble (d + 1) N | none => true) && (match o.guard with | none => true | some (j, _) => match (ops[j]?).bind (·.dst) with | none => true | some d => Nat.ble (d + 1) N)

theorem dstOk.dst {ops : Array Oper} {o : Oper} (h : dstOk N ops o = true) : ∀ d, o.dst = some d → d < N := by
  intro d hd
  unfold dstOk at h
  rw [hd] at h
  simp only [Bool.and_eq_true] at h
  exact Nat.le_of_ble_eq_true h.1
theorem dstOk.guard {ops : Array Oper} {o : Oper} (h : dstOk N ops o = true) : ∀ j c, o.guard = some (j, c) → ∀ d, (ops[j]?).bind (·.dst) = some d → d < N := by
  intro j c hg d hd
  unfold dstOk at h
  rw [hg] at h
  simp only [hd, Bool.and_eq_true] at h
  exact Nat.le_of_ble_eq_true h.2

theorem AOps.op {ops : Array Oper} {K : St → Prop} {o : Oper} {l : List Oper} {fp : List Nat} {δ : List (Nat × Option Blk)} {v : AV} (u' : Nat) (hL : LOp P o s.τ s.η fp δ v) (hw : want ops s.τ o = some true) (hd : dstOk N ops o = true)
    (hu : Nat.ble s.u u' = true) (hn : newOk fp δ s.u u' = true) (h : AOps P N ops l K ⟨updO s.τ o.dst v, s.η.put δ, u'⟩) : AOps P N ops (o :: l) K s := by
  intro C a Q hr hK
  unfold wpList
  rw [want_spec hw hr (dstOk.guard hd)]
  simp only [if_true]
  left
  refine hL C a hr.good (fun x _ => hr.eval x) (fun id _ => by rw [hr.η]) (fun p hp hnp hU => ?_) _ _ fun x C' hη hUU hg he hv => ?_
  · have h1 := List.all_eq_true.1 hn p hp
    simp only [Bool.or_eq_true, Bool.and_eq_true, List.contains_iff_mem] at h1
    rcases h1 with ⟨h1, _⟩ | ⟨h1, _⟩
    · exact hnp h1
    · have := Nat.le_of_ble_eq_true h1
      have := hr.u _ hU
      omega
  · have hu1 := Nat.le_of_ble_eq_true hu
    have hUlt : ∀ id, C'.U id → id < u' := by
      intro id hid
      rcases (hUU id).1 hid with h1 | h1
      · have := hr.u _ h1; omega
      · obtain ⟨p, hp, rfl⟩ := List.mem_map.1 h1
        have h2 := List.all_eq_true.1 hn p hp
        simp only [Bool.or_eq_true, Bool.and_eq_true] at h2
        rcases h2 with ⟨_, h2⟩ | ⟨_, h2⟩
        · have := Nat.le_of_ble_eq_true h2; omega
        · exact Nat.le_of_ble_eq_true h2
    have hs := hr.put he hg hUlt (dstOk.dst hd) hv
    rw [hη, hr.η] at hs
    exact h C' _ Q hs (fun s' C'' a' hk hr' he' => hK s' C'' a' hk hr' (he.toFr.trans he'))

theorem AOps.skip {ops : Array Oper} {K : St → Prop} {o : Oper} {l : List Oper} (hw : want ops s.τ o = some false) (hd : dstOk N ops o = true)
    (h : AOps P N ops l K ⟨updO s.τ o.dst (.v undef), s.η, s.u⟩) : AOps P N ops (o :: l) K s := by
  intro C a Q hr hK
  unfold wpList
  rw [want_spec hw hr (dstOk.guard hd)]
  simp only [Bool.false_eq_true, if_false]
  have hs := hr.put (Ev.refl C) hr.good hr.u (dstOk.dst hd) (VR.v C undef)
  rw [hr.η] at hs
  exact h C _ Q hs hK

theorem AWP.region {id : Nat} {l : List Oper} (h : AOps P N l.toArray l (fun s' => Q .normal s') s) : AWP P N (.region id l.toArray false) Q s := by
  intro C a hr
  exact wp_region_lit (h C a _ hr (fun s' C' a' hk hr' he' => ⟨s', C', hk, rfl, hr', he'⟩))

theorem AWP.mono {Q' : Exit → St → Prop} {c : Code} (h : AWP P N c Q s) (hq : ∀ e s', Q e s' → Q' e s') : AWP P N c Q' s :=
  fun C a hr => Code.wp_mono (fun e a' w' ⟨s', C', h1, h2⟩ => ⟨s', C', hq _ _ h1, h2⟩) (h C a hr)

theorem AWP.skip (h : Q .normal s) : AWP P N .skip Q s := fun C a hr => wp_skip ⟨s, C, h, rfl, hr, Fr.refl C⟩
theorem AWP.exit {id : Nat} (h : Q (.exit id) s) : AWP P N (.exit id) Q s := fun C a hr => wp_exit ⟨s, C, h, rfl, hr, Fr.refl C⟩
theorem AWP.ret (h : Q .ret s) : AWP P N .ret Q s := fun C a hr => wp_ret ⟨s, C, h, rfl, hr, Fr.refl C⟩

def andThen (next : St → Prop) (Q : Exit → St → Prop) : Exit → St → Prop
  | .normal, s => next s
  | e, s => Q e s
theorem AWP.seq {x y : Code} (h : AWP P N x (andThen (AWP P N y Q) Q) s) : AWP P N (.seq x y) Q s := by
  intro C a hr
  refine wp_seq (Code.wp_mono ?_ (h C a hr))
  rintro e a' w' ⟨s', C', hq, rfl, hr', he⟩
  cases e with
  | normal => exact Code.wp_mono (fun e a'' w'' ⟨s'', C'', h1, h2, h3, h4⟩ => ⟨s'', C'', h1, h2, h3, he.trans h4⟩) (hq C' a' hr')
  | _ => exact ⟨s', C', hq, rfl, hr', he⟩
theorem AWP.cond {c : Operand} {x y : Code} {t : Bool} (hc : aev s.τ c = .v (.bool t)) (ht : t = true → AWP P N x Q s) (hf : t = false → AWP P N y Q s) : AWP P N (.cond c x y) Q s := by
  intro C a hr
  have h1 := hr.eval c
  rw [hc] at h1
  exact wp_cond_split h1.v_inv (fun e => ht e C a hr) (fun e => hf e C a hr)
theorem AWP.condT {c : Operand} {x y : Code} (hc : aev s.τ c = .v (.bool true)) (h : AWP P N x Q s) : AWP P N (.cond c x y) Q s := AWP.cond hc (fun _ => h) (fun e => by cases e)
theorem AWP.condF {c : Operand} {x y : Code} (hc : aev s.τ c = .v (.bool false)) (h : AWP P N y Q s) : AWP P N (.cond c x y) Q s := AWP.cond hc (fun e => by cases e) (fun _ => h)
def inBlk (id : Nat) (Q : Exit → St → Prop) : Exit → St → Prop
  | .exit id', s => bif Nat.beq id' id then Q .normal s else Q (.exit id') s
  | e, s => Q e s
theorem AWP.block {id : Nat} {c : Code} (h : AWP P N c (inBlk id Q) s) : AWP P N (.block id c) Q s := by
  intro C a hr
  refine wp_block (Code.wp_mono ?_ (h C a hr))
  rintro e a' w' ⟨s', C', hq, h2⟩
  cases e with
  | exit id' =>
    simp only [Exit.inBlock]
    simp only [inBlk] at hq
    by_cases e : id' = id
    · subst e
      rw [Nat.beq_refl] at hq
      simp only [cond_true] at hq
      simp only [if_true]
      exact ⟨s', C', hq, h2⟩
    · have : Nat.beq id' id = false := by
        cases hb : Nat.beq id' id with
        | false => rfl
        | true => exact absurd (Nat.eq_of_beq_eq_true hb) e
      rw [this] at hq
      simp only [cond_false] at hq
      simp only [e, if_false]
      exact ⟨s', C', hq, h2⟩
  | _ => exact ⟨s', C', hq, h2⟩
/-- A loop: what holds at each head, under a number that each round lowers. -/
theorem wp_loopN {c : Code} {Q : Exit → Act → World → Prop} (I : Nat → Act → World → Prop) (round : ∀ n a w, I n a w → c.wp P (Exit.then (fun a' w' => ∃ m, m < n ∧ I m a' w') Q) a w) {n : Nat} {a : Act} {w : World} (h0 : I n a w) : (Code.loop c).wp P Q a w := by
  intro b k cs
  have key : ∀ n a w, I n a w → ∃ e a' w', Q e a' w' ∧ Arrives P (lone (b.at a (.code c :: .inLoop c :: k)) cs w) b k cs e a' w' := by
    intro n
    induction n using Nat.strongRecOn with
    | _ n ih =>
      intro a w hI
      obtain ⟨e, a₁, w₁, hq, harr⟩ := round n a w hI b (.inLoop c :: k) cs
      cases e with
      | normal =>
        obtain ⟨m, hlt, hI₁⟩ := hq
        obtain ⟨e₂, a₂, w₂, hq₂, harr₂⟩ := ih m hlt a₁ w₁ hI₁
        exact ⟨e₂, a₂, w₂, hq₂, .of_steps (Steps.trans harr (.one step_inLoop)) harr₂⟩
      | exit id => exact ⟨_, a₁, w₁, hq, .pass (x := .inLoop c) rfl (fun _ _ => .inl (by simp)) harr⟩
      | goto l => exact ⟨_, a₁, w₁, hq, .pass (x := .inLoop c) rfl (fun _ _ => .inl (by simp)) harr⟩
      | ret => exact ⟨_, a₁, w₁, hq, .pass (x := .inLoop c) rfl (fun _ _ => .inl (by simp)) harr⟩
      | panic ch => exact ⟨_, a₁, w₁, hq, .pass (x := .inLoop c) rfl (fun _ _ => .inl (by simp)) harr⟩
      | outgrown => exact ⟨_, a₁, w₁, hq, .pass (x := .inLoop c) rfl (fun _ _ => .inl (by simp)) harr⟩
  obtain ⟨e, a', w', hq, harr⟩ := key _ a w h0
  exact ⟨e, a', w', hq, .of_steps (.one step_loop) harr⟩

theorem AWP.loop {c : Code} (I : Nat → St → Prop) (hI : ∀ n s, I n s → AWP P N c (andThen (fun s' => ∃ m, m < n ∧ I m s') Q) s) {n : Nat} (h0 : I n s) : AWP P N (.loop c) Q s := by
  intro C a hr
  refine wp_loopN (fun n a w => ∃ s' C', I n s' ∧ C'.w = w ∧ SRel N C' s' a ∧ Fr C C') ?_ ⟨s, C, h0, rfl, hr, Fr.refl C⟩
  rintro n a w ⟨s', C', hi, rfl, hr', he⟩
  refine Code.wp_mono ?_ (hI n s' hi C' a hr')
  rintro e a'' w'' ⟨s'', C'', hq, rfl, hr'', he''⟩
  cases e with
  | normal =>
    obtain ⟨m, hm, hi'⟩ := hq
    exact ⟨m, hm, s'', C'', hi', rfl, hr'', he.trans he''⟩
  | _ => exact ⟨s'', C'', hq, rfl, hr'', he.trans he''⟩
end
end Go.Proofs.Ytcbpakbhklbdnaa
