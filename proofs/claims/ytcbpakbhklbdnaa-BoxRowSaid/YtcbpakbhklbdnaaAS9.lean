/- A region that draws its order: where operations that may come in either order do not touch each other, it ends as in the order of the text. -/
import Derived.Test.YtcbpakbhklbdnaaAS8
namespace Go.Proofs.Ytcbpakbhklbdnaa
set_option linter.unusedVariables false
open Go.RowKit

structure Rec where
  fp : List Nat
  δ : List (Nat × Option Blk)
  v : AV
  u : Nat

def stepR (o : Oper) (r : Rec) (s : St) : St := ⟨updO s.τ o.dst r.v, s.η.put r.δ, r.u⟩

/-- What is known of an operation at its place in the text. -/
def FactR (P : Program) (N : Nat) (ops : Array Oper) (o : Oper) (r : Rec) (s : St) : Prop :=
  dstOk N ops o = true ∧ s.u ≤ r.u ∧ ((want ops s.τ o = some true ∧ LOp P o s.τ s.η r.fp r.δ r.v ∧ newOk r.fp r.δ s.u r.u = true) ∨ (want ops s.τ o = some false ∧ r.v = .v undef ∧ r.δ = [] ∧ r.fp = []))

inductive Seq (P : Program) (N : Nat) (ops : Array Oper) : List Oper → St → List Rec → St → Prop where
  | nil {s : St} : Seq P N ops [] s [] s
  | cons {o : Oper} {l : List Oper} {s s' : St} {r : Rec} {rs : List Rec} : FactR P N ops o r s → Seq P N ops l (stepR o r s) rs s' → Seq P N ops (o :: l) s (r :: rs) s'

theorem Seq.op {P : Program} {N : Nat} {ops : Array Oper} {o : Oper} {l : List Oper} {s s' : St} {rs : List Rec} {fp : List Nat} {δ : List (Nat × Option Blk)} {v : AV} (u' : Nat) (hL : LOp P o s.τ s.η fp δ v) (hw : want ops s.τ o = some true) (hd : dstOk N ops o = true)
    (hu : Nat.ble s.u u' = true) (hn : newOk fp δ s.u u' = true) (h : Seq P N ops l ⟨updO s.τ o.dst v, s.η.put δ, u'⟩ rs s') : Seq P N ops (o :: l) s (⟨fp, δ, v, u'⟩ :: rs) s' :=
  .cons ⟨hd, Nat.le_of_ble_eq_true hu, .inl ⟨hw, hL, hn⟩⟩ h
theorem Seq.skip {P : Program} {N : Nat} {ops : Array Oper} {o : Oper} {l : List Oper} {s s' : St} {rs : List Rec} (hw : want ops s.τ o = some false) (hd : dstOk N ops o = true)
    (h : Seq P N ops l ⟨updO s.τ o.dst (.v undef), s.η, s.u⟩ rs s') : Seq P N ops (o :: l) s (⟨[], [], .v undef, s.u⟩ :: rs) s' :=
  .cons ⟨hd, Nat.le_refl _, .inr ⟨hw, rfl, rfl, rfl⟩⟩ h

/-- The state in front of the k-th operation, in the order of the text. -/
def runR : List Oper → List Rec → Nat → St → St
  | o :: l, r :: rs, k + 1, s => runR l rs k (stepR o r s)
  | _, _, _, s => s

theorem runR_zero (l : List Oper) (rs : List Rec) (s : St) : runR l rs 0 s = s := by cases l <;> cases rs <;> rfl
theorem runR_cons (o : Oper) (l : List Oper) (r : Rec) (rs : List Rec) (k : Nat) (s : St) : runR (o :: l) (r :: rs) (k + 1) s = runR l rs k (stepR o r s) := rfl
theorem runR_succ (l : List Oper) : ∀ (rs : List Rec) (k : Nat) (s : St) (o : Oper) (r : Rec), l[k]? = some o → rs[k]? = some r → runR l rs (k + 1) s = stepR o r (runR l rs k s) := by
  induction l with
  | nil => intro rs k s o r h1; simp at h1
  | cons o' l ih =>
    intro rs k s o r h1 h2
    cases rs with
    | nil => simp at h2
    | cons r' rs =>
      cases k with
      | zero =>
        simp only [List.getElem?_cons_zero, Option.some.injEq] at h1 h2
        rw [runR_cons, runR_zero, runR_zero, h1, h2]
      | succ k =>
        rw [runR_cons, runR_cons]
        exact ih rs k _ o r (by simpa using h1) (by simpa using h2)

theorem Seq.facts {P : Program} {N : Nat} {ops : Array Oper} {l : List Oper} {s s' : St} {rs : List Rec} (h : Seq P N ops l s rs s') :
    rs.length = l.length ∧ s' = runR l rs l.length s ∧ ∀ (k : Nat) (o : Oper) (r : Rec), l[k]? = some o → rs[k]? = some r → FactR P N ops o r (runR l rs k s) := by
  induction h with
  | nil => exact ⟨rfl, rfl, fun k o r h => by simp at h⟩
  | cons hf _ ih =>
    obtain ⟨h1, h2, h3⟩ := ih
    refine ⟨by simp [h1], h2, fun k o r ho hr => ?_⟩
    cases k with
    | zero =>
      simp at ho hr
      subst ho; subst hr
      rw [runR_zero]; exact hf
    | succ k => exact h3 k o r (by simpa using ho) (by simpa using hr)

/-! ### The check -/

def bindsOn (o : Oper) : List Nat := (o.after.toList.filter (Region.binds .any ·)).map (·.on)
/-- i must have come before k. -/
inductive Anc (ops : Array Oper) : Nat → Nat → Prop where
  | on {k i : Nat} {o : Oper} : ops[k]? = some o → i ∈ bindsOn o → Anc ops k i
  | up {k j i : Nat} {o : Oper} : ops[k]? = some o → j ∈ bindsOn o → Anc ops j i → Anc ops k i
/-- The same, as the bits of a number, operation by operation. -/
def maskOf (ms : List Nat) : List Nat → Nat
  | [] => 0
  | i :: r => Nat.lor (Nat.lor (2 ^ i) (ms.getD i 0)) (maskOf ms r)
def masks : List Oper → List Nat → List Nat
  | [], ms => ms
  | o :: l, ms => masks l (ms ++ [maskOf ms (bindsOn o)])

theorem maskOf_bit {ms : List Nat} : ∀ {l : List Nat} {i : Nat}, (maskOf ms l).testBit i = true → ∃ j ∈ l, i = j ∨ (ms.getD j 0).testBit i = true
  | [], i, h => by simp [maskOf] at h
  | j :: r, i, h => by
    have h' : ((2 ^ j ||| ms.getD j 0) ||| maskOf ms r).testBit i = true := h
    rw [Nat.testBit_or, Nat.testBit_or, Nat.testBit_two_pow] at h'
    simp only [Bool.or_eq_true, decide_eq_true_eq] at h'
    rcases h' with (h1 | h1) | h1
    · exact ⟨j, by simp, .inl h1.symm⟩
    · exact ⟨j, by simp, .inr h1⟩
    · obtain ⟨q, hq, h2⟩ := maskOf_bit h1
      exact ⟨q, by simp [hq], h2⟩
theorem masks_anc {ops : Array Oper} : ∀ (l : List Oper) (ms : List Nat), (∀ j (o : Oper), l[j]? = some o → ops[ms.length + j]? = some o) → (∀ k i, (ms.getD k 0).testBit i = true → Anc ops k i) → ∀ k i, ((masks l ms).getD k 0).testBit i = true → Anc ops k i
  | [], _, _, h => h
  | o :: l, ms, hl, h => by
    have ho : ops[ms.length]? = some o := by simpa using hl 0 o rfl
    refine masks_anc l (ms ++ [maskOf ms (bindsOn o)]) (fun j o' hj => ?_) (fun k i hk => ?_)
    · have := hl (j + 1) o' (by simpa using hj)
      simp only [List.length_append, List.length_cons, List.length_nil]
      rw [show ms.length + (0 + 1) + j = ms.length + (j + 1) by omega]; exact this
    · by_cases e : k < ms.length
      · have : (ms ++ [maskOf ms (bindsOn o)]).getD k 0 = ms.getD k 0 := by simp [List.getD, List.getElem?_append_left e]
        rw [this] at hk
        exact h k i hk
      · by_cases e2 : k = ms.length
        · subst e2
          have : (ms ++ [maskOf ms (bindsOn o)]).getD ms.length 0 = maskOf ms (bindsOn o) := by simp [List.getD]
          rw [this] at hk
          obtain ⟨j, hj, rfl | h2⟩ := maskOf_bit hk
          · exact .on ho hj
          · exact .up ho hj (h j i h2)
        · have : (ms ++ [maskOf ms (bindsOn o)]).getD k 0 = 0 := by
            simp [List.getD, List.getElem?_eq_none (show (ms ++ [maskOf ms (bindsOn o)]).length ≤ k by simp; omega)]
          rw [this] at hk
          simp at hk
def apartL (a b : List Nat) : Bool := a.all fun x => !b.contains x
def apartB (ops : Array Oper) (oi ok : Oper) (ri rk : Rec) : Bool :=
  Oper.apart ops oi ok && apartL (ri.δ.map (·.1)) rk.fp && apartL (rk.δ.map (·.1)) ri.fp && apartL (ri.δ.map (·.1)) (rk.δ.map (·.1))
def checkR (ops : Array Oper) (rs : List Rec) : Bool :=
  (List.range ops.size).all fun k => match ops[k]?, rs[k]? with
    | some ok, some rk => (bindsOn ok).all (fun i => Nat.ble (i + 1) k) && (match ok.op with | .select _ _ => false | _ => true) &&
        (List.range k).all fun i => ((masks ops.toList []).getD k 0).testBit i || (match ops[i]?, rs[i]? with | some oi, some ri => apartB ops oi ok ri rk | _, _ => false)
    | _, _ => false

/-! ### Values by the last writer -/

section
variable (ops : List Oper) (rs : List Rec)

def dstK (k : Nat) : Option Tmp := (ops[k]?).bind (·.dst)
def vK (k : Nat) : AV := ((rs[k]?).map (·.v)).getD .unk
def δK (k : Nat) : List (Nat × Option Blk) := ((rs[k]?).map (·.δ)).getD []
/-- The last that a list of writes says of a block. -/
def lastΔ : List (Nat × Option Blk) → Nat → Option (Option Blk)
  | [], _ => none
  | p :: r, id => match lastΔ r id with
    | some b => some b
    | none => if p.1 = id then some p.2 else none

theorem put_eq : ∀ (δ : List (Nat × Option Blk)) (η : Heap) (id : Nat), η.put δ id = (match lastΔ δ id with | some b => b | none => η id)
  | [], _, _ => rfl
  | p :: r, η, id => by
    rw [Heap.put, put_eq r]
    simp only [lastΔ]
    cases h : lastΔ r id with
    | some b => rfl
    | none =>
      simp only
      by_cases e : p.1 = id
      · subst e; simp [Heap.set_same]
      · rw [Heap.set_other _ _ (fun h => e h.symm)]; simp [e]
theorem lastΔ_mem : ∀ (δ : List (Nat × Option Blk)) (id : Nat), (lastΔ δ id).isSome = true ↔ id ∈ δ.map (·.1)
  | [], id => by simp [lastΔ]
  | p :: r, id => by
    simp only [lastΔ, List.map_cons, List.mem_cons]
    have ih := lastΔ_mem r id
    cases h : lastΔ r id with
    | some b => rw [h] at ih; simp only [Option.isSome_some, true_iff] at ih ⊢; exact .inr ih
    | none =>
      rw [h] at ih
      simp only [Option.isSome_none, Bool.false_eq_true, false_iff] at ih
      by_cases e : p.1 = id
      · simp [e]
      · have e' : ¬ id = p.1 := fun h => e h.symm
        simp only [e, if_false, Option.isSome_none, Bool.false_eq_true, e', false_or, false_iff]
        exact ih

def tval (s0 : St) (S : Nat → Bool) : Nat → Nat → AV
  | 0, t => s0.τ t
  | m + 1, t => if S m = true ∧ dstK ops m = some t then vK rs m else tval s0 S m t
def hval (s0 : St) (S : Nat → Bool) : Nat → Heap
  | 0, id => s0.η id
  | m + 1, id => match (if S m then lastΔ (δK rs m) id else none) with
    | some b => b
    | none => hval s0 S m id

variable {ops rs}
theorem tval_text {s0 : St} : ∀ (k : Nat), k ≤ ops.length → rs.length = ops.length → (runR ops rs k s0).τ = tval ops rs s0 (fun _ => true) k ∧ (runR ops rs k s0).η = hval rs s0 (fun _ => true) k
  | 0, _, _ => by rw [runR_zero]; exact ⟨rfl, rfl⟩
  | k + 1, hk, hl => by
    obtain ⟨h1, h2⟩ := tval_text (s0 := s0) k (by omega) hl
    have ho : ops[k]? = some (ops[k]'(by omega)) := List.getElem?_eq_getElem (by omega)
    have hr : rs[k]? = some (rs[k]'(by omega)) := List.getElem?_eq_getElem (by omega)
    rw [runR_succ ops rs k s0 _ _ ho hr]
    constructor
    · funext t
      have hd : dstK ops k = (ops[k]'(by omega)).dst := by simp [dstK, ho]
      have hv : vK rs k = (rs[k]'(by omega)).v := by simp [vK, hr]
      simp only [stepR, tval, hd, hv, true_and]
      rw [h1]
      cases hdd : (ops[k]'(by omega)).dst with
      | none => simp [updO]
      | some d =>
        simp only [updO, upd, Option.some.injEq]
        by_cases e : d = t
        · subst e; simp
        · have : Nat.beq t d = false := by
            cases hb : Nat.beq t d with
            | false => rfl
            | true => exact absurd (Nat.eq_of_beq_eq_true hb).symm e
          simp [this, e]
    · funext id
      have hd : δK rs k = (rs[k]'(by omega)).δ := by simp [δK, hr]
      simp only [stepR, hval, hd, if_true]
      rw [put_eq, h2]
theorem tval_above {s0 : St} {S : Nat → Bool} {t k : Nat} : ∀ m, (∀ j, k ≤ j → j < k + m → ¬ (S j = true ∧ dstK ops j = some t)) → tval ops rs s0 S (k + m) t = tval ops rs s0 S k t
  | 0, _ => rfl
  | m + 1, h => by
    show (if S (k + m) = true ∧ dstK ops (k + m) = some t then vK rs (k + m) else tval ops rs s0 S (k + m) t) = _
    rw [if_neg (h (k + m) (by omega) (by omega)), tval_above m (fun j h1 h2 => h j h1 (by omega))]
theorem tval_same {s0 : St} {S S' : Nat → Bool} {t : Nat} : ∀ k, (∀ j, j < k → dstK ops j = some t → S j = S' j) → tval ops rs s0 S k t = tval ops rs s0 S' k t
  | 0, _ => rfl
  | k + 1, h => by
    simp only [tval]
    rw [tval_same k (fun j hj => h j (by omega))]
    by_cases e : dstK ops k = some t
    · rw [h k (by omega) e]
    · simp [e]
theorem hval_above {s0 : St} {S : Nat → Bool} {id k : Nat} : ∀ m, (∀ j, k ≤ j → j < k + m → ¬ (S j = true ∧ id ∈ (δK rs j).map (·.1))) → hval rs s0 S (k + m) id = hval rs s0 S k id
  | 0, _ => rfl
  | m + 1, h => by
    have h1 := h (k + m) (by omega) (by omega)
    show (match (if S (k + m) then lastΔ (δK rs (k + m)) id else none) with | some b => b | none => hval rs s0 S (k + m) id) = _
    have : (if S (k + m) then lastΔ (δK rs (k + m)) id else none) = none := by
      cases hS : S (k + m) with
      | false => rfl
      | true =>
        simp only [if_true]
        cases hl : lastΔ (δK rs (k + m)) id with
        | none => rfl
        | some b => exact absurd ⟨hS, (lastΔ_mem _ _).1 (by rw [hl]; rfl)⟩ h1
    rw [this]
    exact hval_above m (fun j h1 h2 => h j h1 (by omega))
theorem hval_same {s0 : St} {S S' : Nat → Bool} {id : Nat} : ∀ k, (∀ j, j < k → id ∈ (δK rs j).map (·.1) → S j = S' j) → hval rs s0 S k id = hval rs s0 S' k id
  | 0, _ => rfl
  | k + 1, h => by
    simp only [hval]
    rw [hval_same k (fun j hj => h j (by omega))]
    by_cases e : id ∈ (δK rs k).map (·.1)
    · rw [h k (by omega) e]
    · have : lastΔ (δK rs k) id = none := by
        cases hl : lastΔ (δK rs k) id with
        | none => rfl
        | some b => exact absurd ((lastΔ_mem _ _).1 (by rw [hl]; rfl)) e
      simp [this]
end

def seenS (f : Nat → Bool) (i : Nat) : Nat → Bool := fun k => if k = i then true else f k
theorem countP_ltS {α : Type} {p q : α → Bool} : ∀ {l : List α} {x : α}, x ∈ l → p x = true → q x = false → (∀ y ∈ l, q y = true → p y = true) → l.countP q < l.countP p
  | y :: l, x, hx, hp, hq, h => by
    rcases List.mem_cons.1 hx with rfl | hx'
    · rw [List.countP_cons_of_pos hp, List.countP_cons_of_neg (by simp [hq])]
      have := List.countP_mono_left (l := l) (fun z hz hqz => h z (by simp [hz]) hqz)
      omega
    · have ih := countP_ltS hx' hp hq (fun z hz => h z (by simp [hz]))
      have hy := h y (by simp)
      cases hqy : q y <;> cases hpy : p y <;> simp_all <;> omega

/-- The operations that have run are closed under what must come before. -/
def ClosedS (ops : Array Oper) (S : Nat → Bool) : Prop := ∀ (k : Nat) (o : Oper), ops[k]? = some o → S k = true → ∀ i ∈ bindsOn o, S i = true
theorem ClosedS.anc {ops : Array Oper} {S : Nat → Bool} (h : ClosedS ops S) {k i : Nat} (ha : Anc ops k i) : (∀ o, ops[k]? = some o → ∀ i ∈ bindsOn o, S i = true) → S i = true := by
  induction ha with
  | on ho hi => exact fun hk => hk _ ho _ hi
  | up ho hj _ ih => exact fun hk => ih (fun o' ho' => h _ o' ho' (hk _ ho _ hj))

theorem apartL_spec {a b : List Nat} (h : apartL a b = true) {x : Nat} (ha : x ∈ a) : x ∉ b := by
  have := List.all_eq_true.1 h x ha
  simpa using this
end Go.Proofs.Ytcbpakbhklbdnaa
