/- A region that draws its order, walked by its states: where each operation, in every state in which it may come, gives the value that is told of it (or the store that is told of it), the region ends in the state that the whole text leaves, whatever the order. -/
import Derived.WalkKit
import Derived.Orders
namespace Go.Proofs.Ytcbpakbhklbdnaa
open Go.RowKit
set_option linter.unusedVariables false

/-- The closed facts on a region: no guard, one slot an operation, each slot in the frame, each order goes back in the text. -/
def regOk (ops : Array Oper) (n : Nat) : Bool :=
  (List.range ops.size).all fun k => match ops[k]? with
    | none => true
    | some o => o.guard.isNone && (match o.dst with
        | none => true
        | some d => decide (d < n) && (List.range ops.size).all fun j => match ops[j]? with
            | none => true
            | some o' => !(o'.dst == some d) || j == k) && o.after.all fun e => !Region.binds .any e || decide (e.on < k)

def dstAt (ops : Array Oper) (k : Nat) : Option Tmp := (ops[k]?).bind Oper.dst

/-- f with i. -/
def seen (f : Nat → Bool) (i : Nat) : Nat → Bool := fun k => if k = i then true else f k

/-- The state in which just the operations of f have run. -/
structure StateAt (ops : Array Oper) (T0 : Array Value) (V : Nat → Value) (f : Nat → Bool) (a : Act) : Prop where
  closed : ∀ (k : Nat) (o : Oper), ops[k]? = some o → f k = true → ∀ e ∈ o.after, Region.binds .any e = true → f e.on = true
  size : a.tmps.size = T0.size
  has : ∀ (k : Nat) (o : Oper) (d : Tmp), ops[k]? = some o → f k = true → o.dst = some d → a.tmps[d]? = some (V k)
  old : ∀ s : Tmp, (∀ (k : Nat) (o : Oper), ops[k]? = some o → o.dst ≠ some s) → a.tmps[s]? = T0[s]?
  yet : ∀ (k : Nat) (o : Oper) (d : Tmp), ops[k]? = some o → f k = false → o.dst = some d → a.tmps[d]? = T0[d]?

section
variable {P : Program} {ops : Array Oper} {T0 : Array Value} {V : Nat → Value}

theorem regOk_at {n : Nat} (h : regOk ops n = true) {k : Nat} {o : Oper} (ho : ops[k]? = some o) :
    o.guard = none ∧ (∀ d, o.dst = some d → d < n ∧ ∀ (j : Nat) (o' : Oper), ops[j]? = some o' → o'.dst = some d → j = k) ∧ ∀ e ∈ o.after, Region.binds .any e = true → e.on < k := by
  have hk : k < ops.size := (Array.getElem?_eq_some_iff.1 ho).1
  have := List.all_eq_true.1 h k (List.mem_range.2 hk)
  simp only [ho, Bool.and_eq_true] at this
  obtain ⟨⟨h1, h2⟩, h3⟩ := this
  refine ⟨by simpa using h1, fun d hd => ?_, fun e he hb => ?_⟩
  · rw [hd] at h2
    simp only [Bool.and_eq_true, decide_eq_true_eq] at h2
    refine ⟨h2.1, fun j o' hj hd' => ?_⟩
    have hjl : j < ops.size := (Array.getElem?_eq_some_iff.1 hj).1
    have := List.all_eq_true.1 h2.2 j (List.mem_range.2 hjl)
    simp only [hj, hd', Bool.or_eq_true, Bool.not_eq_true', beq_eq_false_iff_ne, ne_eq, not_true_eq_false, false_or, beq_iff_eq] at this
    exact this
  · have := Array.all_eq_true_iff_forall_mem.1 h3 e he
    simpa [hb] using this

/-- The frame behind the whole region. -/
def endTmps (ops : Array Oper) (T0 : Array Value) (V : Nat → Value) : Array Value :=
  (List.range ops.size).foldl (fun t k => match dstAt ops k with | some d => t.setIfInBounds d (V k) | none => t) T0

theorem endTmps_aux : ∀ (l : List Nat) (t : Array Value), (l.foldl (fun t k => match dstAt ops k with | some d => t.setIfInBounds d (V k) | none => t) t).size = t.size ∧
    (∀ s, (∀ k ∈ l, dstAt ops k ≠ some s) → (l.foldl (fun t k => match dstAt ops k with | some d => t.setIfInBounds d (V k) | none => t) t)[s]? = t[s]?)
  | [], t => ⟨rfl, fun _ _ => rfl⟩
  | k :: l, t => by
    obtain ⟨h1, h2⟩ := endTmps_aux l (match dstAt ops k with | some d => t.setIfInBounds d (V k) | none => t)
    refine ⟨?_, fun s hs => ?_⟩
    · rw [List.foldl_cons, h1]; split <;> simp
    · rw [List.foldl_cons, h2 s (fun q hq => hs q (by simp [hq]))]
      have := hs k (by simp)
      split
      · rename_i d hd
        rw [hd] at this
        rw [Array.getElem?_setIfInBounds, if_neg (fun e => this (by rw [e]))]
      · rfl

theorem endTmps_has (hinj : ∀ i j d, dstAt ops i = some d → dstAt ops j = some d → i = j) {k d : Nat} (hk : dstAt ops k = some d) : ∀ (l : List Nat) (t : Array Value), d < t.size → k ∈ l →
    (l.foldl (fun t k => match dstAt ops k with | some d => t.setIfInBounds d (V k) | none => t) t)[d]? = some (V k)
  | q :: l, t, ht, hm => by
    rw [List.foldl_cons]
    by_cases hq : k ∈ l
    · refine endTmps_has hinj hk l _ ?_ hq
      split <;> simpa using ht
    · have hkq : k = q := by
        rcases List.mem_cons.1 hm with h | h
        · exact h
        · exact absurd h hq
      subst hkq
      rw [(endTmps_aux l _).2 d (fun j hj e => hq (by rw [hinj k j d hk e]; exact hj))]
      rw [hk]
      simp [ht]

theorem countP_lt {α : Type} {p q : α → Bool} : ∀ {l : List α} {x : α}, x ∈ l → p x = true → q x = false → (∀ y ∈ l, q y = true → p y = true) → l.countP q < l.countP p
  | y :: l, x, hx, hp, hq, h => by
    rcases List.mem_cons.1 hx with rfl | hx'
    · rw [List.countP_cons_of_pos hp, List.countP_cons_of_neg (by simp [hq])]
      have := List.countP_mono_left (l := l) (fun z hz hqz => h z (by simp [hz]) hqz)
      omega
    · have ih := countP_lt hx' hp hq (fun z hz => h z (by simp [hz]))
      have hy := h y (by simp)
      cases hqy : q y <;> cases hpy : p y <;> simp_all <;> omega

theorem region_states {id : Nat} {Q : Exit → Act → World → Prop} {D0 : List Deferred} {w : World} (W : (Nat → Bool) → World) (V : Nat → Value)
    (hm : P.follows .mixedOrders = true) (hok : regOk ops T0.size = true) (hw0 : w.drew = W (fun _ => false))
    (hop : ∀ (i : Nat) (o : Oper), ops[i]? = some o → ∀ (f : Nat → Bool) (a : Act), StateAt ops T0 V f a → a.defers = D0 → f i = false → (∀ e ∈ o.after, Region.binds .any e = true → f e.on = true) →
      (∃ d, o.dst = some d ∧ (execOp a.eval o).run P (W f) = .ok (.value (V i)) (W f) ∧ W (seen f i) = W f) ∨ (o.dst = none ∧ (execOp a.eval o).run P (W f) = .ok .skip (W (seen f i))))
    (hQ : Q .normal ⟨endTmps ops T0 V, D0⟩ (W (fun k => decide (k < ops.size)))) : (Code.region id ops true).wp P Q ⟨T0, D0⟩ w := by
  have hstart : StateAt ops T0 V (fun _ => false) ⟨T0, D0⟩ := ⟨fun _ _ _ h => by simp at h, rfl, fun _ _ _ _ h => by simp at h, fun _ _ => rfl, fun _ _ _ _ _ _ => rfl⟩
  have hinj : ∀ i j d, dstAt ops i = some d → dstAt ops j = some d → i = j := by
    intro i j d hi hj
    unfold dstAt at hi hj
    obtain ⟨oi, hi1, hi2⟩ := Option.bind_eq_some_iff.1 hi
    obtain ⟨oj, hj1, hj2⟩ := Option.bind_eq_some_iff.1 hj
    exact ((regOk_at hok hj1).2.1 d hj2).2 i oi hi1 hi2
  -- every state leads on
  have key : ∀ (fuel : Nat) (l : Array Bool) (a : Act), l.size = ops.size → (List.range ops.size).countP (fun k => !l.getD k false) ≤ fuel → StateAt ops T0 V (fun k => l.getD k false) a → a.defers = D0 →
      wpAny P .any ops Q fuel l a (W fun k => l.getD k false) := by
    have hend : ∀ (l : Array Bool) (a : Act), l.size = ops.size → StateAt ops T0 V (fun k => l.getD k false) a → a.defers = D0 → Region.ready .any ops l = [] → Q .normal a (W fun k => l.getD k false) := by
      intro l a hl hst hdf hr
      have hall : ∀ k, k < ops.size → l.getD k false = true := by
        intro k
        induction k using Nat.strongRecOn with
        | ind k ih =>
          intro hk
          cases hc : l.getD k false with
          | true => rfl
          | false =>
            exfalso
            have : k ∈ Region.ready .any ops l := by
              rw [mem_ready]
              have hkl : k < l.size := by omega
              refine ⟨by simpa [Array.getD, hkl] using hc, ops[k], by simp [hk], fun e he hb => ?_⟩
              have := (regOk_at hok (show ops[k]? = some ops[k] by simp [hk])).2.2 e he hb
              exact ih e.on this (by omega)
            rw [hr] at this
            simp at this
      have hf : (fun k => l.getD k false) = fun k => decide (k < ops.size) := by
        funext k
        by_cases hk : k < ops.size
        · rw [hall k hk]; simp [hk]
        · have : ¬ k < l.size := by omega
          simp [Array.getD, this, hk]
      have ha : a = ⟨endTmps ops T0 V, D0⟩ := by
        obtain ⟨tm, df⟩ := a
        simp only at hdf
        subst hdf
        congr 1
        apply Array.ext_getElem?
        intro s
        by_cases hs : ∃ k, dstAt ops k = some s
        · obtain ⟨k, hk⟩ := hs
          obtain ⟨o, hk1, hk2⟩ := Option.bind_eq_some_iff.1 hk
          have hkl : k < ops.size := (Array.getElem?_eq_some_iff.1 hk1).1
          rw [show tm[s]? = some (V k) from hst.has k o s hk1 (hall k hkl) hk2]
          exact (endTmps_has hinj hk _ _ ((regOk_at hok hk1).2.1 s hk2).1 (List.mem_range.2 hkl)).symm
        · rw [show tm[s]? = T0[s]? from hst.old s (fun k o hk e => hs ⟨k, by simp [dstAt, hk, e]⟩)]
          exact ((endTmps_aux _ T0).2 s (fun k _ e => hs ⟨k, e⟩)).symm
      rw [ha, hf]
      exact hQ
    intro fuel
    induction fuel with
    | zero =>
      intro l a hl hc hst hdf
      have hr : Region.ready .any ops l = [] := by
        rw [List.eq_nil_iff_forall_not_mem]
        intro k hk
        rw [mem_ready] at hk
        obtain ⟨h1, o, ho, _⟩ := hk
        have hkl : k < ops.size := (Array.getElem?_eq_some_iff.1 ho).1
        have := List.countP_eq_zero.1 (Nat.le_zero.1 hc) k (List.mem_range.2 hkl)
        have hkl' : k < l.size := by omega
        simp [Array.getD, hkl'] at this h1
        rw [this] at h1; cases h1
      exact ⟨hr, hend l a hl hst hdf hr⟩
    | succ fuel ih =>
      intro l a hl hc hst hdf
      refine ⟨hend l a hl hst hdf, fun i hi => ?_⟩
      rw [mem_ready] at hi
      obtain ⟨h1, o, ho, hdeps⟩ := hi
      have hil : i < ops.size := (Array.getElem?_eq_some_iff.1 ho).1
      have hill : i < l.size := by omega
      have hfi : l.getD i false = false := by simpa [Array.getD, hill] using h1
      have hset : (fun k => (l.setIfInBounds i true).getD k false) = seen (fun k => l.getD k false) i := by
        funext k
        unfold seen
        by_cases e : k = i
        · subst e; simp [Array.getD, hill]
        · rw [if_neg e]; exact getD_set_ne false (fun h => e h.symm)
      have hcount : (List.range ops.size).countP (fun k => !(l.setIfInBounds i true).getD k false) ≤ fuel := by
        have hlt : (List.range ops.size).countP (fun k => !(l.setIfInBounds i true).getD k false) < (List.range ops.size).countP (fun k => !l.getD k false) := by
          have e1 : ∀ k, (l.setIfInBounds i true).getD k false = seen (fun k => l.getD k false) i k := fun k => congrFun hset k
          simp only [e1]
          refine countP_lt (List.mem_range.2 hil) (by simp [hfi]) (by simp [seen]) (fun k hk => ?_)
          simp only [seen]
          split <;> simp
        omega
      obtain ⟨hg, hdst, _⟩ := regOk_at hok ho
      have hw : Region.wanted o (yielded ops a.tmps) = true := by simp [Region.wanted, hg]
      unfold wpOp
      simp only [ho, hw, if_true]
      left
      unfold Oper.wp
      have hnext : ∀ v, (∀ d, o.dst = some d → v = V i) → StateAt ops T0 V (seen (fun k => l.getD k false) i) (a.put o.dst v) := by
        intro v hv
        have hput : ∀ s, (∀ d, o.dst = some d → d ≠ s) → (a.put o.dst v).tmps[s]? = a.tmps[s]? := by
          intro s hs
          cases hd : o.dst with
          | none => rfl
          | some d =>
            show (a.tmps.setIfInBounds d v)[s]? = _
            rw [Array.getElem?_setIfInBounds, if_neg (hs d hd)]
        refine ⟨?_, ?_, ?_, ?_, ?_⟩
        · intro k ok hk hs e he hb
          unfold seen at hs ⊢
          by_cases e1 : k = i
          · subst e1
            obtain rfl := Option.some.inj (ho.symm.trans hk)
            split
            · rfl
            · exact hdeps e he hb
          · rw [if_neg e1] at hs
            split
            · rfl
            · exact hst.closed k ok hk hs e he hb
        · cases hd : o.dst with
          | none => exact hst.size
          | some d =>
            show (a.tmps.setIfInBounds d v).size = _
            rw [Array.size_setIfInBounds]; exact hst.size
        · intro k ok d hk hs hd
          unfold seen at hs
          by_cases e1 : k = i
          · subst e1
            obtain rfl := Option.some.inj (ho.symm.trans hk)
            have hdl := (hdst d hd).1
            rw [hd, ← hv d hd]
            show (a.tmps.setIfInBounds d v)[d]? = _
            rw [Array.getElem?_setIfInBounds, if_pos rfl, if_pos (by rw [hst.size]; exact hdl)]
          · rw [if_neg e1] at hs
            rw [hput d (fun d' hd' e2 => by subst e2; exact e1 ((hdst d' hd').2 k ok hk hd))]
            exact hst.has k ok d hk hs hd
        · intro s hs
          rw [hput s (fun d hd e2 => by subst e2; exact hs i o ho hd)]
          exact hst.old s hs
        · intro k ok d hk hs hd
          unfold seen at hs
          by_cases e1 : k = i
          · rw [if_pos e1] at hs; cases hs
          · rw [if_neg e1] at hs
            rw [hput d (fun d' hd' e2 => by subst e2; exact e1 ((hdst d' hd').2 k ok hk hd))]
            exact hst.yet k ok d hk hs hd
      have hdp : ∀ v, (a.put o.dst v).defers = D0 := by
        intro v
        cases hd : o.dst <;> exact hdf
      rcases hop i o ho _ a hst hdf hfi hdeps with ⟨d, hd, hrun, hWs⟩ | ⟨hd, hrun⟩
      · rw [hrun, Oper.upon_value]
        rw [← hWs, ← hset]
        refine ih _ _ (by simpa using hl) hcount ?_ (hdp _)
        rw [hset]; exact hnext _ (fun _ _ => rfl)
      · rw [hrun, Oper.upon_skip]
        rw [← hset]
        refine ih _ _ (by simpa using hl) hcount ?_ (hdp _)
        rw [hset]; exact hnext _ (fun d' hd' => by rw [hd] at hd'; cases hd')
  refine wp_region_any hm ?_
  have e0 : (fun k => (Array.replicate ops.size false).getD k false) = fun _ => false := by
    funext k; simp [Array.getD]
  have := key ops.size (Array.replicate ops.size false) ⟨T0, D0⟩ (by simp) (by
    have := List.countP_le_length (p := fun k => !(Array.replicate ops.size false).getD k false) (l := List.range ops.size)
    simpa using this) (by rw [e0]; exact hstart) rfl
  rw [e0, ← hw0] at this
  exact this

theorem old_slot {s : Tmp} (h : (ops.all fun o => !(o.dst == some s)) = true) : ∀ (k : Nat) (o : Oper), ops[k]? = some o → o.dst ≠ some s := by
  intro k o ho e
  have := Array.all_eq_true_iff_forall_mem.1 h o (Array.mem_of_getElem? ho)
  simp [e] at this

/-- What has run needs what it binds on. -/
theorem StateAt.needs {f : Nat → Bool} {a : Act} (h : StateAt ops T0 V f a) (k j : Nat) (hb : ((ops[k]?).map fun o => o.after.any fun e => Region.binds .any e && e.on == j) = some true) : f k = true → f j = true := by
  intro hk
  obtain ⟨o, ho, hh⟩ := Option.map_eq_some_iff.1 hb
  obtain ⟨q, hq, h2⟩ := Array.any_eq_true.1 hh
  have he := Array.getElem_mem hq
  generalize o.after[q] = e at *
  simp only [Bool.and_eq_true, beq_iff_eq] at h2
  rw [← h2.2]
  exact h.closed k o ho hk e he h2.1
theorem not_yet {b c : Bool} (h : c = true → b = true) (hb : b = false) : c = false := by
  cases c
  · rfl
  · rw [h rfl] at hb; cases hb
end
end Go.Proofs.Ytcbpakbhklbdnaa
