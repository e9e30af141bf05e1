/- A region that draws its order: the theorem. -/
import Derived.Test.YtcbpakbhklbdnaaAS9
namespace Go.Proofs.Ytcbpakbhklbdnaa
set_option linter.unusedVariables false
open Go.RowKit

section
variable {P : Program} {N : Nat} {l : List Oper} {rs : List Rec} {s s' : St}

structure Pair (i j : Nat) (oi oj : Oper) (ri rj : Rec) (ops : Array Oper) : Prop where
  d1 : ∀ d, oi.dst = some d → d ∉ oj.looksAt ops
  d2 : ∀ d, oi.dst = some d → oj.dst ≠ some d
  d3 : ∀ d, oj.dst = some d → d ∉ oi.looksAt ops
  h1 : ∀ x ∈ ri.δ.map (·.1), x ∉ rj.fp
  h2 : ∀ x ∈ rj.δ.map (·.1), x ∉ ri.fp
  h3 : ∀ x ∈ ri.δ.map (·.1), x ∉ rj.δ.map (·.1)

theorem Pair.of {i j : Nat} {oi oj : Oper} {ri rj : Rec} {ops : Array Oper} (h : apartB ops oi oj ri rj = true) : Pair i j oi oj ri rj ops := by
  unfold apartB at h
  simp only [Bool.and_eq_true] at h
  obtain ⟨⟨⟨h1, h2⟩, h3⟩, h4⟩ := h
  obtain ⟨a, b, c⟩ := Oper.apart_spec h1
  exact ⟨a, b, c, fun x hx => apartL_spec h2 hx, fun x hx => apartL_spec h3 hx, fun x hx => apartL_spec h4 hx⟩
theorem Pair.symm {i j : Nat} {oi oj : Oper} {ri rj : Rec} {ops : Array Oper} (h : Pair i j oi oj ri rj ops) : Pair j i oj oi rj ri ops :=
  ⟨h.d3, fun d hd he => h.d2 d he hd, h.d1, h.h2, h.h1, fun x hx hy => h.h3 x hy hx⟩

theorem check_pair (hc : checkR l.toArray rs = true) {i k : Nat} (hik : i < k) (hk : k < l.length) {oi ok : Oper} {ri rk : Rec} (hi' : l[i]? = some oi) (hk' : l[k]? = some ok) (hri : rs[i]? = some ri) (hrk : rs[k]? = some rk) :
    Anc l.toArray k i ∨ Pair i k oi ok ri rk l.toArray := by
  have h1 := List.all_eq_true.1 hc k (List.mem_range.2 (by simpa using hk))
  simp only [List.getElem?_toArray, hk', hrk, Bool.and_eq_true] at h1
  have h2 := List.all_eq_true.1 h1.2 i (List.mem_range.2 hik)
  simp only [hi', hri, Bool.or_eq_true] at h2
  rcases h2 with h2 | h2
  · left; exact masks_anc _ _ (fun j o h => by simpa using h) (fun k i h => by simp at h) k i h2
  · right; exact .of h2
theorem check_op (hc : checkR l.toArray rs = true) {k : Nat} (hk : k < l.length) {ok : Oper} {rk : Rec} (hk' : l[k]? = some ok) (hrk : rs[k]? = some rk) : (∀ i ∈ bindsOn ok, i < k) ∧ ∀ cs b, ok.op ≠ .select cs b := by
  have h1 := List.all_eq_true.1 hc k (List.mem_range.2 (by simpa using hk))
  simp only [List.getElem?_toArray, hk', hrk, Bool.and_eq_true] at h1
  refine ⟨fun i hi => Nat.le_of_ble_eq_true (List.all_eq_true.1 h1.1.1 i hi), fun cs b e => ?_⟩
  rw [e] at h1
  simp at h1

/-- Where an operation stands to one that is ready. -/
theorem stands (hc : checkR l.toArray rs = true) (hlen : rs.length = l.length) {S : Nat → Bool} (hS : ClosedS l.toArray S) {i : Nat} (hi : i < l.length) {oi : Oper} {ri : Rec} (hoi : l[i]? = some oi) (hri : rs[i]? = some ri) (hSi : S i = false) (hready : ∀ j ∈ bindsOn oi, S j = true)
    {j : Nat} (hj : j < l.length) (hne : j ≠ i) {oj : Oper} {rj : Rec} (hoj : l[j]? = some oj) (hrj : rs[j]? = some rj) : (j < i ∧ S j = true) ∨ (i < j ∧ S j = false) ∨ Pair i j oi oj ri rj l.toArray := by
  rcases Nat.lt_or_gt_of_ne hne with hlt | hgt
  · rcases check_pair hc hlt hi hoj hoi hrj hri with h | h
    · left
      refine ⟨hlt, hS.anc h (fun o ho k hk => ?_)⟩
      simp only [List.getElem?_toArray] at ho
      rw [hoi] at ho
      cases ho
      exact hready k hk
    · exact .inr (.inr h.symm)
  · rcases check_pair hc hgt hj hoi hoj hri hrj with h | h
    · right; left
      refine ⟨hgt, ?_⟩
      cases hSj : S j with
      | false => rfl
      | true =>
        have := hS.anc h (fun o ho k hk => hS j o ho hSj k hk)
        rw [hSi] at this; cases this
    · exact .inr (.inr h)

/-- The state in which just the operations of S have run. -/
structure InS (P : Program) (N : Nat) (l : List Oper) (rs : List Rec) (s : St) (M : Nat) (C1 : Ctx) (S : Nat → Bool) (C : Ctx) (a : Act) : Prop where
  rel : SRel N C ⟨tval l rs s S l.length, hval rs s S l.length, M⟩ a
  closed : ClosedS l.toArray S
  used : ∀ id, C.U id → id < s.u ∨ ∃ k, k < l.length ∧ S k = true ∧ id ∈ (δK rs k).map (·.1)
  fr : Fr C1 C

variable {ri : Rec} {oi : Oper} {i : Nat} {S : Nat → Bool}

theorem dstK_of {k : Nat} {o : Oper} (h : l[k]? = some o) : dstK l k = o.dst := by simp [dstK, h]
theorem vK_of {k : Nat} {r : Rec} (h : rs[k]? = some r) : vK rs k = r.v := by simp [vK, h]
theorem δK_of {k : Nat} {r : Rec} (h : rs[k]? = some r) : δK rs k = r.δ := by simp [δK, h]

theorem at_looks (hc : checkR l.toArray rs = true) (hlen : rs.length = l.length) (hS : ClosedS l.toArray S) (hi : i < l.length) (hoi : l[i]? = some oi) (hri : rs[i]? = some ri) (hSi : S i = false) (hready : ∀ j ∈ bindsOn oi, S j = true)
    {t : Nat} (ht : t ∈ oi.looksAt l.toArray) : tval l rs s S l.length t = (runR l rs i s).τ t := by
  have hst := fun j (hj : j < l.length) (hne : j ≠ i) => stands hc hlen hS hi hoi hri hSi hready hj hne (List.getElem?_eq_getElem hj) (List.getElem?_eq_getElem (show j < rs.length by omega))
  rw [(tval_text i (by omega) hlen).1]
  have e1 := tval_above (ops := l) (rs := rs) (s0 := s) (S := S) (t := t) (k := i) (l.length - i) (fun j h1 h2 ⟨h3, h4⟩ => by
    have hj : j < l.length := by omega
    by_cases e : j = i
    · subst e; rw [hSi] at h3; cases h3
    · rcases hst j hj e with ⟨h, _⟩ | ⟨_, h⟩ | h
      · omega
      · rw [h] at h3; cases h3
      · rw [dstK_of (List.getElem?_eq_getElem hj)] at h4
        exact h.d3 t h4 ht)
  rw [show i + (l.length - i) = l.length by omega] at e1
  rw [e1]
  refine tval_same i (fun j hj hd => ?_)
  have hj' : j < l.length := by omega
  rcases hst j hj' (by omega) with ⟨_, h⟩ | ⟨h, _⟩ | h
  · exact h
  · omega
  · rw [dstK_of (List.getElem?_eq_getElem hj')] at hd
    exact absurd ht (h.d3 t hd)

theorem at_fp (hc : checkR l.toArray rs = true) (hlen : rs.length = l.length) (hS : ClosedS l.toArray S) (hi : i < l.length) (hoi : l[i]? = some oi) (hri : rs[i]? = some ri) (hSi : S i = false) (hready : ∀ j ∈ bindsOn oi, S j = true)
    {id : Nat} (ht : id ∈ ri.fp) : hval rs s S l.length id = (runR l rs i s).η id := by
  have hst := fun j (hj : j < l.length) (hne : j ≠ i) => stands hc hlen hS hi hoi hri hSi hready hj hne (List.getElem?_eq_getElem hj) (List.getElem?_eq_getElem (show j < rs.length by omega))
  rw [(tval_text i (by omega) hlen).2]
  have e1 := hval_above (rs := rs) (s0 := s) (S := S) (id := id) (k := i) (l.length - i) (fun j h1 h2 ⟨h3, h4⟩ => by
    have hj : j < l.length := by omega
    by_cases e : j = i
    · subst e; rw [hSi] at h3; cases h3
    · rcases hst j hj e with ⟨h, _⟩ | ⟨_, h⟩ | h
      · omega
      · rw [h] at h3; cases h3
      · rw [δK_of (List.getElem?_eq_getElem (show j < rs.length by omega))] at h4
        exact h.h2 id h4 ht)
  rw [show i + (l.length - i) = l.length by omega] at e1
  rw [e1]
  refine hval_same i (fun j hj hd => ?_)
  have hj' : j < l.length := by omega
  rcases hst j hj' (by omega) with ⟨_, h⟩ | ⟨h, _⟩ | h
  · exact h
  · omega
  · rw [δK_of (List.getElem?_eq_getElem (show j < rs.length by omega))] at hd
    exact absurd ht (h.h2 id hd)

theorem next_τ (hc : checkR l.toArray rs = true) (hlen : rs.length = l.length) (hS : ClosedS l.toArray S) (hi : i < l.length) (hoi : l[i]? = some oi) (hri : rs[i]? = some ri) (hSi : S i = false) (hready : ∀ j ∈ bindsOn oi, S j = true) :
    updO (tval l rs s S l.length) oi.dst ri.v = tval l rs s (seenS S i) l.length := by
  have hst := fun j (hj : j < l.length) (hne : j ≠ i) => stands hc hlen hS hi hoi hri hSi hready hj hne (List.getElem?_eq_getElem hj) (List.getElem?_eq_getElem (show j < rs.length by omega))
  funext t
  by_cases hd : oi.dst = some t
  · have e1 := tval_above (ops := l) (rs := rs) (s0 := s) (S := seenS S i) (t := t) (k := i + 1) (l.length - (i + 1)) (fun j h1 h2 ⟨h3, h4⟩ => by
      have hj : j < l.length := by omega
      have hne : j ≠ i := by omega
      simp only [seenS, hne, if_false] at h3
      rcases hst j hj hne with ⟨h, _⟩ | ⟨_, h⟩ | h
      · omega
      · rw [h] at h3; cases h3
      · rw [dstK_of (List.getElem?_eq_getElem hj)] at h4
        exact h.d2 t hd h4)
    rw [show i + 1 + (l.length - (i + 1)) = l.length by omega] at e1
    rw [e1]
    have e2 : tval l rs s (seenS S i) (i + 1) t = ri.v := by
      simp only [tval, dstK_of hoi, vK_of hri, seenS, if_true, hd, and_self]
    rw [e2, hd]
    simp [updO, upd]
  · have e1 : updO (tval l rs s S l.length) oi.dst ri.v t = tval l rs s S l.length t := by
      cases hdd : oi.dst with
      | none => rfl
      | some d =>
        rw [hdd] at hd
        have : Nat.beq t d = false := by
          cases hb : Nat.beq t d with
          | false => rfl
          | true => exact absurd (by rw [Nat.eq_of_beq_eq_true hb]) hd
        simp [updO, upd, this]
    rw [e1]
    refine tval_same _ (fun j hj hdj => ?_)
    by_cases e : j = i
    · subst e; rw [dstK_of hoi] at hdj; exact absurd hdj hd
    · simp [seenS, e]

theorem next_η (hc : checkR l.toArray rs = true) (hlen : rs.length = l.length) (hS : ClosedS l.toArray S) (hi : i < l.length) (hoi : l[i]? = some oi) (hri : rs[i]? = some ri) (hSi : S i = false) (hready : ∀ j ∈ bindsOn oi, S j = true) :
    (hval rs s S l.length).put ri.δ = hval rs s (seenS S i) l.length := by
  have hst := fun j (hj : j < l.length) (hne : j ≠ i) => stands hc hlen hS hi hoi hri hSi hready hj hne (List.getElem?_eq_getElem hj) (List.getElem?_eq_getElem (show j < rs.length by omega))
  funext id
  rw [put_eq]
  by_cases hd : id ∈ ri.δ.map (·.1)
  · have e1 := hval_above (rs := rs) (s0 := s) (S := seenS S i) (id := id) (k := i + 1) (l.length - (i + 1)) (fun j h1 h2 ⟨h3, h4⟩ => by
      have hj : j < l.length := by omega
      have hne : j ≠ i := by omega
      simp only [seenS, hne, if_false] at h3
      rcases hst j hj hne with ⟨h, _⟩ | ⟨_, h⟩ | h
      · omega
      · rw [h] at h3; cases h3
      · rw [δK_of (List.getElem?_eq_getElem (show j < rs.length by omega))] at h4
        exact h.h3 id hd h4)
    rw [show i + 1 + (l.length - (i + 1)) = l.length by omega] at e1
    rw [e1]
    simp only [hval, δK_of hri, seenS, if_true]
    have := (lastΔ_mem ri.δ id).2 hd
    cases hl : lastΔ ri.δ id with
    | none => rw [hl] at this; cases this
    | some b => rfl
  · have e1 : lastΔ ri.δ id = none := by
      cases hl : lastΔ ri.δ id with
      | none => rfl
      | some b => exact absurd ((lastΔ_mem _ _).1 (by rw [hl]; rfl)) hd
    rw [e1]
    refine hval_same _ (fun j hj hdj => ?_)
    by_cases e : j = i
    · subst e; rw [δK_of hri] at hdj; exact absurd hdj hd
    · simp [seenS, e]

theorem runR_u {Q : Prop} (hf : ∀ (k : Nat) (o : Oper) (r : Rec), l[k]? = some o → rs[k]? = some r → FactR P N l.toArray o r (runR l rs k s)) (hlen : rs.length = l.length) : ∀ m k, k + m ≤ l.length → (runR l rs k s).u ≤ (runR l rs (k + m) s).u
  | 0, _, _ => Nat.le_refl _
  | m + 1, k, h => by
    have ih := runR_u (Q := Q) hf hlen m k (by omega)
    have ho : l[k + m]? = some (l[k + m]'(by omega)) := List.getElem?_eq_getElem (by omega)
    have hr : rs[k + m]? = some (rs[k + m]'(by omega)) := List.getElem?_eq_getElem (by omega)
    have e : runR l rs (k + (m + 1)) s = stepR (l[k + m]'(by omega)) (rs[k + m]'(by omega)) (runR l rs (k + m) s) := runR_succ l rs (k + m) s _ _ ho hr
    rw [e]
    have := (hf _ _ _ ho hr).2.1
    show _ ≤ (rs[k + m]'(by omega)).u
    omega
end
end Go.Proofs.Ytcbpakbhklbdnaa
