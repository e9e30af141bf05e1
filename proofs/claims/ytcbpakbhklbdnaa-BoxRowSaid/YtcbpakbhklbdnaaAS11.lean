/- A region that draws its order: it ends as in the order of the text. -/
import Derived.Test.YtcbpakbhklbdnaaAS10
namespace Go.Proofs.Ytcbpakbhklbdnaa
set_option linter.unusedVariables false
open Go.RowKit

section
variable {P : Program} {N : Nat} {l : List Oper} {rs : List Rec} {s s' : St} {Q : Exit → St → Prop}

theorem Ctx.drew_good {C : Ctx} (hg : Good C) : Good { C with w := C.w.drew } ∧ Ev C { C with w := C.w.drew } := by
  have he : Ev C { C with w := C.w.drew } := ⟨⟨rfl, rfl, rfl, Nat.le_refl _, fun _ _ _ => rfl, fun _ h => .inl h, fun _ h => h, fun _ h => .inl h⟩, fun _ h => h, fun id b' _ hb => ⟨b', hb, Nat.le_refl _, fun _ => ⟨rfl, rfl, rfl, rfl⟩⟩⟩
  refine ⟨⟨hg.used, hg.nils, fun {id b} hb hn => ?_, hg.inj, hg.tlt, hg.apart⟩, he⟩
  obtain ⟨c, t', g1, g2, g3, g4⟩ := hg.blk hb hn
  exact ⟨c, t', g1, g2, g3, fun j h h' => (g4 j h h').mono hg he⟩

theorem want_congr {ops : Array Oper} {τ τ' : Nat → AV} {o : Oper} (h : ∀ t ∈ o.looksAt ops, τ t = τ' t) : want ops τ o = want ops τ' o := by
  unfold want
  cases hg : o.guard with
  | none => rfl
  | some p =>
    obtain ⟨j, b⟩ := p
    simp only
    cases hj : (ops[j]?).bind (·.dst) with
    | none => rfl
    | some d =>
      have hm : d ∈ o.looksAt ops := by
        unfold Oper.looksAt
        rw [hg]
        simp [hj]
      simp only [h d hm]

theorem aev_congr {ops : Array Oper} {τ τ' : Nat → AV} {o : Oper} (h : ∀ t ∈ o.looksAt ops, τ t = τ' t) {x : Operand} (hx : x ∈ o.op.operands) : aev τ x = aev τ' x := by
  cases x with
  | tmp t => exact h t (by
      unfold Oper.looksAt
      refine List.mem_append_left _ (List.mem_filterMap.2 ⟨.tmp t, by simpa using hx, rfl⟩))
  | _ => rfl

theorem AWP.regionD {id : Nat} (hm : P.follows .mixedOrders = true) (hseq : Seq P N l.toArray l s rs s') (hc : checkR l.toArray rs = true) (h : Q .normal s') : AWP P N (.region id l.toArray true) Q s := by
  obtain ⟨hlen, hend, hfact⟩ := hseq.facts
  intro C0 a0 hr0
  obtain ⟨hg1, he1⟩ := Ctx.drew_good hr0.good
  generalize hC1 : ({ C0 with w := C0.w.drew } : Ctx) = C1 at hg1 he1
  have hmono : ∀ k k', k ≤ k' → k' ≤ l.length → (runR l rs k s).u ≤ (runR l rs k' s).u := fun k k' h1 h2 => by
    have := runR_u (Q := True) hfact hlen (k' - k) k (by omega)
    rwa [show k + (k' - k) = k' by omega] at this
  have hu0 : (runR l rs 0 s).u = s.u := by rw [runR_zero]
  have hM : s'.u = (runR l rs l.length s).u := by rw [hend]
  have hge : ∀ k, k < l.length → l[k]? = some (l[k]!) ∧ rs[k]? = some (rs.getD k ⟨[], [], .unk, 0⟩) := fun k hk => by
    have : k < rs.length := by omega
    constructor
    · simp [hk]
    · simp [List.getD, this]
  -- what an operation writes has small numbers
  have hδ : ∀ k o r, k < l.length → l[k]? = some o → rs[k]? = some r → ∀ id ∈ r.δ.map (·.1), id < (runR l rs (k + 1) s).u := by
    intro k o r hk ho hr id hid
    have hs : (runR l rs (k + 1) s).u = r.u := by rw [runR_succ l rs k s o r ho hr]; rfl
    rw [hs]
    obtain ⟨_, hle, ⟨_, _, hn⟩ | ⟨_, _, hd, _⟩⟩ := hfact k o r ho hr
    · obtain ⟨p, hp, rfl⟩ := List.mem_map.1 hid
      have h1 := List.all_eq_true.1 hn p hp
      simp only [Bool.or_eq_true, Bool.and_eq_true] at h1
      rcases h1 with ⟨_, h1⟩ | ⟨_, h1⟩
      · have := Nat.le_of_ble_eq_true h1; omega
      · exact Nat.le_of_ble_eq_true h1
    · rw [hd] at hid; simp at hid
  -- the end
  have hfin : ∀ (li : Array Bool) (C : Ctx) (a : Act), li.size = l.length → InS P N l rs s s'.u C1 (fun k => li.getD k false) C a → Region.ready .any l.toArray li = [] →
      ∃ s'' C', Q .normal s'' ∧ C'.w = C.w ∧ SRel N C' s'' a ∧ Fr C0 C' := by
    intro li C a hl hin hr
    have hall : ∀ k, k < l.length → li.getD k false = true := by
      intro k
      induction k using Nat.strongRecOn with
      | ind k ih =>
        intro hk
        cases hck : li.getD k false with
        | true => rfl
        | false =>
          exfalso
          obtain ⟨ho, hrk⟩ := hge k hk
          have : k ∈ Region.ready .any l.toArray li := by
            rw [mem_ready]
            have hkl : k < li.size := by omega
            refine ⟨by simpa [Array.getD, hkl] using hck, l[k]!, by simpa using ho, fun e he hb => ?_⟩
            have hmem : e.on ∈ bindsOn (l[k]!) := List.mem_map.2 ⟨e, List.mem_filter.2 ⟨by simpa using he, hb⟩, rfl⟩
            have hlt := (check_op hc hk ho hrk).1 e.on hmem
            exact ih e.on hlt (by omega)
          rw [hr] at this
          simp at this
    have e1 : tval l rs s (fun k => li.getD k false) l.length = s'.τ := by
      rw [hend, (tval_text l.length (Nat.le_refl _) hlen).1]
      funext t
      exact tval_same _ (fun j hj _ => hall j hj)
    have e2 : hval rs s (fun k => li.getD k false) l.length = s'.η := by
      rw [hend, (tval_text l.length (Nat.le_refl _) hlen).2]
      funext id
      exact hval_same _ (fun j hj _ => hall j hj)
    have hrel := hin.rel
    rw [e1, e2] at hrel
    exact ⟨s', C, h, rfl, hrel, he1.toFr.trans hin.fr⟩
  have key : ∀ (fuel : Nat) (li : Array Bool) (C : Ctx) (a : Act), li.size = l.length → (List.range l.length).countP (fun k => !li.getD k false) ≤ fuel → InS P N l rs s s'.u C1 (fun k => li.getD k false) C a →
      wpAny P .any l.toArray (fun e a' w' => ∃ s'' C', Q e s'' ∧ C'.w = w' ∧ SRel N C' s'' a' ∧ Fr C0 C') fuel li a C.w := by
    intro fuel
    induction fuel with
    | zero =>
      intro li C a hl hcnt hin
      have hr : Region.ready .any l.toArray li = [] := by
        rw [List.eq_nil_iff_forall_not_mem]
        intro k hk
        rw [mem_ready] at hk
        obtain ⟨h1, o, ho, _⟩ := hk
        have hkl : k < l.length := by have := (Array.getElem?_eq_some_iff.1 ho).1; simpa using this
        have := List.countP_eq_zero.1 (Nat.le_zero.1 hcnt) k (List.mem_range.2 hkl)
        have hkl' : k < li.size := by omega
        simp [Array.getD, hkl'] at this h1
        rw [this] at h1; cases h1
      exact ⟨hr, hfin li C a hl hin hr⟩
    | succ fuel ih =>
      intro li C a hl hcnt hin
      refine ⟨hfin li C a hl hin, fun i hi => ?_⟩
      rw [mem_ready] at hi
      obtain ⟨h1, oi, ho, hdeps⟩ := hi
      have hil : i < l.length := by have := (Array.getElem?_eq_some_iff.1 ho).1; simpa using this
      have hill : i < li.size := by omega
      have hSi : li.getD i false = false := by simpa [Array.getD, hill] using h1
      have hoi : l[i]? = some oi := by simpa using ho
      obtain ⟨_, hri⟩ := hge i hil
      generalize rs.getD i ⟨[], [], .unk, 0⟩ = ri at hri
      have hready : ∀ j ∈ bindsOn oi, li.getD j false = true := by
        intro j hj
        obtain ⟨e, he, rfl⟩ := List.mem_map.1 hj
        obtain ⟨he1, he2⟩ := List.mem_filter.1 he
        exact hdeps e (by simpa using he1) he2
      have hset : (fun k => (li.setIfInBounds i true).getD k false) = seenS (fun k => li.getD k false) i := by
        funext k
        unfold seenS
        by_cases e : k = i
        · subst e; simp [Array.getD, hill]
        · rw [if_neg e]; exact getD_set_ne false (fun h => e h.symm)
      have hcount : (List.range l.length).countP (fun k => !(li.setIfInBounds i true).getD k false) ≤ fuel := by
        have hlt : (List.range l.length).countP (fun k => !(li.setIfInBounds i true).getD k false) < (List.range l.length).countP (fun k => !li.getD k false) := by
          have e1 : ∀ k, (li.setIfInBounds i true).getD k false = seenS (fun k => li.getD k false) i k := fun k => congrFun hset k
          simp only [e1]
          refine countP_ltS (List.mem_range.2 hil) (by simp [hSi]) (by simp [seenS]) (fun k hk => ?_)
          simp only [seenS]
          split <;> simp
        omega
      have hlooks : ∀ t ∈ oi.looksAt l.toArray, tval l rs s (fun k => li.getD k false) l.length t = (runR l rs i s).τ t := fun t ht => at_looks hc hlen hin.closed hil hoi hri hSi hready ht
      have hclosed : ClosedS l.toArray (seenS (fun k => li.getD k false) i) := by
        intro k o hk hs j hj
        unfold seenS at hs ⊢
        by_cases e : j = i
        · simp [e]
        · rw [if_neg e]
          by_cases e1 : k = i
          · subst e1
            rw [ho] at hk
            cases hk
            exact hready j hj
          · rw [if_neg e1] at hs
            exact hin.closed k o hk hs j hj
      obtain ⟨hdo, hule, hcase⟩ := hfact i oi ri hoi hri
      have hτ := next_τ (s := s) hc hlen hin.closed hil hoi hri hSi hready
      have hη := next_η (s := s) hc hlen hin.closed hil hoi hri hSi hready
      unfold wpOp
      simp only [ho]
      rcases hcase with ⟨hw, hL, hn⟩ | ⟨hw, hv, hδ0, hfp0⟩
      · rw [want_spec (s := ⟨tval l rs s (fun k => li.getD k false) l.length, hval rs s (fun k => li.getD k false) l.length, s'.u⟩) ((want_congr hlooks).trans hw) hin.rel (dstOk.guard hdo)]
        simp only [if_true]
        left
        refine hL C a hin.rel.good (fun x hx => ?_) (fun id hid => ?_) (fun p hp hnp hU => ?_) _ _ fun x C' hη' hUU hg' hev hvx => ?_
        · rw [← aev_congr hlooks hx]; exact hin.rel.eval x
        · rw [hin.rel.η]; exact at_fp hc hlen hin.closed hil hoi hri hSi hready hid
        · have h2 := List.all_eq_true.1 hn p hp
          simp only [Bool.or_eq_true, Bool.and_eq_true, List.contains_iff_mem] at h2
          have hlow : (runR l rs i s).u ≤ p.1 := by
            rcases h2 with ⟨h2, _⟩ | ⟨h2, _⟩
            · exact absurd h2 hnp
            · exact Nat.le_of_ble_eq_true h2
          have h0i := hmono 0 i (by omega) (by omega)
          rcases hin.used _ hU with h3 | ⟨k, hk, hSk, hidk⟩
          · omega
          · by_cases e : k = i
            · subst e; rw [hSi] at hSk; cases hSk
            · obtain ⟨hok, hrk⟩ := hge k hk
              rw [δK_of hrk] at hidk
              rcases stands hc hlen hin.closed hil hoi hri hSi hready hk e hok hrk with ⟨hlt, _⟩ | ⟨_, h4⟩ | h4
              · have := hδ k _ _ hk hok hrk p.1 hidk
                have := hmono (k + 1) i (by omega) (by omega)
                omega
              · rw [h4] at hSk; cases hSk
              · exact h4.h3 p.1 (List.mem_map_of_mem hp) hidk
        · have hUlt : ∀ id, C'.U id → id < s'.u := by
            intro id hid
            rcases (hUU id).1 hid with h2 | h2
            · exact hin.rel.u id h2
            · have := hδ i oi ri hil hoi hri id h2
              have := hmono (i + 1) l.length (by omega) (by omega)
              omega
          have hrel := hin.rel.put hev hg' hUlt (dstOk.dst hdo) hvx
          rw [hη', hin.rel.η] at hrel
          simp only at hrel
          rw [hτ, hη] at hrel
          refine ih _ C' _ (by simpa using hl) hcount ?_
          rw [hset]
          refine ⟨hrel, hclosed, fun id hid => ?_, hin.fr.trans hev.toFr⟩
          rcases (hUU id).1 hid with h2 | h2
          · rcases hin.used id h2 with h3 | ⟨k, hk, hSk, hk2⟩
            · exact .inl h3
            · exact .inr ⟨k, hk, by simp only [seenS]; split <;> simp_all, hk2⟩
          · exact .inr ⟨i, hil, by simp [seenS], by rw [δK_of hri]; exact h2⟩
      · rw [want_spec (s := ⟨tval l rs s (fun k => li.getD k false) l.length, hval rs s (fun k => li.getD k false) l.length, s'.u⟩) ((want_congr hlooks).trans hw) hin.rel (dstOk.guard hdo)]
        simp only [Bool.false_eq_true, if_false]
        have hrel := hin.rel.put (Ev.refl C) hin.rel.good hin.rel.u (dstOk.dst hdo) (VR.v C undef)
        rw [hin.rel.η] at hrel
        simp only at hrel
        rw [← hv, hτ] at hrel
        have hη2 : hval rs s (fun k => li.getD k false) l.length = hval rs s (seenS (fun k => li.getD k false) i) l.length := by rw [← hη, hδ0]; rfl
        rw [hη2] at hrel
        refine ih _ C _ (by simpa using hl) hcount ?_
        rw [hset]
        refine ⟨hrel, hclosed, fun id hid => ?_, hin.fr⟩
        rcases hin.used id hid with h3 | ⟨k, hk, hSk, hk2⟩
        · exact .inl h3
        · exact .inr ⟨k, hk, by simp only [seenS]; split <;> simp_all, hk2⟩
  refine wp_region_any hm ?_
  have e0 : (fun k => (Array.replicate l.toArray.size false).getD k false) = fun _ => false := by
    funext k; simp [Array.getD]
  have hstart : InS P N l rs s s'.u C1 (fun _ => false) C1 a0 := by
    have e1 : tval l rs s (fun _ => false) l.length = s.τ := by
      have : ∀ m, tval l rs s (fun _ => false) m = s.τ := by
        intro m
        induction m with
        | zero => rfl
        | succ m ih => funext t; simp [tval, ih]
      exact this _
    have e2 : hval rs s (fun _ => false) l.length = s.η := by
      have : ∀ m, hval rs s (fun _ => false) m = s.η := by
        intro m
        induction m with
        | zero => rfl
        | succ m ih => funext t; simp [hval, ih]
      exact this _
    have h0n := hmono 0 l.length (by omega) (Nat.le_refl _)
    have hU1 : ∀ id, C1.U id → id < s.u := by subst hC1; exact hr0.u
    refine ⟨?_, fun k o _ hk => (by cases hk), fun id hid => .inl (hU1 id hid), Fr.refl _⟩
    rw [e1, e2]
    refine ⟨hg1, ?_, fun id hid => ?_, hr0.defers, hr0.size, fun t => (hr0.τ t).mono hr0.good he1⟩
    · subst hC1; exact hr0.η
    · have := hU1 id hid
      show id < s'.u
      rw [hu0] at h0n
      omega
  have := key l.toArray.size (Array.replicate l.toArray.size false) C1 a0 (by simp) (by
    have := List.countP_le_length (p := fun k => !(Array.replicate l.toArray.size false).getD k false) (l := List.range l.length)
    simpa using this) (by rw [e0]; exact hstart)
  have hw : C1.w = { C0.w with drawn := C0.w.drawn + 1 } := by subst hC1; rfl
  rw [hw] at this
  exact this
end
end Go.Proofs.Ytcbpakbhklbdnaa
