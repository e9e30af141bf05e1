/- The law. -/
import Derived.Deep.Slices
import Derived.Deep.Fields
import Derived.ChangeSame
import Derived.ChangeArms
import Derived.SizedLaws
import Derived.OpenShut
import Derived.Test.YtgknefkobpnjaaaGreatDoorV3
import Derived.Test.YtgknefkobpnjaaaGreatDoorTabE
namespace Go.Proofs.YtgknefkobpnjaaaGreatDoor
set_option linter.unusedVariables false
set_option linter.unusedSimpArgs false
open Go.RowKit
/-- The numbers of a predicate are such as the types hold. -/
structure PPred.R (p : PPred) : Prop where
  each : ∀ c ∈ p.cls, c.R
/-- A predicate as it may come. -/
structure PPred.Fits (p : PPred) : Prop where
  vars : p.vars.length ≤ 140737488355328
  cls : p.cls.length ≤ 140737488355328
  each : ∀ c ∈ p.cls, c.Fits
theorem sumA_ge {c : PCl} : ∀ k j, j < k → k ≤ c.aux.length → (c.aux.getD j default).of_.cs.length ≤ sumA c k
  | 0, _, h, _ => absurd h (Nat.not_lt_zero _)
  | k + 1, j, h, hk => by
    show _ ≤ sumA c k + (c.aux.getD k default).of_.cs.length
    by_cases e : j = k
    · subst e; omega
    · have := sumA_ge (c := c) k j (by omega) (by omega); omega
theorem sumI_ge {c : PCl} : ∀ k j, j < k → k ≤ c.ints.length → (c.ints.getD j default).l.cs.length ≤ sumI c k
  | 0, _, h, _ => absurd h (Nat.not_lt_zero _)
  | k + 1, j, h, hk => by
    show _ ≤ sumI c k + (c.ints.getD k default).l.cs.length
    by_cases e : j = k
    · subst e; omega
    · have := sumI_ge (c := c) k j (by omega) (by omega); omega
theorem few_ok {c : PCl} (h : fewB c = true) : c.Ok := by
  unfold fewB at h
  simp only [Bool.and_eq_true, Bool.not_eq_true', decide_eq_false_iff_not, decide_eq_true_eq] at h
  obtain ⟨⟨h1, h2⟩, h3⟩ := h
  have h4 : c.nul.length + c.nn.length + c.aux.length + c.ints.length + c.tests.length + c.same.length + c.diff.length ≤ 80 := by unfold fewN at h1; omega
  refine ⟨by omega, by omega, by omega, by omega, by omega, by omega, by omega, ?_, ?_, ?_⟩
  · intro a ha
    obtain ⟨j, hj, rfl⟩ := List.getElem_of_mem ha
    have := sumA_ge (c := c) c.aux.length j hj (Nat.le_refl _)
    rw [getD_at hj] at this
    omega
  · intro a ha
    obtain ⟨j, hj, rfl⟩ := List.getElem_of_mem ha
    have := sumI_ge (c := c) c.ints.length j hj (Nat.le_refl _)
    rw [getD_at hj] at this
    omega
  · intro a ha
    obtain ⟨j, hj, rfl⟩ := List.getElem_of_mem ha
    have := allN_iff.1 h2 j hj
    unfold txtP at this
    rw [getD_at hj] at this
    simp only [Bool.not_eq_true', decide_eq_false_iff_not] at this
    omega
theorem bod11 : bodied Tryz.prog 11 = true := by kernel_rfl
theorem bod12 : bodied Tryz.prog 12 = true := by kernel_rfl
theorem bod13 : bodied Tryz.prog 13 = true := by kernel_rfl
theorem bod31 : bodied Tryz.prog 31 = true := by kernel_rfl
theorem bod32 : bodied Tryz.prog 32 = true := by kernel_rfl
theorem bod33 : bodied Tryz.prog 33 = true := by kernel_rfl
theorem bod34 : bodied Tryz.prog 34 = true := by kernel_rfl
theorem bod35 : bodied Tryz.prog 35 = true := by kernel_rfl
theorem bod36 : bodied Tryz.prog 36 = true := by kernel_rfl
theorem bod5 : bodied Tryz.prog 5 = true := by kernel_rfl
theorem bod63 : bodied Tryz.prog 63 = true := by kernel_rfl
theorem bod64 : bodied Tryz.prog 64 = true := by kernel_rfl
theorem row25 : rowOf Tryz.prog 25 = some (some 4) := by kernel_rfl
theorem zr35 : zeroOf Tryz.prog 35 = some (.agg #[.slice none 0 0, .slice none 0 0, .slice none 0 0, .slice none 0 0, .slice none 0 0, .slice none 0 0, .slice none 0 0]) := by kernel_rfl

set_option maxRecDepth 100000 in
set_option maxHeartbeats 4000000 in
theorem nvar_p (x : PVar) : PCall Tryz.prog 32 [.agg (vA x)] (.v (.bool (!varB x))) := by
  refine PCall.of_body Tryz.func32 rfl Tryz.ntmps32 (Nat.le_of_ble_eq_true rfl) ?_
  refine AWP.seq ?_
  refine AWP.region ?_
  refine AOps.nw (LOp.bx rfl) rfl rfl 1 rfl ?_
  refine AOps.lk (LOp.asg (a := .v _) rfl) rfl rfl ?_
  refine AOps.nil ?_
  refine andThen_normal ?_
  refine AWP.seq ?_
  refine AWP.region ?_
  refine AOps.lk (LOp.ldN row44 rfl rfl rfl rfl rfl) rfl rfl ?_
  refine AOps.lk (LOp.call bod33 rfl (pvar_p x)) rfl rfl ?_
  refine AOps.lk (LOp.plain rfl (fun _ _ => nofun) (fun _ => rfl)) rfl rfl ?_
  refine AOps.lk (LOp.asg (a := .v _) rfl) rfl rfl ?_
  refine AOps.nil ?_
  refine andThen_normal ?_
  refine AWP.ret (?_)
  refine ⟨.inr rfl, Outs.val Tryz.results32 rfl rfl ?_⟩
  rfl

set_option maxRecDepth 100000 in
set_option maxHeartbeats 4000000 in
theorem ixv_p (l : List PVar) (hl : l.length ≤ 1000) : PCall Tryz.prog 63 [vsA l, .clo 32 []] (.v (.int .i64 (idxQ l.length (domP l)))) := by
  refine PCall.of_body Tryz.func63 rfl Tryz.ntmps63 (Nat.le_of_ble_eq_true rfl) ?_
  refine AWP.seq ?_
  refine AWP.region ?_
  refine AOps.lk (LOp.asg (a := .v _) rfl) rfl rfl ?_
  refine AOps.nil ?_
  refine andThen_normal ?_
  refine AWP.seq ?_
  refine AWP.seq ?_
  refine AWP.region ?_
  refine AOps.lk (LOp.mv (a := .tree _ _) rfl) rfl rfl ?_
  refine AOps.lk (LOp.lenT rfl Tryz.underlying22 rfl) rfl rfl ?_
  refine AOps.lk (LOp.mv (a := .v _) rfl) rfl rfl ?_
  refine AOps.nil ?_
  refine andThen_normal ?_
  refine AWP.block ?_
  refine AWP.loopC (fun n s => ∃ k : Nat, n = (l.length - k) ∧ s = ⟨frameL [(0, vsA l), (1, .clo 32 []), (7, .v (.int .i64 ((l.length : Nat) : Int))), (8, .v (.int .i64 ((k : Nat) : Int)))], heapL [], 0⟩ ∧ (k ≤ l.length ∧ ∀ j, j < k → domP l j = true)) (n := (l.length - 0)) (s1 := ⟨frameL [(0, vsA l), (1, .clo 32 []), (7, .v (.int .i64 ((l.length : Nat) : Int))), (8, .v (.int .i64 ((0 : Nat) : Int)))], heapL [], 0⟩) (Canon.of (.cons rfl rfl (.cons rfl rfl (.cons rfl rfl (.cons rfl rfl .nil)))) .nil) ⟨0, rfl, rfl, ⟨Nat.zero_le _, fun j h => absurd h (Nat.not_lt_zero j)⟩⟩ ?_
  rintro n s ⟨k, rfl, rfl, hinv⟩
  obtain ⟨hk, hj⟩ := hinv
  refine AWP.seq ?_
  refine AWP.region ?_
  refine AOps.lk (LOp.plain rfl (fun _ _ => nofun) (fun _ => rfl)) rfl rfl ?_
  refine AOps.nil ?_
  refine andThen_normal ?_
  refine AWP.seq ?_
  refine AWP.cond rfl (fun hc9 => ?_) (fun hc9 => ?_)
  · skip
    have hlt : k < l.length := Int.ofNat_lt.1 (of_decide_eq_true hc9)
    refine AWP.skip ?_
    refine andThen_normal ?_
    refine AWP.seq ?_
    refine AWP.block ?_
    refine AWP.seq ?_
    refine AWP.region ?_
    refine AOps.lk (LOp.mv (a := .v _) rfl) rfl rfl ?_
    refine AOps.lk (LOp.asg (a := .v _) rfl) rfl rfl ?_
    refine AOps.nil ?_
    refine andThen_normal ?_
    refine AWP.seq ?_
    refine AWP.region ?_
    refine AOps.lk (LOp.mv (a := .clo _ _) rfl) rfl rfl ?_
    refine AOps.lk (LOp.mv (a := .tree _ _) rfl) rfl rfl ?_
    refine AOps.lk (LOp.mv (a := .v _) rfl) rfl rfl ?_
    refine AOps.lk (LOp.indexT Tryz.underlying22 sz44 rfl rfl (by first | assumption | omega)) rfl rfl ?_
    refine AOps.lk (LOp.ldTN row44 rfl rfl) rfl rfl ?_
    refine AOps.lk (LOp.callVB [] bod32 rfl rfl (FzL.pure rfl) (nvar_p l[k])) rfl rfl ?_
    refine AOps.nil ?_
    refine andThen_normal ?_
    refine AWP.cond rfl (fun hc16 => ?_) (fun hc16 => ?_)
    · skip
      refine AWP.seq ?_
      refine AWP.region ?_
      refine AOps.lk (LOp.mv (a := .v _) rfl) rfl rfl ?_
      refine AOps.lk (LOp.asg (a := .v _) rfl) rfl rfl ?_
      refine AOps.nil ?_
      refine andThen_normal ?_
      refine AWP.ret (inBlk_ret (andThen_ret (andThen_ret (inBlk_ret (andThen_ret (?_))))))
      refine ⟨.inr rfl, Outs.val Tryz.results63 rfl rfl ?_⟩
      refine vi_eq (idxQ_hit hlt hj ?_); simp only [domP, getD_at hlt]; simpa using hc16
    · skip
      refine AWP.skip ?_
      refine inBlk_normal ?_
      refine andThen_normal ?_
      refine AWP.region ?_
      refine AOps.lk (LOp.addI rfl rfl (by omega) (by omega)) rfl rfl ?_
      refine AOps.lk (LOp.mv (a := .v _) rfl) rfl rfl ?_
      refine AOps.nil ?_
      refine andThen_normal ?_
      refine ⟨(l.length - (k + 1)), ⟨frameL [(0, vsA l), (1, .clo 32 []), (7, .v (.int .i64 ((l.length : Nat) : Int))), (8, .v (.int .i64 (((k + 1) : Nat) : Int)))], heapL [], 0⟩, by omega, (Canon.of (.cons rfl rfl (.cons rfl rfl (.cons rfl rfl (.cons rfl rfl .nil)))) .nil), k + 1, rfl, rfl, ?_⟩
      refine ⟨by omega, fun j h => ?_⟩
      rcases Nat.lt_succ_iff_lt_or_eq.1 h with h | rfl
      · exact hj j h
      · simp only [domP, getD_at hlt]; simpa using hc16
  · skip
    have hge : ¬ k < l.length := fun h => of_decide_eq_false hc9 (Int.ofNat_lt.2 h)
    refine AWP.exit (andThen_exit (andThen_exit (inBlk_exit ?_)))
    refine andThen_normal ?_
    refine AWP.seq ?_
    refine AWP.region ?_
    refine AOps.lk (LOp.asg (a := .v _) rfl) rfl rfl ?_
    refine AOps.nil ?_
    refine andThen_normal ?_
    refine AWP.ret (?_)
    refine ⟨.inr rfl, Outs.val Tryz.results63 rfl rfl ?_⟩
    exact vi_eq (idxQ_end hk hge hj)

set_option maxRecDepth 100000 in
set_option maxHeartbeats 4000000 in
theorem anyv_p (l : List PVar) (hl : l.length ≤ 1000) : PCall Tryz.prog 31 [vsA l, .clo 32 []] (.v (.bool (!allN l.length (domP l)))) := by
  refine PCall.of_body Tryz.func31 rfl Tryz.ntmps31 (Nat.le_of_ble_eq_true rfl) ?_
  refine AWP.seq ?_
  refine AWP.region ?_
  refine AOps.lk (LOp.asg (a := .v _) rfl) rfl rfl ?_
  refine AOps.nil ?_
  refine andThen_normal ?_
  refine AWP.seq ?_
  refine AWP.region ?_
  refine AOps.lk (LOp.mv (a := .tree _ _) rfl) rfl rfl ?_
  refine AOps.lk (LOp.mv (a := .clo _ _) rfl) rfl rfl ?_
  refine AOps.lk (LOp.call bod63 rfl (ixv_p l hl)) rfl rfl ?_
  refine AOps.lk (LOp.plain rfl (fun _ _ => nofun) (fun _ => rfl)) rfl rfl ?_
  refine AOps.lk (LOp.asg (a := .v _) rfl) rfl rfl ?_
  refine AOps.nil ?_
  refine andThen_normal ?_
  refine AWP.ret (?_)
  refine ⟨.inr rfl, Outs.val Tryz.results31 rfl rfl ?_⟩
  exact vb_eq idxQ_ge

set_option maxRecDepth 100000 in
set_option maxHeartbeats 4000000 in
theorem ncl_p (c : PCl) (p : PPred) (hc : c.Ok) (hr : c.R) (hl : p.vars.length ≤ 1000) : PCall Tryz.prog 35 [.agg (clA c), .tp (prA p) 0] (.v (.bool (!clB c p.vars))) := by
  refine PCall.of_body Tryz.func35 rfl Tryz.ntmps35 (Nat.le_of_ble_eq_true rfl) ?_
  refine AWP.seq ?_
  refine AWP.region ?_
  refine AOps.nw (LOp.bx rfl) rfl rfl 1 rfl ?_
  refine AOps.lk (LOp.asg (a := .v _) rfl) rfl rfl ?_
  refine AOps.nil ?_
  refine andThen_normal ?_
  refine AWP.seq ?_
  refine AWP.region ?_
  refine AOps.lk (LOp.ldN row35 rfl rfl rfl rfl rfl) rfl rfl ?_
  refine AOps.lk (LOp.fieldAddrT fi25_2 rfl rfl) rfl rfl ?_
  refine AOps.lk (LOp.loadT1 row22 rfl rfl) rfl rfl ?_
  refine AOps.lk (LOp.call bod36 rfl (pcl_p c p.vars hc hr hl)) rfl rfl ?_
  refine AOps.lk (LOp.plain rfl (fun _ _ => nofun) (fun _ => rfl)) rfl rfl ?_
  refine AOps.lk (LOp.asg (a := .v _) rfl) rfl rfl ?_
  refine AOps.nil ?_
  refine andThen_normal ?_
  refine AWP.ret (?_)
  refine ⟨.inr rfl, Outs.val Tryz.results35 rfl rfl ?_⟩
  rfl

set_option maxRecDepth 100000 in
set_option maxHeartbeats 4000000 in
theorem ixc_p (p : PPred) (hp : p.Ok) (hr : p.R) : PCall Tryz.prog 64 [.tree 7 (p.cls.map clA), .clo 35 [.tp (prA p) 0]] (.v (.int .i64 (idxQ p.cls.length (clsP p)))) := by
  refine PCall.of_body Tryz.func64 rfl Tryz.ntmps64 (Nat.le_of_ble_eq_true rfl) ?_
  refine AWP.seq ?_
  refine AWP.region ?_
  refine AOps.lk (LOp.asg (a := .v _) rfl) rfl rfl ?_
  refine AOps.nil ?_
  refine andThen_normal ?_
  refine AWP.seq ?_
  refine AWP.seq ?_
  refine AWP.region ?_
  refine AOps.lk (LOp.mv (a := .tree _ _) rfl) rfl rfl ?_
  refine AOps.lk (LOp.lenT rfl Tryz.underlying23 rfl) rfl rfl ?_
  refine AOps.lk (LOp.mv (a := .v _) rfl) rfl rfl ?_
  refine AOps.nil ?_
  refine andThen_normal ?_
  refine AWP.block ?_
  refine AWP.loopC (fun n s => ∃ k : Nat, n = (p.cls.length - k) ∧ s = ⟨frameL [(0, .tree 7 (p.cls.map clA)), (1, .clo 35 [.tp (prA p) 0]), (7, .v (.int .i64 ((p.cls.length : Nat) : Int))), (8, .v (.int .i64 ((k : Nat) : Int)))], heapL [], 0⟩ ∧ (k ≤ p.cls.length ∧ ∀ j, j < k → clsP p j = true)) (n := (p.cls.length - 0)) (s1 := ⟨frameL [(0, .tree 7 (p.cls.map clA)), (1, .clo 35 [.tp (prA p) 0]), (7, .v (.int .i64 ((p.cls.length : Nat) : Int))), (8, .v (.int .i64 ((0 : Nat) : Int)))], heapL [], 0⟩) (Canon.of (.cons rfl rfl (.cons rfl rfl (.cons rfl rfl (.cons rfl rfl .nil)))) .nil) ⟨0, rfl, rfl, ⟨Nat.zero_le _, fun j h => absurd h (Nat.not_lt_zero j)⟩⟩ ?_
  rintro n s ⟨k, rfl, rfl, hinv⟩
  obtain ⟨hk, hj⟩ := hinv
  have hcls := hp.cls
  refine AWP.seq ?_
  refine AWP.region ?_
  refine AOps.lk (LOp.plain rfl (fun _ _ => nofun) (fun _ => rfl)) rfl rfl ?_
  refine AOps.nil ?_
  refine andThen_normal ?_
  refine AWP.seq ?_
  refine AWP.cond rfl (fun hc9 => ?_) (fun hc9 => ?_)
  · skip
    have hlt : k < p.cls.length := Int.ofNat_lt.1 (of_decide_eq_true hc9)
    refine AWP.skip ?_
    refine andThen_normal ?_
    refine AWP.seq ?_
    refine AWP.block ?_
    refine AWP.seq ?_
    refine AWP.region ?_
    refine AOps.lk (LOp.mv (a := .v _) rfl) rfl rfl ?_
    refine AOps.lk (LOp.asg (a := .v _) rfl) rfl rfl ?_
    refine AOps.nil ?_
    refine andThen_normal ?_
    refine AWP.seq ?_
    refine AWP.region ?_
    refine AOps.lk (LOp.mv (a := .clo _ _) rfl) rfl rfl ?_
    refine AOps.lk (LOp.mv (a := .tree _ _) rfl) rfl rfl ?_
    refine AOps.lk (LOp.mv (a := .v _) rfl) rfl rfl ?_
    refine AOps.lk (LOp.indexT Tryz.underlying23 sz35 rfl rfl (by first | assumption | omega)) rfl rfl ?_
    refine AOps.lk (LOp.ldTN row35 rfl rfl) rfl rfl ?_
    refine AOps.lk (LOp.callVB [] bod35 rfl rfl (FzL.pure rfl) (ncl_p p.cls[k] p (hp.each _ (List.getElem_mem _)) (hr.each _ (List.getElem_mem _)) hp.vars)) rfl rfl ?_
    refine AOps.nil ?_
    refine andThen_normal ?_
    refine AWP.cond rfl (fun hc16 => ?_) (fun hc16 => ?_)
    · skip
      refine AWP.seq ?_
      refine AWP.region ?_
      refine AOps.lk (LOp.mv (a := .v _) rfl) rfl rfl ?_
      refine AOps.lk (LOp.asg (a := .v _) rfl) rfl rfl ?_
      refine AOps.nil ?_
      refine andThen_normal ?_
      refine AWP.ret (inBlk_ret (andThen_ret (andThen_ret (inBlk_ret (andThen_ret (?_))))))
      refine ⟨.inr rfl, Outs.val Tryz.results64 rfl rfl ?_⟩
      refine vi_eq (idxQ_hit hlt hj ?_); simp only [clsP, getD_at hlt]; simpa using hc16
    · skip
      refine AWP.skip ?_
      refine inBlk_normal ?_
      refine andThen_normal ?_
      refine AWP.region ?_
      refine AOps.lk (LOp.addI rfl rfl (by omega) (by omega)) rfl rfl ?_
      refine AOps.lk (LOp.mv (a := .v _) rfl) rfl rfl ?_
      refine AOps.nil ?_
      refine andThen_normal ?_
      refine ⟨(p.cls.length - (k + 1)), ⟨frameL [(0, .tree 7 (p.cls.map clA)), (1, .clo 35 [.tp (prA p) 0]), (7, .v (.int .i64 ((p.cls.length : Nat) : Int))), (8, .v (.int .i64 (((k + 1) : Nat) : Int)))], heapL [], 0⟩, by omega, (Canon.of (.cons rfl rfl (.cons rfl rfl (.cons rfl rfl (.cons rfl rfl .nil)))) .nil), k + 1, rfl, rfl, ?_⟩
      refine ⟨by omega, fun j h => ?_⟩
      rcases Nat.lt_succ_iff_lt_or_eq.1 h with h | rfl
      · exact hj j h
      · simp only [clsP, getD_at hlt]; simpa using hc16
  · skip
    have hge : ¬ k < p.cls.length := fun h => of_decide_eq_false hc9 (Int.ofNat_lt.2 h)
    refine AWP.exit (andThen_exit (andThen_exit (inBlk_exit ?_)))
    refine andThen_normal ?_
    refine AWP.seq ?_
    refine AWP.region ?_
    refine AOps.lk (LOp.asg (a := .v _) rfl) rfl rfl ?_
    refine AOps.nil ?_
    refine andThen_normal ?_
    refine AWP.ret (?_)
    refine ⟨.inr rfl, Outs.val Tryz.results64 rfl rfl ?_⟩
    exact vi_eq (idxQ_end hk hge hj)

set_option maxRecDepth 100000 in
set_option maxHeartbeats 4000000 in
theorem anyc_p (p : PPred) (hp : p.Ok) (hr : p.R) : PCall Tryz.prog 34 [.tree 7 (p.cls.map clA), .clo 35 [.tp (prA p) 0]] (.v (.bool (!allN p.cls.length (clsP p)))) := by
  refine PCall.of_body Tryz.func34 rfl Tryz.ntmps34 (Nat.le_of_ble_eq_true rfl) ?_
  refine AWP.seq ?_
  refine AWP.region ?_
  refine AOps.lk (LOp.asg (a := .v _) rfl) rfl rfl ?_
  refine AOps.nil ?_
  refine andThen_normal ?_
  refine AWP.seq ?_
  refine AWP.region ?_
  refine AOps.lk (LOp.mv (a := .tree _ _) rfl) rfl rfl ?_
  refine AOps.lk (LOp.mv (a := .clo _ _) rfl) rfl rfl ?_
  refine AOps.lk (LOp.call bod64 rfl (ixc_p p hp hr)) rfl rfl ?_
  refine AOps.lk (LOp.plain rfl (fun _ _ => nofun) (fun _ => rfl)) rfl rfl ?_
  refine AOps.lk (LOp.asg (a := .v _) rfl) rfl rfl ?_
  refine AOps.nil ?_
  refine andThen_normal ?_
  refine AWP.ret (?_)
  refine ⟨.inr rfl, Outs.val Tryz.results34 rfl rfl ?_⟩
  exact vb_eq idxQ_ge

set_option maxRecDepth 100000 in
set_option maxHeartbeats 4000000 in
theorem pred_p (p : PPred) (v : Int) (hp : p.Ok) (hr : p.R) : PCall Tryz.prog 12 [.agg (prA p), .v (.int .i64 v)] (.v (.bool (refB p v))) := by
  have hpv := hp.vars
  refine PCall.of_body Tryz.func12 rfl Tryz.ntmps12 (Nat.le_of_ble_eq_true rfl) ?_
  refine AWP.seq ?_
  refine AWP.region ?_
  refine AOps.nw (LOp.bx rfl) rfl rfl 1 rfl ?_
  refine AOps.lk (LOp.asg (a := .v _) rfl) rfl rfl ?_
  refine AOps.nil ?_
  refine andThen_normal ?_
  refine AWP.seq ?_
  refine AWP.seq ?_
  refine AWP.region ?_
  refine AOps.lk (LOp.fieldAddr fi25_0 rfl rfl rfl rfl rfl) rfl rfl ?_
  refine AOps.lk (LOp.load1 row3 rfl rfl rfl rfl rfl) rfl rfl ?_
  refine AOps.lk (LOp.plain rfl (fun _ _ => nofun) (fun _ => rfl)) rfl rfl ?_
  refine AOps.lk (LOp.mv (a := .v _) rfl) rfl rfl ?_
  refine AOps.splitB 8 rfl (fun hg8 => ?_) (fun hg8 => ?_)
  · skip
    refine AOps.sk rfl rfl ?_
    refine AOps.sk rfl rfl ?_
    refine AOps.lk (LOp.pkT (a := .v _) rfl (by first | rfl | assumption) rfl) rfl rfl ?_
    refine AOps.lk (LOp.mv (a := .v _) rfl) rfl rfl ?_
    refine AOps.sk rfl rfl ?_
    refine AOps.sk rfl rfl ?_
    refine AOps.sk rfl rfl ?_
    refine AOps.sk rfl rfl ?_
    refine AOps.lk (LOp.pkT (a := .v _) rfl (by first | rfl | assumption) rfl) rfl rfl ?_
    refine AOps.lk (LOp.mv (a := .v _) rfl) rfl rfl ?_
    refine AOps.sk rfl rfl ?_
    refine AOps.sk rfl rfl ?_
    refine AOps.sk rfl rfl ?_
    refine AOps.sk rfl rfl ?_
    refine AOps.sk rfl rfl ?_
    refine AOps.lk (LOp.pkT (a := .v _) rfl (by first | rfl | assumption) rfl) rfl rfl ?_
    refine AOps.lk (LOp.mv (a := .v _) rfl) rfl rfl ?_
    refine AOps.sk rfl rfl ?_
    refine AOps.sk rfl rfl ?_
    refine AOps.sk rfl rfl ?_
    refine AOps.sk rfl rfl ?_
    refine AOps.lk (LOp.pkT (a := .v _) rfl (by first | rfl | assumption) rfl) rfl rfl ?_
    refine AOps.lk (LOp.mv (a := .v _) rfl) rfl rfl ?_
    refine AOps.sk rfl rfl ?_
    refine AOps.sk rfl rfl ?_
    refine AOps.sk rfl rfl ?_
    refine AOps.sk rfl rfl ?_
    refine AOps.lk (LOp.pkT (a := .v _) rfl (by first | rfl | assumption) rfl) rfl rfl ?_
    refine AOps.nil ?_
    refine andThen_normal ?_
    refine AWP.condT rfl ?_
    refine AWP.seq ?_
    refine AWP.region ?_
    refine AOps.lk (LOp.asg (a := .v _) rfl) rfl rfl ?_
    refine AOps.nil ?_
    refine andThen_normal ?_
    refine AWP.ret (andThen_ret (?_))
    refine ⟨.inr rfl, Outs.val Tryz.results12 rfl rfl ?_⟩
    (refine vb_eq ?_; unfold refB badP domB; simp_all; done)
  · skip
    refine AOps.lk (LOp.mv (a := .v _) rfl) rfl rfl ?_
    refine AOps.lk (LOp.plain rfl (fun _ _ => nofun) (fun _ => rfl)) rfl rfl ?_
    refine AOps.lk (LOp.pickB rfl rfl rfl) rfl rfl ?_
    refine AOps.lk (LOp.mv (a := .v _) rfl) rfl rfl ?_
    refine AOps.splitB 12 rfl (fun hg12 => ?_) (fun hg12 => ?_)
    · skip
      refine AOps.sk rfl rfl ?_
      refine AOps.sk rfl rfl ?_
      refine AOps.sk rfl rfl ?_
      refine AOps.sk rfl rfl ?_
      refine AOps.lk (LOp.pkT (a := .v _) rfl (by first | rfl | assumption) rfl) rfl rfl ?_
      refine AOps.lk (LOp.mv (a := .v _) rfl) rfl rfl ?_
      refine AOps.sk rfl rfl ?_
      refine AOps.sk rfl rfl ?_
      refine AOps.sk rfl rfl ?_
      refine AOps.sk rfl rfl ?_
      refine AOps.sk rfl rfl ?_
      refine AOps.lk (LOp.pkT (a := .v _) rfl (by first | rfl | assumption) rfl) rfl rfl ?_
      refine AOps.lk (LOp.mv (a := .v _) rfl) rfl rfl ?_
      refine AOps.sk rfl rfl ?_
      refine AOps.sk rfl rfl ?_
      refine AOps.sk rfl rfl ?_
      refine AOps.sk rfl rfl ?_
      refine AOps.lk (LOp.pkT (a := .v _) rfl (by first | rfl | assumption) rfl) rfl rfl ?_
      refine AOps.lk (LOp.mv (a := .v _) rfl) rfl rfl ?_
      refine AOps.sk rfl rfl ?_
      refine AOps.sk rfl rfl ?_
      refine AOps.sk rfl rfl ?_
      refine AOps.sk rfl rfl ?_
      refine AOps.lk (LOp.pkT (a := .v _) rfl (by first | rfl | assumption) rfl) rfl rfl ?_
      refine AOps.nil ?_
      refine andThen_normal ?_
      refine AWP.condT rfl ?_
      refine AWP.seq ?_
      refine AWP.region ?_
      refine AOps.lk (LOp.asg (a := .v _) rfl) rfl rfl ?_
      refine AOps.nil ?_
      refine andThen_normal ?_
      refine AWP.ret (andThen_ret (?_))
      refine ⟨.inr rfl, Outs.val Tryz.results12 rfl rfl ?_⟩
      (refine vb_eq ?_; unfold refB badP domB; simp_all; done)
    · skip
      refine AOps.lk (LOp.fieldAddr fi25_1 rfl rfl rfl rfl rfl) rfl rfl ?_
      refine AOps.lk (LOp.load1 row3 rfl rfl rfl rfl rfl) rfl rfl ?_
      refine AOps.lk (LOp.mv (a := .v _) rfl) rfl rfl ?_
      refine AOps.lk (LOp.plain rfl (fun _ _ => nofun) (fun _ => rfl)) rfl rfl ?_
      refine AOps.lk (LOp.pickB rfl rfl rfl) rfl rfl ?_
      refine AOps.lk (LOp.mv (a := .v _) rfl) rfl rfl ?_
      refine AOps.splitB 18 rfl (fun hg18 => ?_) (fun hg18 => ?_)
      · skip
        refine AOps.sk rfl rfl ?_
        refine AOps.sk rfl rfl ?_
        refine AOps.sk rfl rfl ?_
        refine AOps.sk rfl rfl ?_
        refine AOps.sk rfl rfl ?_
        refine AOps.lk (LOp.pkT (a := .v _) rfl (by first | rfl | assumption) rfl) rfl rfl ?_
        refine AOps.lk (LOp.mv (a := .v _) rfl) rfl rfl ?_
        refine AOps.sk rfl rfl ?_
        refine AOps.sk rfl rfl ?_
        refine AOps.sk rfl rfl ?_
        refine AOps.sk rfl rfl ?_
        refine AOps.lk (LOp.pkT (a := .v _) rfl (by first | rfl | assumption) rfl) rfl rfl ?_
        refine AOps.lk (LOp.mv (a := .v _) rfl) rfl rfl ?_
        refine AOps.sk rfl rfl ?_
        refine AOps.sk rfl rfl ?_
        refine AOps.sk rfl rfl ?_
        refine AOps.sk rfl rfl ?_
        refine AOps.lk (LOp.pkT (a := .v _) rfl (by first | rfl | assumption) rfl) rfl rfl ?_
        refine AOps.nil ?_
        refine andThen_normal ?_
        refine AWP.condT rfl ?_
        refine AWP.seq ?_
        refine AWP.region ?_
        refine AOps.lk (LOp.asg (a := .v _) rfl) rfl rfl ?_
        refine AOps.nil ?_
        refine andThen_normal ?_
        refine AWP.ret (andThen_ret (?_))
        refine ⟨.inr rfl, Outs.val Tryz.results12 rfl rfl ?_⟩
        (refine vb_eq ?_; unfold refB badP domB; simp_all; done)
      · skip
        refine AOps.lk (LOp.fieldAddr fi25_2 rfl rfl rfl rfl rfl) rfl rfl ?_
        refine AOps.lk (LOp.load1 row22 rfl rfl rfl rfl rfl) rfl rfl ?_
        refine AOps.lk (LOp.lenT rfl Tryz.underlying22 rfl) rfl rfl ?_
        refine AOps.lk (LOp.mv (a := .v _) rfl) rfl rfl ?_
        refine AOps.lk (LOp.plain rfl (fun _ _ => nofun) (fun _ => rfl)) rfl rfl ?_
        refine AOps.lk (LOp.pickB rfl rfl rfl) rfl rfl ?_
        refine AOps.lk (LOp.mv (a := .v _) rfl) rfl rfl ?_
        refine AOps.splitB 25 rfl (fun hg25 => ?_) (fun hg25 => ?_)
        · skip
          refine AOps.sk rfl rfl ?_
          refine AOps.sk rfl rfl ?_
          refine AOps.sk rfl rfl ?_
          refine AOps.sk rfl rfl ?_
          refine AOps.lk (LOp.pkT (a := .v _) rfl (by first | rfl | assumption) rfl) rfl rfl ?_
          refine AOps.lk (LOp.mv (a := .v _) rfl) rfl rfl ?_
          refine AOps.sk rfl rfl ?_
          refine AOps.sk rfl rfl ?_
          refine AOps.sk rfl rfl ?_
          refine AOps.sk rfl rfl ?_
          refine AOps.lk (LOp.pkT (a := .v _) rfl (by first | rfl | assumption) rfl) rfl rfl ?_
          refine AOps.nil ?_
          refine andThen_normal ?_
          refine AWP.condT rfl ?_
          refine AWP.seq ?_
          refine AWP.region ?_
          refine AOps.lk (LOp.asg (a := .v _) rfl) rfl rfl ?_
          refine AOps.nil ?_
          refine andThen_normal ?_
          refine AWP.ret (andThen_ret (?_))
          refine ⟨.inr rfl, Outs.val Tryz.results12 rfl rfl ?_⟩
          (refine vb_eq ?_; unfold refB badP domB; simp_all; done)
        · skip
          refine AOps.lk (LOp.fieldAddr fi25_2 rfl rfl rfl rfl rfl) rfl rfl ?_
          refine AOps.lk (LOp.load1 row22 rfl rfl rfl rfl rfl) rfl rfl ?_
          refine AOps.lk (LOp.lenT rfl Tryz.underlying22 rfl) rfl rfl ?_
          refine AOps.lk (LOp.plain rfl (fun _ _ => nofun) (fun _ => rfl)) rfl rfl ?_
          refine AOps.lk (LOp.pickB rfl rfl rfl) rfl rfl ?_
          refine AOps.lk (LOp.mv (a := .v _) rfl) rfl rfl ?_
          refine AOps.splitB 31 rfl (fun hg31 => ?_) (fun hg31 => ?_)
          · skip
            refine AOps.sk rfl rfl ?_
            refine AOps.sk rfl rfl ?_
            refine AOps.sk rfl rfl ?_
            refine AOps.sk rfl rfl ?_
            refine AOps.lk (LOp.pkT (a := .v _) rfl (by first | rfl | assumption) rfl) rfl rfl ?_
            refine AOps.nil ?_
            refine andThen_normal ?_
            refine AWP.condT rfl ?_
            refine AWP.seq ?_
            refine AWP.region ?_
            refine AOps.lk (LOp.asg (a := .v _) rfl) rfl rfl ?_
            refine AOps.nil ?_
            refine andThen_normal ?_
            refine AWP.ret (andThen_ret (?_))
            refine ⟨.inr rfl, Outs.val Tryz.results12 rfl rfl ?_⟩
            (refine vb_eq ?_; unfold refB badP domB; simp_all; intros; omega)
          · skip
            refine AOps.lk (LOp.fieldAddr fi25_3 rfl rfl rfl rfl rfl) rfl rfl ?_
            refine AOps.lk (LOp.load1 row23 rfl rfl rfl rfl rfl) rfl rfl ?_
            refine AOps.lk (LOp.lenT rfl Tryz.underlying23 rfl) rfl rfl ?_
            refine AOps.lk (LOp.plain rfl (fun _ _ => nofun) (fun _ => rfl)) rfl rfl ?_
            refine AOps.lk (LOp.pickB rfl rfl rfl) rfl rfl ?_
            refine AOps.nil ?_
            refine andThen_normal ?_
            refine AWP.cond rfl (fun hc36 => ?_) (fun hc36 => ?_)
            · skip
              refine AWP.seq ?_
              refine AWP.region ?_
              refine AOps.lk (LOp.asg (a := .v _) rfl) rfl rfl ?_
              refine AOps.nil ?_
              refine andThen_normal ?_
              refine AWP.ret (andThen_ret (?_))
              refine ⟨.inr rfl, Outs.val Tryz.results12 rfl rfl ?_⟩
              (refine vb_eq ?_; unfold refB badP domB; simp_all; done)
            · skip
              refine AWP.skip ?_
              refine andThen_normal ?_
              refine AWP.seq ?_
              refine AWP.seq ?_
              refine AWP.region ?_
              refine AOps.lk (LOp.fieldAddr fi25_2 rfl rfl rfl rfl rfl) rfl rfl ?_
              refine AOps.lk (LOp.load1 row22 rfl rfl rfl rfl rfl) rfl rfl ?_
              refine AOps.lk (LOp.call bod31 rfl (anyv_p p.vars hp.vars)) rfl rfl ?_
              refine AOps.nil ?_
              refine andThen_normal ?_
              refine AWP.cond rfl (fun hc39 => ?_) (fun hc39 => ?_)
              · skip
                refine AWP.seq ?_
                refine AWP.region ?_
                refine AOps.lk (LOp.asg (a := .v _) rfl) rfl rfl ?_
                refine AOps.nil ?_
                refine andThen_normal ?_
                refine AWP.ret (andThen_ret (?_))
                refine ⟨.inr rfl, Outs.val Tryz.results12 rfl rfl ?_⟩
                (refine vb_eq ?_; unfold refB badP domB; simp_all; done)
              · skip
                refine AWP.skip ?_
                refine andThen_normal ?_
                refine AWP.seq ?_
                refine AWP.region ?_
                refine AOps.lk (LOp.fieldAddr fi25_3 rfl rfl rfl rfl rfl) rfl rfl ?_
                refine AOps.lk (LOp.load1 row23 rfl rfl rfl rfl rfl) rfl rfl ?_
                refine AOps.lk (LOp.mkFn rfl) rfl rfl ?_
                refine AOps.lk (LOp.callB [0] bod34 rfl (fun i h h' => match i, h with | 0, _ => FzP.pure rfl | 1, _ => FzP.clo (.cons (FzP.ptrL (by decide) rfl rfl (FzL.pure rfl)) .nil)) (anyc_p p hp hr)) rfl rfl ?_
                refine AOps.lk (LOp.plain rfl (fun _ _ => nofun) (fun _ => rfl)) rfl rfl ?_
                refine AOps.lk (LOp.asg (a := .v _) rfl) rfl rfl ?_
                refine AOps.nil ?_
                refine andThen_normal ?_
                refine AWP.ret (?_)
                refine ⟨.inr rfl, Outs.val Tryz.results12 rfl rfl ?_⟩
                (refine vb_eq ?_; unfold refB badP domB; simp_all; done)

set_option maxRecDepth 100000 in
set_option maxHeartbeats 4000000 in
theorem law_p (p : PPred) (v : Int) (hp : p.Fits) (hr : p.R) : PCall Tryz.prog 4 [.agg (prA p), .v (.int .i64 v)] (.v (.bool true)) := by
  have hpv := hp.vars
  have hpc := hp.cls
  refine PCall.of_body Tryz.func4 rfl Tryz.ntmps4 (Nat.le_of_ble_eq_true rfl) ?_
  refine AWP.seq ?_
  refine AWP.region ?_
  refine AOps.nw (LOp.bx rfl) rfl rfl 1 rfl ?_
  refine AOps.lk (LOp.asg (a := .v _) rfl) rfl rfl ?_
  refine AOps.nil ?_
  refine andThen_normal ?_
  refine AWP.seq ?_
  refine AWP.seq ?_
  refine AWP.region ?_
  refine AOps.lk (LOp.call bod5 rfl awake_p) rfl rfl ?_
  refine AOps.lk (LOp.plain rfl (fun _ _ => nofun) (fun _ => rfl)) rfl rfl ?_
  refine AOps.nil ?_
  refine andThen_normal ?_
  refine AWP.condF rfl ?_
  refine AWP.skip ?_
  refine andThen_normal ?_
  refine AWP.seq ?_
  refine AWP.seq ?_
  refine AWP.region ?_
  refine AOps.lk (LOp.fieldAddr fi25_2 rfl rfl rfl rfl rfl) rfl rfl ?_
  refine AOps.lk (LOp.load1 row22 rfl rfl rfl rfl rfl) rfl rfl ?_
  refine AOps.lk (LOp.lenT rfl Tryz.underlying22 rfl) rfl rfl ?_
  refine AOps.lk (LOp.plain rfl (fun _ _ => nofun) (fun _ => rfl)) rfl rfl ?_
  refine AOps.lk (LOp.mv (a := .v _) rfl) rfl rfl ?_
  refine AOps.splitB 13 rfl (fun hg13 => ?_) (fun hg13 => ?_)
  · skip
    refine AOps.sk rfl rfl ?_
    refine AOps.sk rfl rfl ?_
    refine AOps.sk rfl rfl ?_
    refine AOps.sk rfl rfl ?_
    refine AOps.lk (LOp.pkT (a := .v _) rfl (by first | rfl | assumption) rfl) rfl rfl ?_
    refine AOps.nil ?_
    refine andThen_normal ?_
    refine AWP.condT rfl ?_
    refine AWP.seq ?_
    refine AWP.region ?_
    refine AOps.lk (LOp.asg (a := .v _) rfl) rfl rfl ?_
    refine AOps.nil ?_
    refine andThen_normal ?_
    refine AWP.ret (andThen_ret (?_))
    refine ⟨.inr rfl, Outs.val Tryz.results4 rfl rfl ?_⟩
    rfl
  · skip
    refine AOps.lk (LOp.fieldAddr fi25_3 rfl rfl rfl rfl rfl) rfl rfl ?_
    refine AOps.lk (LOp.load1 row23 rfl rfl rfl rfl rfl) rfl rfl ?_
    refine AOps.lk (LOp.lenT rfl Tryz.underlying23 rfl) rfl rfl ?_
    refine AOps.lk (LOp.plain rfl (fun _ _ => nofun) (fun _ => rfl)) rfl rfl ?_
    refine AOps.lk (LOp.pickB rfl rfl rfl) rfl rfl ?_
    refine AOps.nil ?_
    refine andThen_normal ?_
    refine AWP.cond rfl (fun hc18 => ?_) (fun hc18 => ?_)
    · skip
      refine AWP.seq ?_
      refine AWP.region ?_
      refine AOps.lk (LOp.asg (a := .v _) rfl) rfl rfl ?_
      refine AOps.nil ?_
      refine andThen_normal ?_
      refine AWP.ret (andThen_ret (?_))
      refine ⟨.inr rfl, Outs.val Tryz.results4 rfl rfl ?_⟩
      rfl
    · skip
      have hsm : p.vars.length ≤ 70 ∧ p.cls.length ≤ 6 := by simp at hg13 hc18; omega
      refine AWP.skip ?_
      refine andThen_normal ?_
      refine AWP.seq ?_
      refine AWP.seq ?_
      refine AWP.region ?_
      refine AOps.lk (LOp.fieldAddr fi25_3 rfl rfl rfl rfl rfl) rfl rfl ?_
      refine AOps.lk (LOp.load1 row23 rfl rfl rfl rfl rfl) rfl rfl ?_
      refine AOps.lk (LOp.lenT rfl Tryz.underlying23 rfl) rfl rfl ?_
      refine AOps.lk (LOp.mv (a := .v _) rfl) rfl rfl ?_
      refine AOps.nil ?_
      refine andThen_normal ?_
      refine AWP.block ?_
      refine AWP.loopC (fun n s => ∃ k : Nat, n = (p.cls.length - k) ∧ s = ⟨frameL [(1, .v (.int .i64 v)), (2, .ptr 0 0 0), (20, .tree 7 (p.cls.map clA)), (21, .v (.int .i64 ((p.cls.length : Nat) : Int))), (22, .v (.int .i64 ((k : Nat) : Int)))], heapL [(0, ⟨0, prA p, 0, false⟩)], 1⟩ ∧ (k ≤ p.cls.length ∧ ∀ j, j < k → (fun j => fewB (p.cls.getD j default)) j = true)) (n := (p.cls.length - 0)) (s1 := ⟨frameL [(1, .v (.int .i64 v)), (2, .ptr 0 0 0), (20, .tree 7 (p.cls.map clA)), (21, .v (.int .i64 ((p.cls.length : Nat) : Int))), (22, .v (.int .i64 ((0 : Nat) : Int)))], heapL [(0, ⟨0, prA p, 0, false⟩)], 1⟩) (Canon.of (.cons rfl rfl (.cons rfl rfl (.cons rfl rfl (.cons rfl rfl (.cons rfl rfl .nil))))) (.cons rfl rfl rfl .nil)) ⟨0, rfl, rfl, ⟨Nat.zero_le _, fun j h => absurd h (Nat.not_lt_zero j)⟩⟩ ?_
      rintro n s ⟨k, rfl, rfl, hinv⟩
      obtain ⟨hk, hj⟩ := hinv
      refine AWP.seq ?_
      refine AWP.region ?_
      refine AOps.lk (LOp.plain rfl (fun _ _ => nofun) (fun _ => rfl)) rfl rfl ?_
      refine AOps.nil ?_
      refine andThen_normal ?_
      refine AWP.seq ?_
      refine AWP.cond rfl (fun hc23 => ?_) (fun hc23 => ?_)
      · skip
        have hlt : k < p.cls.length := Int.ofNat_lt.1 (of_decide_eq_true hc23)
        refine AWP.skip ?_
        refine andThen_normal ?_
        refine AWP.seq ?_
        refine AWP.block ?_
        refine AWP.seq ?_
        refine AWP.region ?_
        refine AOps.lk (LOp.indexT Tryz.underlying23 sz35 rfl rfl (by first | assumption | omega)) rfl rfl ?_
        refine AOps.lk (LOp.ldTN row35 rfl rfl) rfl rfl ?_
        refine AOps.nw (LOp.al zr35 rfl) rfl rfl 2 rfl ?_
        refine AOps.wr (LOp.st sz35 rfl rfl rfl rfl rfl rfl rfl rfl) rfl rfl rfl ?_
        refine AOps.nil ?_
        refine andThen_normal ?_
        refine AWP.seq ?_
        refine AWP.region ?_
        refine AOps.lk (LOp.ldN row35 rfl rfl rfl rfl rfl) rfl rfl ?_
        refine AOps.lk (LOp.call bod11 rfl (few_p p.cls[k] (hp.each _ (List.getElem_mem _)))) rfl rfl ?_
        refine AOps.lk (LOp.plain rfl (fun _ _ => nofun) (fun _ => rfl)) rfl rfl ?_
        refine AOps.nil ?_
        refine andThen_normal ?_
        refine AWP.cond rfl (fun hc28 => ?_) (fun hc28 => ?_)
        · skip
          refine AWP.seq ?_
          refine AWP.region ?_
          refine AOps.lk (LOp.asg (a := .v _) rfl) rfl rfl ?_
          refine AOps.nil ?_
          refine andThen_normal ?_
          refine AWP.ret (inBlk_ret (andThen_ret (andThen_ret (inBlk_ret (andThen_ret (?_))))))
          refine ⟨.inr rfl, Outs.val Tryz.results4 rfl rfl ?_⟩
          rfl
        · skip
          refine AWP.skip ?_
          refine inBlk_normal ?_
          refine andThen_normal ?_
          refine AWP.region ?_
          refine AOps.lk (LOp.addI rfl rfl (by omega) (by omega)) rfl rfl ?_
          refine AOps.lk (LOp.mv (a := .v _) rfl) rfl rfl ?_
          refine AOps.nil ?_
          refine andThen_normal ?_
          refine ⟨(p.cls.length - (k + 1)), ⟨frameL [(1, .v (.int .i64 v)), (2, .ptr 0 0 0), (20, .tree 7 (p.cls.map clA)), (21, .v (.int .i64 ((p.cls.length : Nat) : Int))), (22, .v (.int .i64 (((k + 1) : Nat) : Int)))], heapL [(0, ⟨0, prA p, 0, false⟩)], 1⟩, by omega, (Canon.of (.cons rfl rfl (.cons rfl rfl (.cons rfl rfl (.cons rfl rfl (.cons rfl rfl .nil))))) (.cons rfl rfl rfl .nil)), k + 1, rfl, rfl, ?_⟩
          refine ⟨by omega, fun j h => ?_⟩
          rcases Nat.lt_succ_iff_lt_or_eq.1 h with h | rfl
          · exact hj j h
          · show fewB (p.cls.getD _ default) = true
            rw [getD_at hlt]; simpa using hc28
      · skip
        have hge : ¬ k < p.cls.length := fun h => of_decide_eq_false hc23 (Int.ofNat_lt.2 h)
        have hall := allN_end hk hge hj
        have hok : p.Ok := ⟨by omega, by omega, fun c hc => by
          obtain ⟨j, hj, rfl⟩ := List.getElem_of_mem hc
          have := allN_iff.1 hall j hj
          simp only [getD_at hj] at this
          exact few_ok this⟩
        refine AWP.exit (andThen_exit (andThen_exit (inBlk_exit ?_)))
        refine andThen_normal ?_
        refine AWP.seq ?_
        refine AWP.regD mixed ?_
        refine SeqC.lk (LOp.ldN row25 rfl rfl rfl rfl rfl) rfl rfl ?_
        refine SeqC.lk (LOp.mv (a := .v _) rfl) rfl rfl ?_
        refine SeqC.lk (LOp.call bod12 rfl (pred_p p v hok hr)) rfl rfl ?_
        refine SeqC.lk (LOp.ldN row25 rfl rfl rfl rfl rfl) rfl rfl ?_
        refine SeqC.lk (LOp.mv (a := .v _) rfl) rfl rfl ?_
        refine SeqC.lk (LOp.call bod13 rfl (ref_p p v hok)) rfl rfl ?_
        refine SeqC.lk (LOp.eqB rfl rfl Tryz.underlying4) rfl rfl ?_
        refine SeqC.lk (LOp.asg (a := .v _) rfl) rfl rfl ?_
        refine SeqC.nil ⟨by kernel_rfl, ?_⟩
        refine andThen_normal ?_
        refine AWP.ret (?_)
        refine ⟨.inr rfl, Outs.val Tryz.results4 rfl rfl ?_⟩
        exact vb_eq (by simp)
end Go.Proofs.YtgknefkobpnjaaaGreatDoor
/- From the form's data to plain values. -/
namespace Go.Proofs.YtgknefkobpnjaaaGreatDoor
open Go.RowKit Go.ChangeShapes Go.WideShapes Go.Deep
set_option linter.unusedVariables false
set_option linter.unusedSimpArgs false
set_option maxRecDepth 100000

def LtB (n : Nat) : Nat → Prop := fun k => k < n
/-- Cells read as plain values. -/
def TRL (T : Nat → Prop) (w : World) (xs : List AV) (cs : List Value) : Prop := xs.length = cs.length ∧ ∀ i (h : i < xs.length) (h' : i < cs.length), TR T w xs[i] cs[i]
theorem TRL.one {T : Nat → Prop} {w : World} {a : AV} {x : Value} (h : TR T w a x) : TRL T w [a] [x] := ⟨rfl, fun i h1 h2 => by
  have : i = 0 := by simp at h1; omega
  subst this; exact h⟩
theorem TRL.append {T : Nat → Prop} {w : World} {xs ys : List AV} {cs ds : List Value} (h1 : TRL T w xs cs) (h2 : TRL T w ys ds) : TRL T w (xs ++ ys) (cs ++ ds) := by
  refine ⟨by simp [h1.1, h2.1], fun i h h' => ?_⟩
  have e := h1.1
  by_cases hi : i < xs.length
  · rw [List.getElem_append_left hi, List.getElem_append_left (by omega)]
    exact h1.2 i hi (by omega)
  · rw [List.getElem_append_right (by omega), List.getElem_append_right (by omega)]
    simp only [← e]
    exact h2.2 _ _ _
theorem TRL.done {T : Nat → Prop} {w : World} {cs : List Value} {n : Nat} (h : cs.length = n) : TRL T w [] (cs.drop n) := by
  rw [← h, List.drop_length]; exact ⟨rfl, fun i h => absurd h (by simp)⟩
theorem TRL.piece {T : Nat → Prop} {w : World} {xs ys : List AV} {cs : List Value} {o m : Nat} (h1 : TRL T w xs ((cs.drop o).take m)) (h2 : TRL T w ys (cs.drop (o + m))) : TRL T w (xs ++ ys) (cs.drop o) := by
  have := h1.append h2
  rwa [← List.drop_drop, List.take_append_drop] at this
theorem TRL.val {T : Nat → Prop} {w : World} {cs : List Value} {x : Value} (h : cs = [x]) : TRL T w [.v x] cs := by rw [h]; exact .one (.v x)

/-- Whatever type t's cells read as, within the reach, they read as some 'a'. -/
def OpenR {α : Type} (P : Program) (R : α → List AV) (Wf : α → Prop) (t : TypeId) : Prop :=
  ∀ {H : Type} (enc : TypeId × Value → H) (W : World) (fuel : Nat) (cs : List Value) (d : DataW H) (ps : List MemPlace),
    DataW.trod enc P W 0 (fun _ => true) true fuel t cs = some (d, ps) → (∀ m ∈ d.weights P t, m ≤ 140737488351232) → ∃ a, Wf a ∧ TRL (LtB W.heap.size) W (R a) cs

theorem weightsAll_mem {H : Type} {P : Program} {e : TypeId} : ∀ {ds : List (DataW H)} {d : DataW H}, d ∈ ds → ∀ m ∈ d.weights P e, m ∈ DataW.weightsAll P e ds
  | x :: r, d, h, m, hm => by
    simp only [DataW.weightsAll, List.mem_append]
    rcases List.mem_cons.1 h with rfl | h
    · exact .inl hm
    · exact .inr (weightsAll_mem h m hm)
theorem choose_lt' {α : Type} [Inhabited α] {m : Nat} {p : Nat → α → Prop} (h : ∀ i, i < m → ∃ y, p i y) : ∃ f : Nat → α, ∀ i, i < m → p i (f i) := by
  refine ⟨fun i => if h' : i < m then Classical.choose (h i h') else default, fun i hi => ?_⟩
  simp only [hi, dif_pos]
  exact Classical.choose_spec (h i hi)

theorem OpenR.slice {α : Type} {P : Program} {R : α → List AV} {Wf : α → Prop} {t e q : Nat} (hR : OpenR P R Wf e) (ht : P.underlying t = some (.slice e)) (hn : P.cellsOf e = q) (hq : ∀ a, (R a).length = q) (hpos : 1 ≤ q) (hb : 1 ≤ P.bytesOf e) :
    OpenR P (fun l : List α => [.tree q (l.map R)]) (fun l => l.length ≤ 140737488355328 ∧ ∀ a ∈ l, Wf a) t := by
  intro H enc W fuel cs d ps h hw
  rcases open_slice ht h with ⟨rfl, _⟩ | ⟨a, len, cap, m, n, D, Pl, rfl, _, hl, hm, hmm, hx, hi⟩
  · exact ⟨[], ⟨Nat.zero_le _, fun a h => by cases h⟩, .one (.tree0 (Nat.zero_le _))⟩
  · simp only [if_true] at hmm
    subst hmm
    simp only [Prod.mk.injEq] at hx
    obtain ⟨rfl, _⟩ := hx
    simp only [DataW.weights, ht, List.length_map, List.length_range, List.mem_cons, List.mem_append] at hw
    have hcap : (len + (m - len)) * P.bytesOf e ≤ 140737488351232 := hw _ (.inl rfl)
    have hlen : len ≤ 140737488355328 := by
      have : len * 1 ≤ (len + (m - len)) * P.bytesOf e := Nat.mul_le_mul (by omega) hb
      omega
    have hex : ∀ i, i < len → ∃ (y : α × List Value), (Wf y.1 ∧ TRL (LtB W.heap.size) W (R y.1) y.2) ∧ W.cells? 0 (a.add (i * P.cellsOf e)) (P.cellsOf e) = some y.2 := by
      intro i hil
      obtain ⟨cs', hc, ht'⟩ := hi i (by omega)
      obtain ⟨y, hy⟩ := hR enc W n cs' (D i) (Pl i) ht' (fun j hj => hw j (.inr (.inl (weightsAll_mem (List.mem_map.2 ⟨i, by simpa using hil, rfl⟩) j hj))))
      exact ⟨(y, cs'), hy, hc⟩
    by_cases h0 : len = 0
    · subst h0
      exact ⟨[], ⟨Nat.zero_le _, fun a h => by cases h⟩, .one (.tree0 hm)⟩
    · obtain ⟨y0, hy0⟩ := hex 0 (by omega)
      have : Inhabited (α × List Value) := ⟨y0⟩
      obtain ⟨f, hf⟩ := choose_lt' hex
      obtain ⟨b, off, spot⟩ := a
      have hc0 := World.cells?_some hy0.2
      have hcell0 := hc0.2.2 0 (by rw [hn]; exact hpos)
      have hsome : ∃ v0, W.cell? ((⟨b, off, spot⟩ : Addr).add (0 * P.cellsOf e)) = some v0 := by
        have hlen0 : 0 < y0.2.length := by rw [hc0.2.1, hn]; exact hpos
        refine ⟨y0.2[0], ?_⟩
        have := hcell0
        rw [List.getElem?_eq_getElem hlen0] at this
        simpa [Addr.add] using this
      obtain ⟨v0, hv0⟩ := hsome
      have hspot : spot = none := by simpa [Addr.add] using World.cell?_spot hv0
      subst hspot
      have hblk : b < W.heap.size := by
        have := World.block_lt_of_cell? W _ hv0
        simpa [Addr.add] using this
      refine ⟨(List.range len).map fun i => (f i).1, ⟨by simpa using hlen, fun a ha => ?_⟩, .one ?_⟩
      · obtain ⟨i, hi', rfl⟩ := List.mem_map.1 ha
        exact (hf i (by simpa using hi')).1.1
      · have hlr : (((List.range len).map fun i => (f i).1).map R).length = len := by simp
        have hrow : ∀ k (h : k < (((List.range len).map fun i => (f i).1).map R).length), (((List.range len).map fun i => (f i).1).map R)[k] = R (f k).1 := fun k h => by simp
        have hT := TR.tree (T := LtB W.heap.size) (w := W) (n := q) (xs := ((List.range len).map fun i => (f i).1).map R) (b := b) (off := off) (cap := m) (fun k j => (f k).2.getD j undef) hblk (by rw [hlr]; exact hl) hm (by rw [hlr]; exact hlen)
          (fun k h => by rw [hrow k h]; exact hq _)
          (fun k j hk hj => by
            rw [hlr] at hk
            have hck := World.cells?_some (hf k hk).2
            have hjl : j < P.cellsOf e := by rw [hn]; exact hj
            have hg := hck.2.2 j hjl
            rw [add_add, hn] at hg
            have hl2 : j < (f k).2.length := by rw [hck.2.1]; exact hjl
            have e1 : (⟨b, off, none⟩ : Addr).add (k * q + j) = ⟨b, off + k * q + j, none⟩ := by
              by_cases hz : k * q + j = 0
              · have h1 : k * q = 0 := by omega
                have h2 : j = 0 := by omega
                rw [h1, h2]; simp [Addr.add]
              · unfold Addr.add
                rw [if_neg hz]
                simp [Nat.add_assoc]
            rw [← e1, hg]
            simp [List.getD, hl2])
          (fun k h j h' => by
            have hk : k < len := by rw [hlr] at h; exact h
            have hr := (hf k hk).1.2
            have hjr : j < (R (f k).1).length := by rw [hrow k h] at h'; exact h'
            have hl2 : j < (f k).2.length := by rw [← hr.1]; exact hjr
            have := hr.2 j hjr hl2
            simp only [hrow k h]
            rw [getD_at hl2]
            exact this)
        rw [hlr] at hT
        exact hT

/-- A struct, field by field. -/
theorem open_struct {P : Program} {t : TypeId} {fs : Array Field} (ht : P.underlying t = some (.struct fs)) {H : Type} {enc : TypeId × Value → H} {W : World} {fuel : Nat} {cs : List Value} {d : DataW H} {ps : List MemPlace}
    (h : DataW.trod enc P W 0 (fun _ => true) true fuel t cs = some (d, ps)) (hw : ∀ m ∈ d.weights P t, m ≤ 140737488351232) :
    ∃ n, cs.length = P.cellsOf t ∧ ∀ (i : Nat) (f : Field), fs[i]? = some f →
      ∃ (d' : DataW H) (ps' : List MemPlace), DataW.trod enc P W 0 (fun _ => true) true n f.type ((cs.drop f.offset).take (P.cellsOf f.type)) = some (d', ps') ∧ ∀ q ∈ d'.weights P f.type, q ≤ 140737488351232 := by
  obtain ⟨xs, n, _, hx, hlen, hxl, hf⟩ := DataW.trod_struct ht h
  simp only [Prod.mk.injEq] at hx
  obtain ⟨rfl, _⟩ := hx
  refine ⟨n, hlen, fun i f hi => ?_⟩
  have hil : i < fs.size := (Array.getElem?_eq_some_iff.1 hi).1
  have hx' : xs[i]? = some (xs[i]'(by omega)) := List.getElem?_eq_getElem (by omega)
  have h1 := hf i f hi
  rw [hx'] at h1
  refine ⟨_, _, h1, fun q hq => hw q ?_⟩
  simp only [DataW.weights, ht]
  refine DataW.weights_mem_each (j := i) (t := f.type) (d := (xs[i]'(by omega)).1) ?_ ?_ q hq
  · simp only [List.getElem?_map, Array.getElem?_toList, hi, Option.map_some]
  · simp only [List.getElem?_map, hx', Option.map_some]
theorem openR_int {P : Program} {t : TypeId} (ht : P.underlying t = some (.int .i64)) : OpenR P iA (fun x => -9223372036854775808 ≤ x ∧ x ≤ 9223372036854775807) t := by
  intro H enc W fuel cs d ps h hw
  obtain ⟨x, h1, _, h2⟩ := DataW.trod_int ht h
  exact ⟨x, bounds_i64 h2, .val h1⟩
theorem openR_bool {P : Program} {t : TypeId} (ht : P.underlying t = some .bool) : OpenR P (fun b : Bool => [.v (.bool b)]) (fun _ => True) t := by
  intro H enc W fuel cs d ps h hw
  obtain ⟨x, h1, _⟩ := DataW.trod_bool ht h
  exact ⟨x, trivial, .val h1⟩
theorem openR_str {P : Program} {t : TypeId} (ht : P.underlying t = some .string) : OpenR P (fun s : ByteArray => [.v (.string s)]) (fun s => s.size ≤ 140737488355328) t := by
  intro H enc W fuel cs d ps h hw
  obtain ⟨x, h1, h2, _⟩ := DataW.trod_string ht h
  simp only [Prod.mk.injEq] at h2
  obtain ⟨rfl, _⟩ := h2
  refine ⟨x, ?_, .val h1⟩
  have := hw x.data.toList.length (by simp [DataW.weights])
  have e : x.data.toList.length = x.size := by simp
  omega
theorem cl2 : Tryz.prog.cellsOf 2 = 1 := by kernel_rfl
theorem cl3 : Tryz.prog.cellsOf 3 = 1 := by kernel_rfl
theorem cl4 : Tryz.prog.cellsOf 4 = 1 := by kernel_rfl
theorem cl9 : Tryz.prog.cellsOf 9 = 1 := by kernel_rfl
theorem cl26 : Tryz.prog.cellsOf 26 = 2 := by kernel_rfl
theorem cl111 : Tryz.prog.cellsOf 111 = 2 := by kernel_rfl
theorem cl77 : Tryz.prog.cellsOf 77 = 1 := by kernel_rfl
theorem cl79 : Tryz.prog.cellsOf 79 = 2 := by kernel_rfl
theorem cl81 : Tryz.prog.cellsOf 81 = 4 := by kernel_rfl
theorem cl84 : Tryz.prog.cellsOf 84 = 3 := by kernel_rfl
theorem cl52 : Tryz.prog.cellsOf 52 = 4 := by kernel_rfl
theorem cl44 : Tryz.prog.cellsOf 44 = 5 := by kernel_rfl
theorem cl35 : Tryz.prog.cellsOf 35 = 7 := by kernel_rfl
theorem cl22 : Tryz.prog.cellsOf 22 = 1 := by kernel_rfl
theorem cl23 : Tryz.prog.cellsOf 23 = 1 := by kernel_rfl
theorem cl29 : Tryz.prog.cellsOf 29 = 1 := by kernel_rfl
theorem cl30 : Tryz.prog.cellsOf 30 = 1 := by kernel_rfl
theorem cl31 : Tryz.prog.cellsOf 31 = 1 := by kernel_rfl
theorem cl32 : Tryz.prog.cellsOf 32 = 1 := by kernel_rfl
theorem cl33 : Tryz.prog.cellsOf 33 = 1 := by kernel_rfl
theorem cl25 : Tryz.prog.cellsOf 25 = 4 := by kernel_rfl
theorem by3_ : 1 ≤ Tryz.prog.bytesOf 3 := Nat.le_of_ble_eq_true (by kernel_rfl)
theorem by26_ : 1 ≤ Tryz.prog.bytesOf 26 := Nat.le_of_ble_eq_true (by kernel_rfl)
theorem by111_ : 1 ≤ Tryz.prog.bytesOf 111 := Nat.le_of_ble_eq_true (by kernel_rfl)
theorem by81_ : 1 ≤ Tryz.prog.bytesOf 81 := Nat.le_of_ble_eq_true (by kernel_rfl)
theorem by84_ : 1 ≤ Tryz.prog.bytesOf 84 := Nat.le_of_ble_eq_true (by kernel_rfl)
theorem by52_ : 1 ≤ Tryz.prog.bytesOf 52 := Nat.le_of_ble_eq_true (by kernel_rfl)
theorem by44_ : 1 ≤ Tryz.prog.bytesOf 44 := Nat.le_of_ble_eq_true (by kernel_rfl)
theorem by35_ : 1 ≤ Tryz.prog.bytesOf 35 := Nat.le_of_ble_eq_true (by kernel_rfl)
theorem o26 : OpenR Tryz.prog paA (fun _ => True) 26 := by
  intro H enc W fuel cs d ps h hw
  obtain ⟨xs, m, _, hx, hlen, hxl, hf⟩ := DataW.trod_array Tryz.underlying26 h
  rw [cl26] at hlen
  simp only [cl3] at hf
  have h0 := hf 0 (by decide)
  have h1 := hf 1 (by decide)
  rw [List.getElem?_eq_getElem (by omega)] at h0 h1
  obtain ⟨x0, e0, _⟩ := DataW.trod_int Tryz.underlying3 h0
  obtain ⟨x1, e1, _⟩ := DataW.trod_int Tryz.underlying3 h1
  have hh := (TRL.piece (T := LtB W.heap.size) (w := W) (o := 0) (m := 1) (.val e0) (TRL.piece (o := 1) (m := 1) (.val e1) (TRL.done hlen)))
  exact ⟨(x0, x1), trivial, hh⟩
theorem o111 : OpenR Tryz.prog cfA (fun x => -9223372036854775808 ≤ x.n ∧ x.n ≤ 9223372036854775807) 111 := by
  intro H enc W fuel cs d ps h hw
  obtain ⟨n, hlen, hf⟩ := open_struct Tryz.underlying111 h hw
  rw [cl111] at hlen
  obtain ⟨_, _, h0, w0⟩ := hf 0 _ rfl
  obtain ⟨x0, r0, e0⟩ := (openR_int Tryz.underlying3) enc W _ _ _ _ h0 w0
  change TRL _ _ _ (List.take (Tryz.prog.cellsOf 3) (List.drop 0 cs)) at e0
  rw [cl3] at e0
  obtain ⟨_, _, h1, w1⟩ := hf 1 _ rfl
  obtain ⟨x1, r1, e1⟩ := (openR_int Tryz.underlying2) enc W _ _ _ _ h1 w1
  change TRL _ _ _ (List.take (Tryz.prog.cellsOf 2) (List.drop 1 cs)) at e1
  rw [cl2] at e1
  refine ⟨⟨x0, x1⟩, r1, ?_⟩
  have hh := (TRL.piece (o := 0) (m := 1) e0 (TRL.piece (o := 1) (m := 1) e1 (TRL.done hlen)))
  exact hh
theorem o77 : OpenR Tryz.prog (fun l : List PCoef => [.tree 2 (l.map cfA)]) (fun l => l.length ≤ 140737488355328 ∧ ∀ a ∈ l, -9223372036854775808 ≤ a.n ∧ a.n ≤ 9223372036854775807) 77 := OpenR.slice (o111) Tryz.underlying77 cl111 (fun _ => rfl) (by decide) by111_
theorem o79 : OpenR Tryz.prog liA (fun f => f.R ∧ f.cs.length ≤ 140737488355328) 79 := by
  intro H enc W fuel cs d ps h hw
  obtain ⟨n, hlen, hf⟩ := open_struct Tryz.underlying79 h hw
  rw [cl79] at hlen
  obtain ⟨_, _, h0, w0⟩ := hf 0 _ rfl
  obtain ⟨x0, r0, e0⟩ := (openR_int Tryz.underlying2) enc W _ _ _ _ h0 w0
  change TRL _ _ _ (List.take (Tryz.prog.cellsOf 2) (List.drop 0 cs)) at e0
  rw [cl2] at e0
  obtain ⟨_, _, h1, w1⟩ := hf 1 _ rfl
  obtain ⟨x1, r1, e1⟩ := (o77) enc W _ _ _ _ h1 w1
  change TRL _ _ _ (List.take (Tryz.prog.cellsOf 77) (List.drop 1 cs)) at e1
  rw [cl77] at e1
  refine ⟨⟨x0, x1⟩, ⟨⟨r0, r1.2⟩, r1.1⟩, ?_⟩
  have hh := (TRL.piece (o := 0) (m := 1) e0 (TRL.piece (o := 1) (m := 1) e1 (TRL.done hlen)))
  exact hh
theorem o81 : OpenR Tryz.prog axA (fun x => x.of_.R ∧ x.of_.cs.length ≤ 140737488355328) 81 := by
  intro H enc W fuel cs d ps h hw
  obtain ⟨n, hlen, hf⟩ := open_struct Tryz.underlying81 h hw
  rw [cl81] at hlen
  obtain ⟨_, _, h0, w0⟩ := hf 0 _ rfl
  obtain ⟨x0, r0, e0⟩ := (o79) enc W _ _ _ _ h0 w0
  change TRL _ _ _ (List.take (Tryz.prog.cellsOf 79) (List.drop 0 cs)) at e0
  rw [cl79] at e0
  obtain ⟨_, _, h1, w1⟩ := hf 1 _ rfl
  obtain ⟨x1, r1, e1⟩ := (openR_int Tryz.underlying2) enc W _ _ _ _ h1 w1
  change TRL _ _ _ (List.take (Tryz.prog.cellsOf 2) (List.drop 2 cs)) at e1
  rw [cl2] at e1
  obtain ⟨_, _, h2, w2⟩ := hf 2 _ rfl
  obtain ⟨x2, r2, e2⟩ := (openR_int Tryz.underlying3) enc W _ _ _ _ h2 w2
  change TRL _ _ _ (List.take (Tryz.prog.cellsOf 3) (List.drop 3 cs)) at e2
  rw [cl3] at e2
  refine ⟨⟨x0, x1, x2⟩, r0, ?_⟩
  have hh := (TRL.piece (o := 0) (m := 2) e0 (TRL.piece (o := 2) (m := 1) e1 (TRL.piece (o := 3) (m := 1) e2 (TRL.done hlen))))
  exact hh
theorem o84 : OpenR Tryz.prog cnA (fun x => x.l.R ∧ x.l.cs.length ≤ 140737488355328) 84 := by
  intro H enc W fuel cs d ps h hw
  obtain ⟨n, hlen, hf⟩ := open_struct Tryz.underlying84 h hw
  rw [cl84] at hlen
  obtain ⟨_, _, h0, w0⟩ := hf 0 _ rfl
  obtain ⟨x0, r0, e0⟩ := (o79) enc W _ _ _ _ h0 w0
  change TRL _ _ _ (List.take (Tryz.prog.cellsOf 79) (List.drop 0 cs)) at e0
  rw [cl79] at e0
  obtain ⟨_, _, h1, w1⟩ := hf 1 _ rfl
  obtain ⟨x1, r1, e1⟩ := (openR_bool Tryz.underlying4) enc W _ _ _ _ h1 w1
  change TRL _ _ _ (List.take (Tryz.prog.cellsOf 4) (List.drop 2 cs)) at e1
  rw [cl4] at e1
  refine ⟨⟨x0, x1⟩, r0, ?_⟩
  have hh := (TRL.piece (o := 0) (m := 2) e0 (TRL.piece (o := 2) (m := 1) e1 (TRL.done hlen)))
  exact hh
theorem o52 : OpenR Tryz.prog teA (fun x => x.s.size ≤ 140737488355328) 52 := by
  intro H enc W fuel cs d ps h hw
  obtain ⟨n, hlen, hf⟩ := open_struct Tryz.underlying52 h hw
  rw [cl52] at hlen
  obtain ⟨_, _, h0, w0⟩ := hf 0 _ rfl
  obtain ⟨x0, r0, e0⟩ := (openR_int Tryz.underlying3) enc W _ _ _ _ h0 w0
  change TRL _ _ _ (List.take (Tryz.prog.cellsOf 3) (List.drop 0 cs)) at e0
  rw [cl3] at e0
  obtain ⟨_, _, h1, w1⟩ := hf 1 _ rfl
  obtain ⟨x1, r1, e1⟩ := (openR_int Tryz.underlying3) enc W _ _ _ _ h1 w1
  change TRL _ _ _ (List.take (Tryz.prog.cellsOf 3) (List.drop 1 cs)) at e1
  rw [cl3] at e1
  obtain ⟨_, _, h2, w2⟩ := hf 2 _ rfl
  obtain ⟨x2, r2, e2⟩ := (openR_bool Tryz.underlying4) enc W _ _ _ _ h2 w2
  change TRL _ _ _ (List.take (Tryz.prog.cellsOf 4) (List.drop 2 cs)) at e2
  rw [cl4] at e2
  obtain ⟨_, _, h3, w3⟩ := hf 3 _ rfl
  obtain ⟨x3, r3, e3⟩ := (openR_str Tryz.underlying9) enc W _ _ _ _ h3 w3
  change TRL _ _ _ (List.take (Tryz.prog.cellsOf 9) (List.drop 3 cs)) at e3
  rw [cl9] at e3
  refine ⟨⟨x0, x1, x2, x3⟩, r3, ?_⟩
  have hh := (TRL.piece (o := 0) (m := 1) e0 (TRL.piece (o := 1) (m := 1) e1 (TRL.piece (o := 2) (m := 1) e2 (TRL.piece (o := 3) (m := 1) e3 (TRL.done hlen)))))
  exact hh
theorem o44 : OpenR Tryz.prog vA (fun _ => True) 44 := by
  intro H enc W fuel cs d ps h hw
  obtain ⟨n, hlen, hf⟩ := open_struct Tryz.underlying44 h hw
  rw [cl44] at hlen
  obtain ⟨_, _, h0, w0⟩ := hf 0 _ rfl
  obtain ⟨x0, r0, e0⟩ := (openR_int Tryz.underlying3) enc W _ _ _ _ h0 w0
  change TRL _ _ _ (List.take (Tryz.prog.cellsOf 3) (List.drop 0 cs)) at e0
  rw [cl3] at e0
  obtain ⟨_, _, h1, w1⟩ := hf 1 _ rfl
  obtain ⟨x1, r1, e1⟩ := (openR_int Tryz.underlying2) enc W _ _ _ _ h1 w1
  change TRL _ _ _ (List.take (Tryz.prog.cellsOf 2) (List.drop 1 cs)) at e1
  rw [cl2] at e1
  obtain ⟨_, _, h2, w2⟩ := hf 2 _ rfl
  obtain ⟨x2, r2, e2⟩ := (openR_int Tryz.underlying2) enc W _ _ _ _ h2 w2
  change TRL _ _ _ (List.take (Tryz.prog.cellsOf 2) (List.drop 2 cs)) at e2
  rw [cl2] at e2
  obtain ⟨_, _, h3, w3⟩ := hf 3 _ rfl
  obtain ⟨x3, r3, e3⟩ := (openR_int Tryz.underlying3) enc W _ _ _ _ h3 w3
  change TRL _ _ _ (List.take (Tryz.prog.cellsOf 3) (List.drop 3 cs)) at e3
  rw [cl3] at e3
  obtain ⟨_, _, h4, w4⟩ := hf 4 _ rfl
  obtain ⟨x4, r4, e4⟩ := (openR_bool Tryz.underlying4) enc W _ _ _ _ h4 w4
  change TRL _ _ _ (List.take (Tryz.prog.cellsOf 4) (List.drop 4 cs)) at e4
  rw [cl4] at e4
  refine ⟨⟨x0, x1, x2, x3, x4⟩, trivial, ?_⟩
  have hh := (TRL.piece (o := 0) (m := 1) e0 (TRL.piece (o := 1) (m := 1) e1 (TRL.piece (o := 2) (m := 1) e2 (TRL.piece (o := 3) (m := 1) e3 (TRL.piece (o := 4) (m := 1) e4 (TRL.done hlen))))))
  exact hh
theorem o29 : OpenR Tryz.prog (fun l : List Int => [.tree 1 (l.map iA)]) (fun l => l.length ≤ 140737488355328 ∧ ∀ a ∈ l, -9223372036854775808 ≤ a ∧ a ≤ 9223372036854775807) 29 := OpenR.slice (openR_int Tryz.underlying3) Tryz.underlying29 cl3 (fun _ => rfl) (by decide) by3_
theorem o30 : OpenR Tryz.prog (fun l : List PAux => [.tree 4 (l.map axA)]) (fun l => l.length ≤ 140737488355328 ∧ ∀ a ∈ l, a.of_.R ∧ a.of_.cs.length ≤ 140737488355328) 30 := OpenR.slice (o81) Tryz.underlying30 cl81 (fun _ => rfl) (by decide) by81_
theorem o31 : OpenR Tryz.prog (fun l : List PCon => [.tree 3 (l.map cnA)]) (fun l => l.length ≤ 140737488355328 ∧ ∀ a ∈ l, a.l.R ∧ a.l.cs.length ≤ 140737488355328) 31 := OpenR.slice (o84) Tryz.underlying31 cl84 (fun _ => rfl) (by decide) by84_
theorem o32 : OpenR Tryz.prog (fun l : List PTest => [.tree 4 (l.map teA)]) (fun l => l.length ≤ 140737488355328 ∧ ∀ a ∈ l, a.s.size ≤ 140737488355328) 32 := OpenR.slice (o52) Tryz.underlying32 cl52 (fun _ => rfl) (by decide) by52_
theorem o33 : OpenR Tryz.prog (fun l : List (Int × Int) => [.tree 2 (l.map paA)]) (fun l => l.length ≤ 140737488355328 ∧ ∀ a ∈ l, True) 33 := OpenR.slice (o26) Tryz.underlying33 cl26 (fun _ => rfl) (by decide) by26_
theorem o22 : OpenR Tryz.prog (fun l : List PVar => [.tree 5 (l.map vA)]) (fun l => l.length ≤ 140737488355328 ∧ ∀ a ∈ l, True) 22 := OpenR.slice (o44) Tryz.underlying22 cl44 (fun _ => rfl) (by decide) by44_
theorem o35 : OpenR Tryz.prog clA (fun c => c.Fits ∧ c.R) 35 := by
  intro H enc W fuel cs d ps h hw
  obtain ⟨n, hlen, hf⟩ := open_struct Tryz.underlying35 h hw
  rw [cl35] at hlen
  obtain ⟨_, _, h0, w0⟩ := hf 0 _ rfl
  obtain ⟨x0, r0, e0⟩ := (o29) enc W _ _ _ _ h0 w0
  change TRL _ _ _ (List.take (Tryz.prog.cellsOf 29) (List.drop 0 cs)) at e0
  rw [cl29] at e0
  obtain ⟨_, _, h1, w1⟩ := hf 1 _ rfl
  obtain ⟨x1, r1, e1⟩ := (o29) enc W _ _ _ _ h1 w1
  change TRL _ _ _ (List.take (Tryz.prog.cellsOf 29) (List.drop 1 cs)) at e1
  rw [cl29] at e1
  obtain ⟨_, _, h2, w2⟩ := hf 2 _ rfl
  obtain ⟨x2, r2, e2⟩ := (o30) enc W _ _ _ _ h2 w2
  change TRL _ _ _ (List.take (Tryz.prog.cellsOf 30) (List.drop 2 cs)) at e2
  rw [cl30] at e2
  obtain ⟨_, _, h3, w3⟩ := hf 3 _ rfl
  obtain ⟨x3, r3, e3⟩ := (o31) enc W _ _ _ _ h3 w3
  change TRL _ _ _ (List.take (Tryz.prog.cellsOf 31) (List.drop 3 cs)) at e3
  rw [cl31] at e3
  obtain ⟨_, _, h4, w4⟩ := hf 4 _ rfl
  obtain ⟨x4, r4, e4⟩ := (o32) enc W _ _ _ _ h4 w4
  change TRL _ _ _ (List.take (Tryz.prog.cellsOf 32) (List.drop 4 cs)) at e4
  rw [cl32] at e4
  obtain ⟨_, _, h5, w5⟩ := hf 5 _ rfl
  obtain ⟨x5, r5, e5⟩ := (o33) enc W _ _ _ _ h5 w5
  change TRL _ _ _ (List.take (Tryz.prog.cellsOf 33) (List.drop 5 cs)) at e5
  rw [cl33] at e5
  obtain ⟨_, _, h6, w6⟩ := hf 6 _ rfl
  obtain ⟨x6, r6, e6⟩ := (o33) enc W _ _ _ _ h6 w6
  change TRL _ _ _ (List.take (Tryz.prog.cellsOf 33) (List.drop 6 cs)) at e6
  rw [cl33] at e6
  refine ⟨⟨x0, x1, x2, x3, x4, x5, x6⟩, ⟨⟨r0.1, r1.1, r2.1, r3.1, r4.1, r5.1, r6.1, fun a h => (r2.2 a h).2, fun a h => (r3.2 a h).2, r4.2⟩, ⟨fun a h => (r2.2 a h).1, fun a h => (r3.2 a h).1⟩⟩, ?_⟩
  have hh := (TRL.piece (o := 0) (m := 1) e0 (TRL.piece (o := 1) (m := 1) e1 (TRL.piece (o := 2) (m := 1) e2 (TRL.piece (o := 3) (m := 1) e3 (TRL.piece (o := 4) (m := 1) e4 (TRL.piece (o := 5) (m := 1) e5 (TRL.piece (o := 6) (m := 1) e6 (TRL.done hlen))))))))
  exact hh
theorem o23 : OpenR Tryz.prog (fun l : List PCl => [.tree 7 (l.map clA)]) (fun l => l.length ≤ 140737488355328 ∧ ∀ a ∈ l, a.Fits ∧ a.R) 23 := OpenR.slice (o35) Tryz.underlying23 cl35 (fun _ => rfl) (by decide) by35_
theorem o25 : OpenR Tryz.prog prA (fun p => p.Fits ∧ p.R) 25 := by
  intro H enc W fuel cs d ps h hw
  obtain ⟨n, hlen, hf⟩ := open_struct Tryz.underlying25 h hw
  rw [cl25] at hlen
  obtain ⟨_, _, h0, w0⟩ := hf 0 _ rfl
  obtain ⟨x0, r0, e0⟩ := (openR_int Tryz.underlying3) enc W _ _ _ _ h0 w0
  change TRL _ _ _ (List.take (Tryz.prog.cellsOf 3) (List.drop 0 cs)) at e0
  rw [cl3] at e0
  obtain ⟨_, _, h1, w1⟩ := hf 1 _ rfl
  obtain ⟨x1, r1, e1⟩ := (openR_int Tryz.underlying3) enc W _ _ _ _ h1 w1
  change TRL _ _ _ (List.take (Tryz.prog.cellsOf 3) (List.drop 1 cs)) at e1
  rw [cl3] at e1
  obtain ⟨_, _, h2, w2⟩ := hf 2 _ rfl
  obtain ⟨x2, r2, e2⟩ := (o22) enc W _ _ _ _ h2 w2
  change TRL _ _ _ (List.take (Tryz.prog.cellsOf 22) (List.drop 2 cs)) at e2
  rw [cl22] at e2
  obtain ⟨_, _, h3, w3⟩ := hf 3 _ rfl
  obtain ⟨x3, r3, e3⟩ := (o23) enc W _ _ _ _ h3 w3
  change TRL _ _ _ (List.take (Tryz.prog.cellsOf 23) (List.drop 3 cs)) at e3
  rw [cl23] at e3
  refine ⟨⟨x0, x1, x2, x3⟩, ⟨⟨r2.1, r3.1, fun a h => (r3.2 a h).1⟩, ⟨fun a h => (r3.2 a h).2⟩⟩, ?_⟩
  have hh := (TRL.piece (o := 0) (m := 1) e0 (TRL.piece (o := 1) (m := 1) e1 (TRL.piece (o := 2) (m := 1) e2 (TRL.piece (o := 3) (m := 1) e3 (TRL.done hlen)))))
  exact hh
/-- A predicate that comes as an argument. -/
theorem open_pred {r : Reach} {b0 : Nat} {H : Type} {enc : TypeId × Value → H} {W : World} {v : Value} {d : DataW H} {ps : List MemPlace} (hv : Value.okWide Tryz.prog W r b0 25 v)
    (h : DataW.Trod enc Tryz.prog W 0 (fun _ => true) true 25 v d ps) (hw : ∀ m ∈ d.weights Tryz.prog 25, m ≤ 140737488351232) :
    ∃ p : PPred, p.Fits ∧ p.R ∧ TR (LtB W.heap.size) W (.agg (prA p)) v := by
  obtain ⟨cs, rfl, hsz⟩ := okWide_struct Tryz.underlying25 hv
  obtain ⟨fuel, hf⟩ := h
  obtain ⟨p, ⟨h1, h2⟩, h3⟩ := o25 enc W fuel _ d ps hf hw
  refine ⟨p, h1, h2, .agg ?_ (fun i hi hi' => ?_)⟩
  · have := h3.1
    simpa [Value.cells] using this
  · have := h3.2 i hi (by simpa [Value.cells] using hi')
    simpa [Value.cells] using this
end Go.Proofs.YtgknefkobpnjaaaGreatDoor
