/- The example of the layer. -/
import Derived.Test.YtcbpakbhklbdnaaB14
namespace Go.Proofs.Ytcbpakbhklbdnaa
set_option linter.unusedVariables false
open Go.RowKit
theorem mixed15 : Try.prog.follows .mixedOrders = true := by kernel_rfl
abbrev aw_a : List PVal := [⟨1, 3, ⟨#[]⟩⟩, ⟨0, 0, ⟨#[]⟩⟩]
abbrev aw_b : List PVal := [⟨1, 5, ⟨#[]⟩⟩, ⟨2, 0, ⟨#[98]⟩⟩]
abbrev aw_c : List PVal := [⟨1, 4, ⟨#[]⟩⟩, ⟨2, 0, ⟨#[98]⟩⟩]
abbrev aw_d : List PVal := [⟨1, 4, ⟨#[]⟩⟩, ⟨2, 0, ⟨#[97]⟩⟩]
abbrev aw_f : List PVal := [⟨1, 4, ⟨#[]⟩⟩, ⟨0, 0, ⟨#[]⟩⟩]
abbrev aw_g : List PVal := [⟨1, 6, ⟨#[]⟩⟩, ⟨0, 0, ⟨#[]⟩⟩]
abbrev ab_a : List PSide := [⟨false, true, 3, 3, ⟨#[]⟩, ⟨#[]⟩⟩, ⟨true, false, 0, 0, ⟨#[]⟩, ⟨#[]⟩⟩]
abbrev ab_b : List PSide := [⟨false, true, 5, 5, ⟨#[]⟩, ⟨#[]⟩⟩, ⟨false, true, 0, 0, ⟨#[98]⟩, ⟨#[98]⟩⟩]
abbrev ab_c : List PSide := [⟨false, true, 4, 4, ⟨#[]⟩, ⟨#[]⟩⟩, ⟨false, true, 0, 0, ⟨#[98]⟩, ⟨#[98]⟩⟩]
abbrev ab_d : List PSide := [⟨false, true, 4, 4, ⟨#[]⟩, ⟨#[]⟩⟩, ⟨false, true, 0, 0, ⟨#[97]⟩, ⟨#[97]⟩⟩]
abbrev ab_h : List PSide := [⟨false, true, 3, 5, ⟨#[]⟩, ⟨#[]⟩⟩, ⟨true, true, 0, 0, ⟨#[98]⟩, ⟨#[98]⟩⟩]
theorem pval_wf {l : List PVal} (h : l.all (fun v => decide (-9223372036854775808 ≤ v.kind) && decide (v.kind ≤ 9223372036854775807) && decide (-9223372036854775808 ≤ v.int) && decide (v.int ≤ 9223372036854775807) && decide (v.text.size ≤ 140737488355328)) = true) : ∀ v ∈ l, v.Wf := by
  intro v hv
  have := List.all_eq_true.1 h v hv
  simp only [Bool.and_eq_true, decide_eq_true_eq] at this
  obtain ⟨⟨⟨⟨a, b⟩, c⟩, d⟩, e⟩ := this
  exact ⟨a, b, c, d, e⟩
theorem pside_wf {l : List PSide} (h : l.all (fun v => decide (-9223372036854775808 ≤ v.low) && decide (v.low ≤ 9223372036854775807) && decide (-9223372036854775808 ≤ v.high) && decide (v.high ≤ 9223372036854775807) && decide (v.frm.size ≤ 140737488355328) && decide (v.to.size ≤ 140737488355328)) = true) : ∀ v ∈ l, v.Wf := by
  intro v hv
  have := List.all_eq_true.1 h v hv
  simp only [Bool.and_eq_true, decide_eq_true_eq] at this
  obtain ⟨⟨⟨⟨⟨a, b⟩, c⟩, d⟩, e⟩, f⟩ := this
  exact ⟨a, b, c, d, e, f⟩
theorem used1 {η : Heap} {i : Nat} (h : (η i).isSome = true) : ∀ id ∈ [i], (η id).isSome = true := fun id hi => by rw [List.mem_singleton.1 hi]; exact h
theorem PCall.ret {P : Program} {f : FuncId} {xs : List AV} {r r' : AV} (h : PCall P f xs r) (e : r = r') : PCall P f xs r' := e ▸ h
theorem aw_a_wf : ∀ v ∈ aw_a, v.Wf := pval_wf (by decide)
theorem aw_b_wf : ∀ v ∈ aw_b, v.Wf := pval_wf (by decide)
theorem aw_c_wf : ∀ v ∈ aw_c, v.Wf := pval_wf (by decide)
theorem aw_d_wf : ∀ v ∈ aw_d, v.Wf := pval_wf (by decide)
theorem aw_f_wf : ∀ v ∈ aw_f, v.Wf := pval_wf (by decide)
theorem aw_g_wf : ∀ v ∈ aw_g, v.Wf := pval_wf (by decide)
theorem ab_a_wf : ∀ v ∈ ab_a, v.Wf := pside_wf (by decide)
theorem ab_b_wf : ∀ v ∈ ab_b, v.Wf := pside_wf (by decide)
theorem ab_c_wf : ∀ v ∈ ab_c, v.Wf := pside_wf (by decide)
theorem ab_d_wf : ∀ v ∈ ab_d, v.Wf := pside_wf (by decide)
theorem ab_h_wf : ∀ v ∈ ab_h, v.Wf := pside_wf (by decide)
theorem arow_a (t : Int) : PCall Try.prog 21 [.v (.int .i64 t), rwA aw_a] (bxA t ab_a) := PCall.ret (row_p aw_a_wf (by decide)) rfl
theorem arow_b (t : Int) : PCall Try.prog 21 [.v (.int .i64 t), rwA aw_b] (bxA t ab_b) := PCall.ret (row_p aw_b_wf (by decide)) rfl
theorem arow_c (t : Int) : PCall Try.prog 21 [.v (.int .i64 t), rwA aw_c] (bxA t ab_c) := PCall.ret (row_p aw_c_wf (by decide)) rfl
theorem arow_d (t : Int) : PCall Try.prog 21 [.v (.int .i64 t), rwA aw_d] (bxA t ab_d) := PCall.ret (row_p aw_d_wf (by decide)) rfl
theorem ahull : PCall Try.prog 17 [bxA 1 ab_a, bxA 1 ab_b] (bxA 1 ab_h) := PCall.ret (hullc_p ab_a_wf ab_b_wf (by simp) (by decide) (by decide)) rfl
theorem asame : PCall Try.prog 18 [bxA 1 ab_h, bxA 1 ab_h] (.v (.bool true)) := PCall.ret (same_p ab_h_wf ab_h_wf) (bool_ret (by kernel_rfl))
theorem ameet1 : PCall Try.prog 14 [bxA 1 ab_h, bxA 1 ab_c] (.v (.bool true)) := PCall.ret (meet_p ab_h_wf ab_c_wf) (bool_ret (by kernel_rfl))
theorem ameet2 : PCall Try.prog 14 [bxA 1 ab_h, bxA 1 ab_d] (.v (.bool false)) := PCall.ret (meet_p ab_h_wf ab_d_wf) (bool_ret (by kernel_rfl))
theorem ameet3 : PCall Try.prog 14 [bxA 1 ab_h, bxA 0 ab_c] (.v (.bool false)) := PCall.ret (meet_p ab_h_wf ab_c_wf) (bool_ret (by kernel_rfl))
theorem acont1 : PCall Try.prog 11 [bxA 1 ab_h, rwA aw_f] (.v (.bool true)) := PCall.ret (contains_p ab_h_wf aw_f_wf) (bool_ret (by kernel_rfl))
theorem acont2 : PCall Try.prog 11 [bxA 1 ab_h, rwA aw_g] (.v (.bool false)) := PCall.ret (contains_p ab_h_wf aw_g_wf) (bool_ret (by kernel_rfl))
theorem acont3 : PCall Try.prog 11 [bxA 0 [], rwA []] (.v (.bool false)) := PCall.ret (contains_p (t := 0) (ss := []) (vs := []) (fun s h => absurd h (by simp)) (fun s h => absurd h (by simp))) (bool_ret (by kernel_rfl))
theorem aback : PCall Try.prog 19 [bxA 1 ab_h] (bxA 1 ab_h) := back_p ab_h_wf (by decide)
theorem bod11 : bodied Try.prog 11 = true := by kernel_rfl
theorem bod14 : bodied Try.prog 14 = true := by kernel_rfl
theorem bod17 : bodied Try.prog 17 = true := by kernel_rfl
theorem bod18 : bodied Try.prog 18 = true := by kernel_rfl
theorem bod19 : bodied Try.prog 19 = true := by kernel_rfl
theorem bod21 : bodied Try.prog 21 = true := by kernel_rfl
theorem bod24 : bodied Try.prog 24 = true := by kernel_rfl
theorem bod25 : bodied Try.prog 25 = true := by kernel_rfl
theorem pl24 : placesOf Try.prog 24 = some [(0, 1), (1, 1)] := by kernel_rfl
theorem pl51 : placesOf Try.prog 51 = some [(0, 1), (1, 1), (2, 1), (3, 1), (4, 1), (5, 1)] := by kernel_rfl
theorem sz51 : sizeInfo Try.prog 51 = some 6 := by kernel_rfl
theorem zr51 : zeroOf Try.prog 51 = some (.agg #[.bool false, .bool false, .int .i64 0, .int .i64 0, .string ⟨#[]⟩, .string ⟨#[]⟩]) := by kernel_rfl
set_option maxHeartbeats 4000000 in
theorem awake_p  : PCall Try.prog 8 [] (.v (.bool true)) := by
  refine PCall.of_body Try.func8 rfl Try.ntmps8 (Nat.le_of_ble_eq_true rfl) ?_
  refine AWP.seq ?_
  refine AWP.region ?_
  first | refine AOps.lk (LOp.asg (a := .v _) rfl) rfl rfl ?_ | refine AOps.lk (LOp.asg (a := .tree _ _) rfl) rfl rfl ?_ | refine AOps.lk (LOp.asg (a := .agg _) rfl) rfl rfl ?_ | refine AOps.lk (LOp.asg (a := .ptr _ _ _) rfl) rfl rfl ?_ | refine AOps.lk (LOp.asg (a := .sl _ _ _ _) rfl) rfl rfl ?_ | refine AOps.lk (LOp.asg (a := .tp _ _) rfl) rfl rfl ?_ | refine AOps.lk (LOp.asg (a := .clo _ _) rfl) rfl rfl ?_ | refine AOps.lk (LOp.asg (a := .tup _) rfl) rfl rfl ?_
  refine AOps.nil ?_
  refine andThen_normal ?_
  refine AWP.seq ?_
  refine AWP.region ?_
  refine AOps.lk (LOp.call bod24 rfl (integer_p 3)) rfl rfl ?_
  refine AOps.lk (LOp.bd zr47 pl47 rfl rfl) rfl rfl ?_
  refine AOps.nw (LOp.bs Try.underlying26 sz47 zr47 rfl rfl rfl rfl) rfl rfl 1 rfl ?_
  refine AOps.gv (LOp.callF [0] bod21 rfl (fun i h h' => match i, h with | 0, _ => FzP.pure rfl | 1, _ => FzP.slMap (f := vA) (l := aw_a) (List.mem_singleton.2 rfl) rfl rfl rfl rfl rfl rfl (fun a _ => ⟨rfl, rfl⟩)) (used1 rfl) (arow_a 1)) rfl rfl 1 rfl rfl ?_
  refine AOps.lk (LOp.call bod24 rfl (integer_p 5)) rfl rfl ?_
  refine AOps.lk (LOp.call bod25 rfl (text_p ⟨#[98]⟩)) rfl rfl ?_
  refine AOps.nw (LOp.bs Try.underlying26 sz47 zr47 rfl rfl rfl rfl) rfl rfl 2 rfl ?_
  refine AOps.gv (LOp.callF [1] bod21 rfl (fun i h h' => match i, h with | 0, _ => FzP.pure rfl | 1, _ => FzP.slMap (f := vA) (l := aw_b) (List.mem_singleton.2 rfl) rfl rfl rfl rfl rfl rfl (fun a _ => ⟨rfl, rfl⟩)) (used1 rfl) (arow_b 1)) rfl rfl 2 rfl rfl ?_
  refine AOps.lk (LOp.call bod17 rfl ahull) rfl rfl ?_
  refine AOps.nw (LOp.al zr33 rfl) rfl rfl 3 rfl ?_
  refine AOps.wr (LOp.st sz33 rfl rfl rfl rfl rfl rfl rfl rfl) rfl rfl rfl ?_
  refine AOps.nil ?_
  refine andThen_normal ?_
  refine AWP.seq ?_
  refine AWP.regD mixed15 ?_
  first | refine SeqC.lk (LOp.ldN row33 rfl rfl rfl rfl rfl) rfl rfl ?_ | refine SeqC.lk (LOp.ldTN row33 rfl rfl) rfl rfl ?_
  refine SeqC.lk (LOp.call bod19 rfl aback) rfl rfl ?_
  refine SeqC.lk (LOp.bd zr51 pl51 rfl rfl) rfl rfl ?_
  refine SeqC.lk (LOp.bd zr51 pl51 rfl rfl) rfl rfl ?_
  refine SeqC.nw (LOp.bs Try.underlying22 sz51 zr51 rfl rfl rfl rfl) rfl rfl 4 rfl ?_
  refine SeqC.lk (LOp.bd zr24 pl24 rfl rfl) rfl rfl ?_
  refine SeqC.lk (LOp.callB [3] bod18 rfl (fun i h h' => match i, h with | 0, _ => FzP.pure rfl | 1, _ => FzP.agg rfl (fun i h h' => match i, h with | 0, _ => FzP.pure rfl | 1, _ => FzP.slMap (f := sA) (l := ab_h) (List.mem_singleton.2 rfl) rfl rfl rfl rfl rfl rfl (fun a _ => ⟨rfl, rfl⟩))) asame) rfl rfl ?_
  first | refine SeqC.lk (LOp.mv (a := .v _) rfl) rfl rfl ?_ | refine SeqC.lk (LOp.mv (a := .tree _ _) rfl) rfl rfl ?_ | refine SeqC.lk (LOp.mv (a := .agg _) rfl) rfl rfl ?_ | refine SeqC.lk (LOp.mv (a := .ptr _ _ _) rfl) rfl rfl ?_ | refine SeqC.lk (LOp.mv (a := .sl _ _ _ _) rfl) rfl rfl ?_ | refine SeqC.lk (LOp.mv (a := .tp _ _) rfl) rfl rfl ?_ | refine SeqC.lk (LOp.mv (a := .clo _ _) rfl) rfl rfl ?_ | refine SeqC.lk (LOp.mv (a := .tup _) rfl) rfl rfl ?_
  first | refine SeqC.lk (LOp.ldN row33 rfl rfl rfl rfl rfl) rfl rfl ?_ | refine SeqC.lk (LOp.ldTN row33 rfl rfl) rfl rfl ?_
  refine SeqC.lk (LOp.call bod24 rfl (integer_p 4)) rfl rfl ?_
  refine SeqC.lk (LOp.call bod25 rfl (text_p ⟨#[98]⟩)) rfl rfl ?_
  refine SeqC.nw (LOp.bs Try.underlying26 sz47 zr47 rfl rfl rfl rfl) rfl rfl 5 rfl ?_
  refine SeqC.gv (LOp.callF [4] bod21 rfl (fun i h h' => match i, h with | 0, _ => FzP.pure rfl | 1, _ => FzP.slMap (f := vA) (l := aw_c) (List.mem_singleton.2 rfl) rfl rfl rfl rfl rfl rfl (fun a _ => ⟨rfl, rfl⟩)) (used1 rfl) (arow_c 1)) rfl rfl 5 rfl rfl ?_
  refine SeqC.lk (LOp.call bod14 rfl ameet1) rfl rfl ?_
  first | refine SeqC.lk (LOp.pickB rfl rfl rfl) rfl rfl ?_ | refine SeqC.lk (LOp.pkT (a := .v _) rfl (by first | rfl | assumption) rfl) rfl rfl ?_ | refine SeqC.lk (LOp.pkT (a := .tree _ _) rfl (by first | rfl | assumption) rfl) rfl rfl ?_ | refine SeqC.lk (LOp.pkT (a := .agg _) rfl (by first | rfl | assumption) rfl) rfl rfl ?_ | refine SeqC.lk (LOp.pkT (a := .ptr _ _ _) rfl (by first | rfl | assumption) rfl) rfl rfl ?_ | refine SeqC.lk (LOp.pkT (a := .sl _ _ _ _) rfl (by first | rfl | assumption) rfl) rfl rfl ?_ | refine SeqC.lk (LOp.pkT (a := .tp _ _) rfl (by first | rfl | assumption) rfl) rfl rfl ?_ | refine SeqC.lk (LOp.pkT (a := .clo _ _) rfl (by first | rfl | assumption) rfl) rfl rfl ?_ | refine SeqC.lk (LOp.pkT (a := .tup _) rfl (by first | rfl | assumption) rfl) rfl rfl ?_ | refine SeqC.lk (LOp.pkF (a := .v _) rfl (by first | rfl | assumption) rfl) rfl rfl ?_ | refine SeqC.lk (LOp.pkF (a := .tree _ _) rfl (by first | rfl | assumption) rfl) rfl rfl ?_ | refine SeqC.lk (LOp.pkF (a := .agg _) rfl (by first | rfl | assumption) rfl) rfl rfl ?_ | refine SeqC.lk (LOp.pkF (a := .ptr _ _ _) rfl (by first | rfl | assumption) rfl) rfl rfl ?_ | refine SeqC.lk (LOp.pkF (a := .sl _ _ _ _) rfl (by first | rfl | assumption) rfl) rfl rfl ?_ | refine SeqC.lk (LOp.pkF (a := .tp _ _) rfl (by first | rfl | assumption) rfl) rfl rfl ?_ | refine SeqC.lk (LOp.pkF (a := .clo _ _) rfl (by first | rfl | assumption) rfl) rfl rfl ?_ | refine SeqC.lk (LOp.pkF (a := .tup _) rfl (by first | rfl | assumption) rfl) rfl rfl ?_
  first | refine SeqC.lk (LOp.mv (a := .v _) rfl) rfl rfl ?_ | refine SeqC.lk (LOp.mv (a := .tree _ _) rfl) rfl rfl ?_ | refine SeqC.lk (LOp.mv (a := .agg _) rfl) rfl rfl ?_ | refine SeqC.lk (LOp.mv (a := .ptr _ _ _) rfl) rfl rfl ?_ | refine SeqC.lk (LOp.mv (a := .sl _ _ _ _) rfl) rfl rfl ?_ | refine SeqC.lk (LOp.mv (a := .tp _ _) rfl) rfl rfl ?_ | refine SeqC.lk (LOp.mv (a := .clo _ _) rfl) rfl rfl ?_ | refine SeqC.lk (LOp.mv (a := .tup _) rfl) rfl rfl ?_
  first | refine SeqC.lk (LOp.ldN row33 rfl rfl rfl rfl rfl) rfl rfl ?_ | refine SeqC.lk (LOp.ldTN row33 rfl rfl) rfl rfl ?_
  refine SeqC.lk (LOp.call bod24 rfl (integer_p 4)) rfl rfl ?_
  refine SeqC.lk (LOp.call bod25 rfl (text_p ⟨#[97]⟩)) rfl rfl ?_
  refine SeqC.nw (LOp.bs Try.underlying26 sz47 zr47 rfl rfl rfl rfl) rfl rfl 6 rfl ?_
  refine SeqC.gv (LOp.callF [5] bod21 rfl (fun i h h' => match i, h with | 0, _ => FzP.pure rfl | 1, _ => FzP.slMap (f := vA) (l := aw_d) (List.mem_singleton.2 rfl) rfl rfl rfl rfl rfl rfl (fun a _ => ⟨rfl, rfl⟩)) (used1 rfl) (arow_d 1)) rfl rfl 6 rfl rfl ?_
  refine SeqC.lk (LOp.call bod14 rfl ameet2) rfl rfl ?_
  refine SeqC.lk (LOp.plain rfl (fun _ _ => nofun) (fun _ => rfl)) rfl rfl ?_
  first | refine SeqC.lk (LOp.pickB rfl rfl rfl) rfl rfl ?_ | refine SeqC.lk (LOp.pkT (a := .v _) rfl (by first | rfl | assumption) rfl) rfl rfl ?_ | refine SeqC.lk (LOp.pkT (a := .tree _ _) rfl (by first | rfl | assumption) rfl) rfl rfl ?_ | refine SeqC.lk (LOp.pkT (a := .agg _) rfl (by first | rfl | assumption) rfl) rfl rfl ?_ | refine SeqC.lk (LOp.pkT (a := .ptr _ _ _) rfl (by first | rfl | assumption) rfl) rfl rfl ?_ | refine SeqC.lk (LOp.pkT (a := .sl _ _ _ _) rfl (by first | rfl | assumption) rfl) rfl rfl ?_ | refine SeqC.lk (LOp.pkT (a := .tp _ _) rfl (by first | rfl | assumption) rfl) rfl rfl ?_ | refine SeqC.lk (LOp.pkT (a := .clo _ _) rfl (by first | rfl | assumption) rfl) rfl rfl ?_ | refine SeqC.lk (LOp.pkT (a := .tup _) rfl (by first | rfl | assumption) rfl) rfl rfl ?_ | refine SeqC.lk (LOp.pkF (a := .v _) rfl (by first | rfl | assumption) rfl) rfl rfl ?_ | refine SeqC.lk (LOp.pkF (a := .tree _ _) rfl (by first | rfl | assumption) rfl) rfl rfl ?_ | refine SeqC.lk (LOp.pkF (a := .agg _) rfl (by first | rfl | assumption) rfl) rfl rfl ?_ | refine SeqC.lk (LOp.pkF (a := .ptr _ _ _) rfl (by first | rfl | assumption) rfl) rfl rfl ?_ | refine SeqC.lk (LOp.pkF (a := .sl _ _ _ _) rfl (by first | rfl | assumption) rfl) rfl rfl ?_ | refine SeqC.lk (LOp.pkF (a := .tp _ _) rfl (by first | rfl | assumption) rfl) rfl rfl ?_ | refine SeqC.lk (LOp.pkF (a := .clo _ _) rfl (by first | rfl | assumption) rfl) rfl rfl ?_ | refine SeqC.lk (LOp.pkF (a := .tup _) rfl (by first | rfl | assumption) rfl) rfl rfl ?_
  first | refine SeqC.lk (LOp.mv (a := .v _) rfl) rfl rfl ?_ | refine SeqC.lk (LOp.mv (a := .tree _ _) rfl) rfl rfl ?_ | refine SeqC.lk (LOp.mv (a := .agg _) rfl) rfl rfl ?_ | refine SeqC.lk (LOp.mv (a := .ptr _ _ _) rfl) rfl rfl ?_ | refine SeqC.lk (LOp.mv (a := .sl _ _ _ _) rfl) rfl rfl ?_ | refine SeqC.lk (LOp.mv (a := .tp _ _) rfl) rfl rfl ?_ | refine SeqC.lk (LOp.mv (a := .clo _ _) rfl) rfl rfl ?_ | refine SeqC.lk (LOp.mv (a := .tup _) rfl) rfl rfl ?_
  first | refine SeqC.lk (LOp.ldN row33 rfl rfl rfl rfl rfl) rfl rfl ?_ | refine SeqC.lk (LOp.ldTN row33 rfl rfl) rfl rfl ?_
  refine SeqC.lk (LOp.call bod24 rfl (integer_p 4)) rfl rfl ?_
  refine SeqC.lk (LOp.call bod25 rfl (text_p ⟨#[98]⟩)) rfl rfl ?_
  refine SeqC.nw (LOp.bs Try.underlying26 sz47 zr47 rfl rfl rfl rfl) rfl rfl 7 rfl ?_
  refine SeqC.gv (LOp.callF [6] bod21 rfl (fun i h h' => match i, h with | 0, _ => FzP.pure rfl | 1, _ => FzP.slMap (f := vA) (l := aw_c) (List.mem_singleton.2 rfl) rfl rfl rfl rfl rfl rfl (fun a _ => ⟨rfl, rfl⟩)) (used1 rfl) (arow_c 0)) rfl rfl 7 rfl rfl ?_
  refine SeqC.lk (LOp.call bod14 rfl ameet3) rfl rfl ?_
  refine SeqC.lk (LOp.plain rfl (fun _ _ => nofun) (fun _ => rfl)) rfl rfl ?_
  first | refine SeqC.lk (LOp.pickB rfl rfl rfl) rfl rfl ?_ | refine SeqC.lk (LOp.pkT (a := .v _) rfl (by first | rfl | assumption) rfl) rfl rfl ?_ | refine SeqC.lk (LOp.pkT (a := .tree _ _) rfl (by first | rfl | assumption) rfl) rfl rfl ?_ | refine SeqC.lk (LOp.pkT (a := .agg _) rfl (by first | rfl | assumption) rfl) rfl rfl ?_ | refine SeqC.lk (LOp.pkT (a := .ptr _ _ _) rfl (by first | rfl | assumption) rfl) rfl rfl ?_ | refine SeqC.lk (LOp.pkT (a := .sl _ _ _ _) rfl (by first | rfl | assumption) rfl) rfl rfl ?_ | refine SeqC.lk (LOp.pkT (a := .tp _ _) rfl (by first | rfl | assumption) rfl) rfl rfl ?_ | refine SeqC.lk (LOp.pkT (a := .clo _ _) rfl (by first | rfl | assumption) rfl) rfl rfl ?_ | refine SeqC.lk (LOp.pkT (a := .tup _) rfl (by first | rfl | assumption) rfl) rfl rfl ?_ | refine SeqC.lk (LOp.pkF (a := .v _) rfl (by first | rfl | assumption) rfl) rfl rfl ?_ | refine SeqC.lk (LOp.pkF (a := .tree _ _) rfl (by first | rfl | assumption) rfl) rfl rfl ?_ | refine SeqC.lk (LOp.pkF (a := .agg _) rfl (by first | rfl | assumption) rfl) rfl rfl ?_ | refine SeqC.lk (LOp.pkF (a := .ptr _ _ _) rfl (by first | rfl | assumption) rfl) rfl rfl ?_ | refine SeqC.lk (LOp.pkF (a := .sl _ _ _ _) rfl (by first | rfl | assumption) rfl) rfl rfl ?_ | refine SeqC.lk (LOp.pkF (a := .tp _ _) rfl (by first | rfl | assumption) rfl) rfl rfl ?_ | refine SeqC.lk (LOp.pkF (a := .clo _ _) rfl (by first | rfl | assumption) rfl) rfl rfl ?_ | refine SeqC.lk (LOp.pkF (a := .tup _) rfl (by first | rfl | assumption) rfl) rfl rfl ?_
  first | refine SeqC.lk (LOp.mv (a := .v _) rfl) rfl rfl ?_ | refine SeqC.lk (LOp.mv (a := .tree _ _) rfl) rfl rfl ?_ | refine SeqC.lk (LOp.mv (a := .agg _) rfl) rfl rfl ?_ | refine SeqC.lk (LOp.mv (a := .ptr _ _ _) rfl) rfl rfl ?_ | refine SeqC.lk (LOp.mv (a := .sl _ _ _ _) rfl) rfl rfl ?_ | refine SeqC.lk (LOp.mv (a := .tp _ _) rfl) rfl rfl ?_ | refine SeqC.lk (LOp.mv (a := .clo _ _) rfl) rfl rfl ?_ | refine SeqC.lk (LOp.mv (a := .tup _) rfl) rfl rfl ?_
  first | refine SeqC.lk (LOp.ldN row33 rfl rfl rfl rfl rfl) rfl rfl ?_ | refine SeqC.lk (LOp.ldTN row33 rfl rfl) rfl rfl ?_
  refine SeqC.lk (LOp.call bod24 rfl (integer_p 4)) rfl rfl ?_
  refine SeqC.lk (LOp.bd zr47 pl47 rfl rfl) rfl rfl ?_
  refine SeqC.nw (LOp.bs Try.underlying26 sz47 zr47 rfl rfl rfl rfl) rfl rfl 8 rfl ?_
  refine SeqC.lk (LOp.callB [7] bod11 rfl (fun i h h' => match i, h with | 0, _ => FzP.pure rfl | 1, _ => FzP.slMap (f := vA) (l := aw_f) (List.mem_singleton.2 rfl) rfl rfl rfl rfl rfl rfl (fun a _ => ⟨rfl, rfl⟩)) acont1) rfl rfl ?_
  first | refine SeqC.lk (LOp.pickB rfl rfl rfl) rfl rfl ?_ | refine SeqC.lk (LOp.pkT (a := .v _) rfl (by first | rfl | assumption) rfl) rfl rfl ?_ | refine SeqC.lk (LOp.pkT (a := .tree _ _) rfl (by first | rfl | assumption) rfl) rfl rfl ?_ | refine SeqC.lk (LOp.pkT (a := .agg _) rfl (by first | rfl | assumption) rfl) rfl rfl ?_ | refine SeqC.lk (LOp.pkT (a := .ptr _ _ _) rfl (by first | rfl | assumption) rfl) rfl rfl ?_ | refine SeqC.lk (LOp.pkT (a := .sl _ _ _ _) rfl (by first | rfl | assumption) rfl) rfl rfl ?_ | refine SeqC.lk (LOp.pkT (a := .tp _ _) rfl (by first | rfl | assumption) rfl) rfl rfl ?_ | refine SeqC.lk (LOp.pkT (a := .clo _ _) rfl (by first | rfl | assumption) rfl) rfl rfl ?_ | refine SeqC.lk (LOp.pkT (a := .tup _) rfl (by first | rfl | assumption) rfl) rfl rfl ?_ | refine SeqC.lk (LOp.pkF (a := .v _) rfl (by first | rfl | assumption) rfl) rfl rfl ?_ | refine SeqC.lk (LOp.pkF (a := .tree _ _) rfl (by first | rfl | assumption) rfl) rfl rfl ?_ | refine SeqC.lk (LOp.pkF (a := .agg _) rfl (by first | rfl | assumption) rfl) rfl rfl ?_ | refine SeqC.lk (LOp.pkF (a := .ptr _ _ _) rfl (by first | rfl | assumption) rfl) rfl rfl ?_ | refine SeqC.lk (LOp.pkF (a := .sl _ _ _ _) rfl (by first | rfl | assumption) rfl) rfl rfl ?_ | refine SeqC.lk (LOp.pkF (a := .tp _ _) rfl (by first | rfl | assumption) rfl) rfl rfl ?_ | refine SeqC.lk (LOp.pkF (a := .clo _ _) rfl (by first | rfl | assumption) rfl) rfl rfl ?_ | refine SeqC.lk (LOp.pkF (a := .tup _) rfl (by first | rfl | assumption) rfl) rfl rfl ?_
  first | refine SeqC.lk (LOp.mv (a := .v _) rfl) rfl rfl ?_ | refine SeqC.lk (LOp.mv (a := .tree _ _) rfl) rfl rfl ?_ | refine SeqC.lk (LOp.mv (a := .agg _) rfl) rfl rfl ?_ | refine SeqC.lk (LOp.mv (a := .ptr _ _ _) rfl) rfl rfl ?_ | refine SeqC.lk (LOp.mv (a := .sl _ _ _ _) rfl) rfl rfl ?_ | refine SeqC.lk (LOp.mv (a := .tp _ _) rfl) rfl rfl ?_ | refine SeqC.lk (LOp.mv (a := .clo _ _) rfl) rfl rfl ?_ | refine SeqC.lk (LOp.mv (a := .tup _) rfl) rfl rfl ?_
  first | refine SeqC.lk (LOp.ldN row33 rfl rfl rfl rfl rfl) rfl rfl ?_ | refine SeqC.lk (LOp.ldTN row33 rfl rfl) rfl rfl ?_
  refine SeqC.lk (LOp.call bod24 rfl (integer_p 6)) rfl rfl ?_
  refine SeqC.lk (LOp.bd zr47 pl47 rfl rfl) rfl rfl ?_
  refine SeqC.nw (LOp.bs Try.underlying26 sz47 zr47 rfl rfl rfl rfl) rfl rfl 9 rfl ?_
  refine SeqC.lk (LOp.callB [8] bod11 rfl (fun i h h' => match i, h with | 0, _ => FzP.pure rfl | 1, _ => FzP.slMap (f := vA) (l := aw_g) (List.mem_singleton.2 rfl) rfl rfl rfl rfl rfl rfl (fun a _ => ⟨rfl, rfl⟩)) acont2) rfl rfl ?_
  refine SeqC.lk (LOp.plain rfl (fun _ _ => nofun) (fun _ => rfl)) rfl rfl ?_
  first | refine SeqC.lk (LOp.pickB rfl rfl rfl) rfl rfl ?_ | refine SeqC.lk (LOp.pkT (a := .v _) rfl (by first | rfl | assumption) rfl) rfl rfl ?_ | refine SeqC.lk (LOp.pkT (a := .tree _ _) rfl (by first | rfl | assumption) rfl) rfl rfl ?_ | refine SeqC.lk (LOp.pkT (a := .agg _) rfl (by first | rfl | assumption) rfl) rfl rfl ?_ | refine SeqC.lk (LOp.pkT (a := .ptr _ _ _) rfl (by first | rfl | assumption) rfl) rfl rfl ?_ | refine SeqC.lk (LOp.pkT (a := .sl _ _ _ _) rfl (by first | rfl | assumption) rfl) rfl rfl ?_ | refine SeqC.lk (LOp.pkT (a := .tp _ _) rfl (by first | rfl | assumption) rfl) rfl rfl ?_ | refine SeqC.lk (LOp.pkT (a := .clo _ _) rfl (by first | rfl | assumption) rfl) rfl rfl ?_ | refine SeqC.lk (LOp.pkT (a := .tup _) rfl (by first | rfl | assumption) rfl) rfl rfl ?_ | refine SeqC.lk (LOp.pkF (a := .v _) rfl (by first | rfl | assumption) rfl) rfl rfl ?_ | refine SeqC.lk (LOp.pkF (a := .tree _ _) rfl (by first | rfl | assumption) rfl) rfl rfl ?_ | refine SeqC.lk (LOp.pkF (a := .agg _) rfl (by first | rfl | assumption) rfl) rfl rfl ?_ | refine SeqC.lk (LOp.pkF (a := .ptr _ _ _) rfl (by first | rfl | assumption) rfl) rfl rfl ?_ | refine SeqC.lk (LOp.pkF (a := .sl _ _ _ _) rfl (by first | rfl | assumption) rfl) rfl rfl ?_ | refine SeqC.lk (LOp.pkF (a := .tp _ _) rfl (by first | rfl | assumption) rfl) rfl rfl ?_ | refine SeqC.lk (LOp.pkF (a := .clo _ _) rfl (by first | rfl | assumption) rfl) rfl rfl ?_ | refine SeqC.lk (LOp.pkF (a := .tup _) rfl (by first | rfl | assumption) rfl) rfl rfl ?_
  first | refine SeqC.lk (LOp.mv (a := .v _) rfl) rfl rfl ?_ | refine SeqC.lk (LOp.mv (a := .tree _ _) rfl) rfl rfl ?_ | refine SeqC.lk (LOp.mv (a := .agg _) rfl) rfl rfl ?_ | refine SeqC.lk (LOp.mv (a := .ptr _ _ _) rfl) rfl rfl ?_ | refine SeqC.lk (LOp.mv (a := .sl _ _ _ _) rfl) rfl rfl ?_ | refine SeqC.lk (LOp.mv (a := .tp _ _) rfl) rfl rfl ?_ | refine SeqC.lk (LOp.mv (a := .clo _ _) rfl) rfl rfl ?_ | refine SeqC.lk (LOp.mv (a := .tup _) rfl) rfl rfl ?_
  refine SeqC.lk (LOp.bd zr33 pl33 rfl rfl) rfl rfl ?_
  refine SeqC.lk (LOp.callB [] bod11 rfl (fun i h h' => match i, h with | 0, _ => FzP.agg rfl (fun i h h' => match i, h with | 0, _ => FzP.pure rfl | 1, _ => FzP.nil) | 1, _ => FzP.nil) acont3) rfl rfl ?_
  refine SeqC.lk (LOp.plain rfl (fun _ _ => nofun) (fun _ => rfl)) rfl rfl ?_
  first | refine SeqC.lk (LOp.pickB rfl rfl rfl) rfl rfl ?_ | refine SeqC.lk (LOp.pkT (a := .v _) rfl (by first | rfl | assumption) rfl) rfl rfl ?_ | refine SeqC.lk (LOp.pkT (a := .tree _ _) rfl (by first | rfl | assumption) rfl) rfl rfl ?_ | refine SeqC.lk (LOp.pkT (a := .agg _) rfl (by first | rfl | assumption) rfl) rfl rfl ?_ | refine SeqC.lk (LOp.pkT (a := .ptr _ _ _) rfl (by first | rfl | assumption) rfl) rfl rfl ?_ | refine SeqC.lk (LOp.pkT (a := .sl _ _ _ _) rfl (by first | rfl | assumption) rfl) rfl rfl ?_ | refine SeqC.lk (LOp.pkT (a := .tp _ _) rfl (by first | rfl | assumption) rfl) rfl rfl ?_ | refine SeqC.lk (LOp.pkT (a := .clo _ _) rfl (by first | rfl | assumption) rfl) rfl rfl ?_ | refine SeqC.lk (LOp.pkT (a := .tup _) rfl (by first | rfl | assumption) rfl) rfl rfl ?_ | refine SeqC.lk (LOp.pkF (a := .v _) rfl (by first | rfl | assumption) rfl) rfl rfl ?_ | refine SeqC.lk (LOp.pkF (a := .tree _ _) rfl (by first | rfl | assumption) rfl) rfl rfl ?_ | refine SeqC.lk (LOp.pkF (a := .agg _) rfl (by first | rfl | assumption) rfl) rfl rfl ?_ | refine SeqC.lk (LOp.pkF (a := .ptr _ _ _) rfl (by first | rfl | assumption) rfl) rfl rfl ?_ | refine SeqC.lk (LOp.pkF (a := .sl _ _ _ _) rfl (by first | rfl | assumption) rfl) rfl rfl ?_ | refine SeqC.lk (LOp.pkF (a := .tp _ _) rfl (by first | rfl | assumption) rfl) rfl rfl ?_ | refine SeqC.lk (LOp.pkF (a := .clo _ _) rfl (by first | rfl | assumption) rfl) rfl rfl ?_ | refine SeqC.lk (LOp.pkF (a := .tup _) rfl (by first | rfl | assumption) rfl) rfl rfl ?_
  first | refine SeqC.lk (LOp.asg (a := .v _) rfl) rfl rfl ?_ | refine SeqC.lk (LOp.asg (a := .tree _ _) rfl) rfl rfl ?_ | refine SeqC.lk (LOp.asg (a := .agg _) rfl) rfl rfl ?_ | refine SeqC.lk (LOp.asg (a := .ptr _ _ _) rfl) rfl rfl ?_ | refine SeqC.lk (LOp.asg (a := .sl _ _ _ _) rfl) rfl rfl ?_ | refine SeqC.lk (LOp.asg (a := .tp _ _) rfl) rfl rfl ?_ | refine SeqC.lk (LOp.asg (a := .clo _ _) rfl) rfl rfl ?_ | refine SeqC.lk (LOp.asg (a := .tup _) rfl) rfl rfl ?_
  refine SeqC.nil ⟨by kernel_rfl, ?_⟩
  refine andThen_normal ?_
  refine AWP.ret (?_)
  refine ⟨.inr rfl, Outs.val Try.results8 rfl rfl ?_⟩
  rfl
end Go.Proofs.Ytcbpakbhklbdnaa
