/- Laws of the layer as calls on plain values. -/
import Derived.Test.YtcbpakbhklbdnaaB17
namespace Go.Proofs.Ytcbpakbhklbdnaa
set_option linter.unusedVariables false
open Go.RowKit
theorem bod15 : bodied Try.prog 15 = true := by kernel_rfl
set_option maxHeartbeats 4000000 in
theorem meet_law_e0 (t t2 : Int) (ss ts : List PSide) (hs : ∀ s ∈ ss, s.Wf) (ht : ∀ s ∈ ts, s.Wf) (h0 : rightB ss = false) : PCall Try.prog 4 [bxA t ss, bxA t2 ts] (.v (.bool true)) := by
  refine PCall.of_body Try.func4 rfl Try.ntmps4 (Nat.le_of_ble_eq_true rfl) ?_
  refine AWP.seq ?_
  refine AWP.region ?_
  refine AOps.nw (LOp.bx rfl) rfl rfl 1 rfl ?_
  refine AOps.nw (LOp.bx rfl) rfl rfl 2 rfl ?_
  first | refine AOps.lk (LOp.asg (a := .v _) rfl) rfl rfl ?_ | refine AOps.lk (LOp.asg (a := .tree _ _) rfl) rfl rfl ?_ | refine AOps.lk (LOp.asg (a := .agg _) rfl) rfl rfl ?_ | refine AOps.lk (LOp.asg (a := .ptr _ _ _) rfl) rfl rfl ?_ | refine AOps.lk (LOp.asg (a := .sl _ _ _ _) rfl) rfl rfl ?_ | refine AOps.lk (LOp.asg (a := .tp _ _) rfl) rfl rfl ?_ | refine AOps.lk (LOp.asg (a := .clo _ _) rfl) rfl rfl ?_ | refine AOps.lk (LOp.asg (a := .tup _) rfl) rfl rfl ?_
  refine AOps.nil ?_
  refine andThen_normal ?_
  refine AWP.seq ?_
  refine AWP.seq ?_
  refine AWP.region ?_
  refine AOps.lk (LOp.call bod8 rfl awake_p) rfl rfl ?_
  refine AOps.lk (LOp.plain rfl (fun _ _ => nofun) (fun _ => rfl)) rfl rfl ?_
  first | refine AOps.lk (LOp.mv (a := .v _) rfl) rfl rfl ?_ | refine AOps.lk (LOp.mv (a := .tree _ _) rfl) rfl rfl ?_ | refine AOps.lk (LOp.mv (a := .agg _) rfl) rfl rfl ?_ | refine AOps.lk (LOp.mv (a := .ptr _ _ _) rfl) rfl rfl ?_ | refine AOps.lk (LOp.mv (a := .sl _ _ _ _) rfl) rfl rfl ?_ | refine AOps.lk (LOp.mv (a := .tp _ _) rfl) rfl rfl ?_ | refine AOps.lk (LOp.mv (a := .clo _ _) rfl) rfl rfl ?_ | refine AOps.lk (LOp.mv (a := .tup _) rfl) rfl rfl ?_
  first | refine AOps.lk (LOp.ldN row24 rfl rfl rfl rfl rfl) rfl rfl ?_ | refine AOps.lk (LOp.ldTN row24 rfl rfl) rfl rfl ?_
  refine AOps.lk (LOp.call bod9 rfl (PCall.b (right_p hs) h0)) rfl rfl ?_
  refine AOps.lk (LOp.plain rfl (fun _ _ => nofun) (fun _ => rfl)) rfl rfl ?_
  first | refine AOps.lk (LOp.pickB rfl rfl rfl) rfl rfl ?_ | refine AOps.lk (LOp.pkT (a := .v _) rfl (by first | rfl | assumption) rfl) rfl rfl ?_ | refine AOps.lk (LOp.pkT (a := .tree _ _) rfl (by first | rfl | assumption) rfl) rfl rfl ?_ | refine AOps.lk (LOp.pkT (a := .agg _) rfl (by first | rfl | assumption) rfl) rfl rfl ?_ | refine AOps.lk (LOp.pkT (a := .ptr _ _ _) rfl (by first | rfl | assumption) rfl) rfl rfl ?_ | refine AOps.lk (LOp.pkT (a := .sl _ _ _ _) rfl (by first | rfl | assumption) rfl) rfl rfl ?_ | refine AOps.lk (LOp.pkT (a := .tp _ _) rfl (by first | rfl | assumption) rfl) rfl rfl ?_ | refine AOps.lk (LOp.pkT (a := .clo _ _) rfl (by first | rfl | assumption) rfl) rfl rfl ?_ | refine AOps.lk (LOp.pkT (a := .tup _) rfl (by first | rfl | assumption) rfl) rfl rfl ?_ | refine AOps.lk (LOp.pkF (a := .v _) rfl (by first | rfl | assumption) rfl) rfl rfl ?_ | refine AOps.lk (LOp.pkF (a := .tree _ _) rfl (by first | rfl | assumption) rfl) rfl rfl ?_ | refine AOps.lk (LOp.pkF (a := .agg _) rfl (by first | rfl | assumption) rfl) rfl rfl ?_ | refine AOps.lk (LOp.pkF (a := .ptr _ _ _) rfl (by first | rfl | assumption) rfl) rfl rfl ?_ | refine AOps.lk (LOp.pkF (a := .sl _ _ _ _) rfl (by first | rfl | assumption) rfl) rfl rfl ?_ | refine AOps.lk (LOp.pkF (a := .tp _ _) rfl (by first | rfl | assumption) rfl) rfl rfl ?_ | refine AOps.lk (LOp.pkF (a := .clo _ _) rfl (by first | rfl | assumption) rfl) rfl rfl ?_ | refine AOps.lk (LOp.pkF (a := .tup _) rfl (by first | rfl | assumption) rfl) rfl rfl ?_
  first | refine AOps.lk (LOp.mv (a := .v _) rfl) rfl rfl ?_ | refine AOps.lk (LOp.mv (a := .tree _ _) rfl) rfl rfl ?_ | refine AOps.lk (LOp.mv (a := .agg _) rfl) rfl rfl ?_ | refine AOps.lk (LOp.mv (a := .ptr _ _ _) rfl) rfl rfl ?_ | refine AOps.lk (LOp.mv (a := .sl _ _ _ _) rfl) rfl rfl ?_ | refine AOps.lk (LOp.mv (a := .tp _ _) rfl) rfl rfl ?_ | refine AOps.lk (LOp.mv (a := .clo _ _) rfl) rfl rfl ?_ | refine AOps.lk (LOp.mv (a := .tup _) rfl) rfl rfl ?_
  refine AOps.sk rfl rfl ?_
  refine AOps.sk rfl rfl ?_
  refine AOps.sk rfl rfl ?_
  first | refine AOps.lk (LOp.pickB rfl rfl rfl) rfl rfl ?_ | refine AOps.lk (LOp.pkT (a := .v _) rfl (by first | rfl | assumption) rfl) rfl rfl ?_ | refine AOps.lk (LOp.pkT (a := .tree _ _) rfl (by first | rfl | assumption) rfl) rfl rfl ?_ | refine AOps.lk (LOp.pkT (a := .agg _) rfl (by first | rfl | assumption) rfl) rfl rfl ?_ | refine AOps.lk (LOp.pkT (a := .ptr _ _ _) rfl (by first | rfl | assumption) rfl) rfl rfl ?_ | refine AOps.lk (LOp.pkT (a := .sl _ _ _ _) rfl (by first | rfl | assumption) rfl) rfl rfl ?_ | refine AOps.lk (LOp.pkT (a := .tp _ _) rfl (by first | rfl | assumption) rfl) rfl rfl ?_ | refine AOps.lk (LOp.pkT (a := .clo _ _) rfl (by first | rfl | assumption) rfl) rfl rfl ?_ | refine AOps.lk (LOp.pkT (a := .tup _) rfl (by first | rfl | assumption) rfl) rfl rfl ?_ | refine AOps.lk (LOp.pkF (a := .v _) rfl (by first | rfl | assumption) rfl) rfl rfl ?_ | refine AOps.lk (LOp.pkF (a := .tree _ _) rfl (by first | rfl | assumption) rfl) rfl rfl ?_ | refine AOps.lk (LOp.pkF (a := .agg _) rfl (by first | rfl | assumption) rfl) rfl rfl ?_ | refine AOps.lk (LOp.pkF (a := .ptr _ _ _) rfl (by first | rfl | assumption) rfl) rfl rfl ?_ | refine AOps.lk (LOp.pkF (a := .sl _ _ _ _) rfl (by first | rfl | assumption) rfl) rfl rfl ?_ | refine AOps.lk (LOp.pkF (a := .tp _ _) rfl (by first | rfl | assumption) rfl) rfl rfl ?_ | refine AOps.lk (LOp.pkF (a := .clo _ _) rfl (by first | rfl | assumption) rfl) rfl rfl ?_ | refine AOps.lk (LOp.pkF (a := .tup _) rfl (by first | rfl | assumption) rfl) rfl rfl ?_
  refine AOps.nil ?_
  refine andThen_normal ?_
  refine AWP.condT rfl ?_
  refine AWP.seq ?_
  refine AWP.region ?_
  refine AOps.lk (LOp.call bod8 rfl awake_p) rfl rfl ?_
  first | refine AOps.lk (LOp.asg (a := .v _) rfl) rfl rfl ?_ | refine AOps.lk (LOp.asg (a := .tree _ _) rfl) rfl rfl ?_ | refine AOps.lk (LOp.asg (a := .agg _) rfl) rfl rfl ?_ | refine AOps.lk (LOp.asg (a := .ptr _ _ _) rfl) rfl rfl ?_ | refine AOps.lk (LOp.asg (a := .sl _ _ _ _) rfl) rfl rfl ?_ | refine AOps.lk (LOp.asg (a := .tp _ _) rfl) rfl rfl ?_ | refine AOps.lk (LOp.asg (a := .clo _ _) rfl) rfl rfl ?_ | refine AOps.lk (LOp.asg (a := .tup _) rfl) rfl rfl ?_
  refine AOps.nil ?_
  refine andThen_normal ?_
  refine AWP.ret (andThen_ret (?_))
  refine ⟨.inr rfl, Outs.val Try.results4 rfl rfl ?_⟩
  rfl

set_option maxHeartbeats 4000000 in
theorem meet_law_e1 (t t2 : Int) (ss ts : List PSide) (hs : ∀ s ∈ ss, s.Wf) (ht : ∀ s ∈ ts, s.Wf) (h0 : rightB ss = true) (h1 : rightB ts = false) : PCall Try.prog 4 [bxA t ss, bxA t2 ts] (.v (.bool true)) := by
  refine PCall.of_body Try.func4 rfl Try.ntmps4 (Nat.le_of_ble_eq_true rfl) ?_
  refine AWP.seq ?_
  refine AWP.region ?_
  refine AOps.nw (LOp.bx rfl) rfl rfl 1 rfl ?_
  refine AOps.nw (LOp.bx rfl) rfl rfl 2 rfl ?_
  first | refine AOps.lk (LOp.asg (a := .v _) rfl) rfl rfl ?_ | refine AOps.lk (LOp.asg (a := .tree _ _) rfl) rfl rfl ?_ | refine AOps.lk (LOp.asg (a := .agg _) rfl) rfl rfl ?_ | refine AOps.lk (LOp.asg (a := .ptr _ _ _) rfl) rfl rfl ?_ | refine AOps.lk (LOp.asg (a := .sl _ _ _ _) rfl) rfl rfl ?_ | refine AOps.lk (LOp.asg (a := .tp _ _) rfl) rfl rfl ?_ | refine AOps.lk (LOp.asg (a := .clo _ _) rfl) rfl rfl ?_ | refine AOps.lk (LOp.asg (a := .tup _) rfl) rfl rfl ?_
  refine AOps.nil ?_
  refine andThen_normal ?_
  refine AWP.seq ?_
  refine AWP.seq ?_
  refine AWP.region ?_
  refine AOps.lk (LOp.call bod8 rfl awake_p) rfl rfl ?_
  refine AOps.lk (LOp.plain rfl (fun _ _ => nofun) (fun _ => rfl)) rfl rfl ?_
  first | refine AOps.lk (LOp.mv (a := .v _) rfl) rfl rfl ?_ | refine AOps.lk (LOp.mv (a := .tree _ _) rfl) rfl rfl ?_ | refine AOps.lk (LOp.mv (a := .agg _) rfl) rfl rfl ?_ | refine AOps.lk (LOp.mv (a := .ptr _ _ _) rfl) rfl rfl ?_ | refine AOps.lk (LOp.mv (a := .sl _ _ _ _) rfl) rfl rfl ?_ | refine AOps.lk (LOp.mv (a := .tp _ _) rfl) rfl rfl ?_ | refine AOps.lk (LOp.mv (a := .clo _ _) rfl) rfl rfl ?_ | refine AOps.lk (LOp.mv (a := .tup _) rfl) rfl rfl ?_
  first | refine AOps.lk (LOp.ldN row24 rfl rfl rfl rfl rfl) rfl rfl ?_ | refine AOps.lk (LOp.ldTN row24 rfl rfl) rfl rfl ?_
  refine AOps.lk (LOp.call bod9 rfl (PCall.b (right_p hs) h0)) rfl rfl ?_
  refine AOps.lk (LOp.plain rfl (fun _ _ => nofun) (fun _ => rfl)) rfl rfl ?_
  first | refine AOps.lk (LOp.pickB rfl rfl rfl) rfl rfl ?_ | refine AOps.lk (LOp.pkT (a := .v _) rfl (by first | rfl | assumption) rfl) rfl rfl ?_ | refine AOps.lk (LOp.pkT (a := .tree _ _) rfl (by first | rfl | assumption) rfl) rfl rfl ?_ | refine AOps.lk (LOp.pkT (a := .agg _) rfl (by first | rfl | assumption) rfl) rfl rfl ?_ | refine AOps.lk (LOp.pkT (a := .ptr _ _ _) rfl (by first | rfl | assumption) rfl) rfl rfl ?_ | refine AOps.lk (LOp.pkT (a := .sl _ _ _ _) rfl (by first | rfl | assumption) rfl) rfl rfl ?_ | refine AOps.lk (LOp.pkT (a := .tp _ _) rfl (by first | rfl | assumption) rfl) rfl rfl ?_ | refine AOps.lk (LOp.pkT (a := .clo _ _) rfl (by first | rfl | assumption) rfl) rfl rfl ?_ | refine AOps.lk (LOp.pkT (a := .tup _) rfl (by first | rfl | assumption) rfl) rfl rfl ?_ | refine AOps.lk (LOp.pkF (a := .v _) rfl (by first | rfl | assumption) rfl) rfl rfl ?_ | refine AOps.lk (LOp.pkF (a := .tree _ _) rfl (by first | rfl | assumption) rfl) rfl rfl ?_ | refine AOps.lk (LOp.pkF (a := .agg _) rfl (by first | rfl | assumption) rfl) rfl rfl ?_ | refine AOps.lk (LOp.pkF (a := .ptr _ _ _) rfl (by first | rfl | assumption) rfl) rfl rfl ?_ | refine AOps.lk (LOp.pkF (a := .sl _ _ _ _) rfl (by first | rfl | assumption) rfl) rfl rfl ?_ | refine AOps.lk (LOp.pkF (a := .tp _ _) rfl (by first | rfl | assumption) rfl) rfl rfl ?_ | refine AOps.lk (LOp.pkF (a := .clo _ _) rfl (by first | rfl | assumption) rfl) rfl rfl ?_ | refine AOps.lk (LOp.pkF (a := .tup _) rfl (by first | rfl | assumption) rfl) rfl rfl ?_
  first | refine AOps.lk (LOp.mv (a := .v _) rfl) rfl rfl ?_ | refine AOps.lk (LOp.mv (a := .tree _ _) rfl) rfl rfl ?_ | refine AOps.lk (LOp.mv (a := .agg _) rfl) rfl rfl ?_ | refine AOps.lk (LOp.mv (a := .ptr _ _ _) rfl) rfl rfl ?_ | refine AOps.lk (LOp.mv (a := .sl _ _ _ _) rfl) rfl rfl ?_ | refine AOps.lk (LOp.mv (a := .tp _ _) rfl) rfl rfl ?_ | refine AOps.lk (LOp.mv (a := .clo _ _) rfl) rfl rfl ?_ | refine AOps.lk (LOp.mv (a := .tup _) rfl) rfl rfl ?_
  first | refine AOps.lk (LOp.ldN row24 rfl rfl rfl rfl rfl) rfl rfl ?_ | refine AOps.lk (LOp.ldTN row24 rfl rfl) rfl rfl ?_
  refine AOps.lk (LOp.call bod9 rfl (PCall.b (right_p ht) h1)) rfl rfl ?_
  refine AOps.lk (LOp.plain rfl (fun _ _ => nofun) (fun _ => rfl)) rfl rfl ?_
  first | refine AOps.lk (LOp.pickB rfl rfl rfl) rfl rfl ?_ | refine AOps.lk (LOp.pkT (a := .v _) rfl (by first | rfl | assumption) rfl) rfl rfl ?_ | refine AOps.lk (LOp.pkT (a := .tree _ _) rfl (by first | rfl | assumption) rfl) rfl rfl ?_ | refine AOps.lk (LOp.pkT (a := .agg _) rfl (by first | rfl | assumption) rfl) rfl rfl ?_ | refine AOps.lk (LOp.pkT (a := .ptr _ _ _) rfl (by first | rfl | assumption) rfl) rfl rfl ?_ | refine AOps.lk (LOp.pkT (a := .sl _ _ _ _) rfl (by first | rfl | assumption) rfl) rfl rfl ?_ | refine AOps.lk (LOp.pkT (a := .tp _ _) rfl (by first | rfl | assumption) rfl) rfl rfl ?_ | refine AOps.lk (LOp.pkT (a := .clo _ _) rfl (by first | rfl | assumption) rfl) rfl rfl ?_ | refine AOps.lk (LOp.pkT (a := .tup _) rfl (by first | rfl | assumption) rfl) rfl rfl ?_ | refine AOps.lk (LOp.pkF (a := .v _) rfl (by first | rfl | assumption) rfl) rfl rfl ?_ | refine AOps.lk (LOp.pkF (a := .tree _ _) rfl (by first | rfl | assumption) rfl) rfl rfl ?_ | refine AOps.lk (LOp.pkF (a := .agg _) rfl (by first | rfl | assumption) rfl) rfl rfl ?_ | refine AOps.lk (LOp.pkF (a := .ptr _ _ _) rfl (by first | rfl | assumption) rfl) rfl rfl ?_ | refine AOps.lk (LOp.pkF (a := .sl _ _ _ _) rfl (by first | rfl | assumption) rfl) rfl rfl ?_ | refine AOps.lk (LOp.pkF (a := .tp _ _) rfl (by first | rfl | assumption) rfl) rfl rfl ?_ | refine AOps.lk (LOp.pkF (a := .clo _ _) rfl (by first | rfl | assumption) rfl) rfl rfl ?_ | refine AOps.lk (LOp.pkF (a := .tup _) rfl (by first | rfl | assumption) rfl) rfl rfl ?_
  refine AOps.nil ?_
  refine andThen_normal ?_
  refine AWP.condT rfl ?_
  refine AWP.seq ?_
  refine AWP.region ?_
  refine AOps.lk (LOp.call bod8 rfl awake_p) rfl rfl ?_
  first | refine AOps.lk (LOp.asg (a := .v _) rfl) rfl rfl ?_ | refine AOps.lk (LOp.asg (a := .tree _ _) rfl) rfl rfl ?_ | refine AOps.lk (LOp.asg (a := .agg _) rfl) rfl rfl ?_ | refine AOps.lk (LOp.asg (a := .ptr _ _ _) rfl) rfl rfl ?_ | refine AOps.lk (LOp.asg (a := .sl _ _ _ _) rfl) rfl rfl ?_ | refine AOps.lk (LOp.asg (a := .tp _ _) rfl) rfl rfl ?_ | refine AOps.lk (LOp.asg (a := .clo _ _) rfl) rfl rfl ?_ | refine AOps.lk (LOp.asg (a := .tup _) rfl) rfl rfl ?_
  refine AOps.nil ?_
  refine andThen_normal ?_
  refine AWP.ret (andThen_ret (?_))
  refine ⟨.inr rfl, Outs.val Try.results4 rfl rfl ?_⟩
  rfl

set_option maxHeartbeats 4000000 in
theorem meet_law_m_true (t t2 : Int) (ss ts : List PSide) (hs : ∀ s ∈ ss, s.Wf) (ht : ∀ s ∈ ts, s.Wf) (h0 : rightB ss = true) (h1 : rightB ts = true) (hm : meetB t ss t2 ts = true) : PCall Try.prog 4 [bxA t ss, bxA t2 ts] (.v (.bool true)) := by
  have hl0 := rightB_len h0
  have hl1 := rightB_len h1
  have hm2 := (meetB_comm t2 t ts ss).trans hm
  refine PCall.of_body Try.func4 rfl Try.ntmps4 (Nat.le_of_ble_eq_true rfl) ?_
  refine AWP.seq ?_
  refine AWP.region ?_
  refine AOps.nw (LOp.bx rfl) rfl rfl 1 rfl ?_
  refine AOps.nw (LOp.bx rfl) rfl rfl 2 rfl ?_
  first | refine AOps.lk (LOp.asg (a := .v _) rfl) rfl rfl ?_ | refine AOps.lk (LOp.asg (a := .tree _ _) rfl) rfl rfl ?_ | refine AOps.lk (LOp.asg (a := .agg _) rfl) rfl rfl ?_ | refine AOps.lk (LOp.asg (a := .ptr _ _ _) rfl) rfl rfl ?_ | refine AOps.lk (LOp.asg (a := .sl _ _ _ _) rfl) rfl rfl ?_ | refine AOps.lk (LOp.asg (a := .tp _ _) rfl) rfl rfl ?_ | refine AOps.lk (LOp.asg (a := .clo _ _) rfl) rfl rfl ?_ | refine AOps.lk (LOp.asg (a := .tup _) rfl) rfl rfl ?_
  refine AOps.nil ?_
  refine andThen_normal ?_
  refine AWP.seq ?_
  refine AWP.seq ?_
  refine AWP.region ?_
  refine AOps.lk (LOp.call bod8 rfl awake_p) rfl rfl ?_
  refine AOps.lk (LOp.plain rfl (fun _ _ => nofun) (fun _ => rfl)) rfl rfl ?_
  first | refine AOps.lk (LOp.mv (a := .v _) rfl) rfl rfl ?_ | refine AOps.lk (LOp.mv (a := .tree _ _) rfl) rfl rfl ?_ | refine AOps.lk (LOp.mv (a := .agg _) rfl) rfl rfl ?_ | refine AOps.lk (LOp.mv (a := .ptr _ _ _) rfl) rfl rfl ?_ | refine AOps.lk (LOp.mv (a := .sl _ _ _ _) rfl) rfl rfl ?_ | refine AOps.lk (LOp.mv (a := .tp _ _) rfl) rfl rfl ?_ | refine AOps.lk (LOp.mv (a := .clo _ _) rfl) rfl rfl ?_ | refine AOps.lk (LOp.mv (a := .tup _) rfl) rfl rfl ?_
  first | refine AOps.lk (LOp.ldN row24 rfl rfl rfl rfl rfl) rfl rfl ?_ | refine AOps.lk (LOp.ldTN row24 rfl rfl) rfl rfl ?_
  refine AOps.lk (LOp.call bod9 rfl (PCall.b (right_p hs) h0)) rfl rfl ?_
  refine AOps.lk (LOp.plain rfl (fun _ _ => nofun) (fun _ => rfl)) rfl rfl ?_
  first | refine AOps.lk (LOp.pickB rfl rfl rfl) rfl rfl ?_ | refine AOps.lk (LOp.pkT (a := .v _) rfl (by first | rfl | assumption) rfl) rfl rfl ?_ | refine AOps.lk (LOp.pkT (a := .tree _ _) rfl (by first | rfl | assumption) rfl) rfl rfl ?_ | refine AOps.lk (LOp.pkT (a := .agg _) rfl (by first | rfl | assumption) rfl) rfl rfl ?_ | refine AOps.lk (LOp.pkT (a := .ptr _ _ _) rfl (by first | rfl | assumption) rfl) rfl rfl ?_ | refine AOps.lk (LOp.pkT (a := .sl _ _ _ _) rfl (by first | rfl | assumption) rfl) rfl rfl ?_ | refine AOps.lk (LOp.pkT (a := .tp _ _) rfl (by first | rfl | assumption) rfl) rfl rfl ?_ | refine AOps.lk (LOp.pkT (a := .clo _ _) rfl (by first | rfl | assumption) rfl) rfl rfl ?_ | refine AOps.lk (LOp.pkT (a := .tup _) rfl (by first | rfl | assumption) rfl) rfl rfl ?_ | refine AOps.lk (LOp.pkF (a := .v _) rfl (by first | rfl | assumption) rfl) rfl rfl ?_ | refine AOps.lk (LOp.pkF (a := .tree _ _) rfl (by first | rfl | assumption) rfl) rfl rfl ?_ | refine AOps.lk (LOp.pkF (a := .agg _) rfl (by first | rfl | assumption) rfl) rfl rfl ?_ | refine AOps.lk (LOp.pkF (a := .ptr _ _ _) rfl (by first | rfl | assumption) rfl) rfl rfl ?_ | refine AOps.lk (LOp.pkF (a := .sl _ _ _ _) rfl (by first | rfl | assumption) rfl) rfl rfl ?_ | refine AOps.lk (LOp.pkF (a := .tp _ _) rfl (by first | rfl | assumption) rfl) rfl rfl ?_ | refine AOps.lk (LOp.pkF (a := .clo _ _) rfl (by first | rfl | assumption) rfl) rfl rfl ?_ | refine AOps.lk (LOp.pkF (a := .tup _) rfl (by first | rfl | assumption) rfl) rfl rfl ?_
  first | refine AOps.lk (LOp.mv (a := .v _) rfl) rfl rfl ?_ | refine AOps.lk (LOp.mv (a := .tree _ _) rfl) rfl rfl ?_ | refine AOps.lk (LOp.mv (a := .agg _) rfl) rfl rfl ?_ | refine AOps.lk (LOp.mv (a := .ptr _ _ _) rfl) rfl rfl ?_ | refine AOps.lk (LOp.mv (a := .sl _ _ _ _) rfl) rfl rfl ?_ | refine AOps.lk (LOp.mv (a := .tp _ _) rfl) rfl rfl ?_ | refine AOps.lk (LOp.mv (a := .clo _ _) rfl) rfl rfl ?_ | refine AOps.lk (LOp.mv (a := .tup _) rfl) rfl rfl ?_
  first | refine AOps.lk (LOp.ldN row24 rfl rfl rfl rfl rfl) rfl rfl ?_ | refine AOps.lk (LOp.ldTN row24 rfl rfl) rfl rfl ?_
  refine AOps.lk (LOp.call bod9 rfl (PCall.b (right_p ht) h1)) rfl rfl ?_
  refine AOps.lk (LOp.plain rfl (fun _ _ => nofun) (fun _ => rfl)) rfl rfl ?_
  first | refine AOps.lk (LOp.pickB rfl rfl rfl) rfl rfl ?_ | refine AOps.lk (LOp.pkT (a := .v _) rfl (by first | rfl | assumption) rfl) rfl rfl ?_ | refine AOps.lk (LOp.pkT (a := .tree _ _) rfl (by first | rfl | assumption) rfl) rfl rfl ?_ | refine AOps.lk (LOp.pkT (a := .agg _) rfl (by first | rfl | assumption) rfl) rfl rfl ?_ | refine AOps.lk (LOp.pkT (a := .ptr _ _ _) rfl (by first | rfl | assumption) rfl) rfl rfl ?_ | refine AOps.lk (LOp.pkT (a := .sl _ _ _ _) rfl (by first | rfl | assumption) rfl) rfl rfl ?_ | refine AOps.lk (LOp.pkT (a := .tp _ _) rfl (by first | rfl | assumption) rfl) rfl rfl ?_ | refine AOps.lk (LOp.pkT (a := .clo _ _) rfl (by first | rfl | assumption) rfl) rfl rfl ?_ | refine AOps.lk (LOp.pkT (a := .tup _) rfl (by first | rfl | assumption) rfl) rfl rfl ?_ | refine AOps.lk (LOp.pkF (a := .v _) rfl (by first | rfl | assumption) rfl) rfl rfl ?_ | refine AOps.lk (LOp.pkF (a := .tree _ _) rfl (by first | rfl | assumption) rfl) rfl rfl ?_ | refine AOps.lk (LOp.pkF (a := .agg _) rfl (by first | rfl | assumption) rfl) rfl rfl ?_ | refine AOps.lk (LOp.pkF (a := .ptr _ _ _) rfl (by first | rfl | assumption) rfl) rfl rfl ?_ | refine AOps.lk (LOp.pkF (a := .sl _ _ _ _) rfl (by first | rfl | assumption) rfl) rfl rfl ?_ | refine AOps.lk (LOp.pkF (a := .tp _ _) rfl (by first | rfl | assumption) rfl) rfl rfl ?_ | refine AOps.lk (LOp.pkF (a := .clo _ _) rfl (by first | rfl | assumption) rfl) rfl rfl ?_ | refine AOps.lk (LOp.pkF (a := .tup _) rfl (by first | rfl | assumption) rfl) rfl rfl ?_
  refine AOps.nil ?_
  refine andThen_normal ?_
  refine AWP.condF rfl ?_
  refine AWP.skip ?_
  refine andThen_normal ?_
  refine AWP.seq ?_
  refine AWP.regD mixed ?_
  first | refine SeqC.lk (LOp.ldN row24 rfl rfl rfl rfl rfl) rfl rfl ?_ | refine SeqC.lk (LOp.ldTN row24 rfl rfl) rfl rfl ?_
  refine SeqC.lk (LOp.call bod12 rfl (own_p hs (by omega))) rfl rfl ?_
  first | refine SeqC.lk (LOp.ldN row24 rfl rfl rfl rfl rfl) rfl rfl ?_ | refine SeqC.lk (LOp.ldTN row24 rfl rfl) rfl rfl ?_
  refine SeqC.lk (LOp.call bod12 rfl (own_p ht (by omega))) rfl rfl ?_
  refine SeqC.lk (LOp.call bod14 rfl (PCall.b (meet_p hs ht) hm)) rfl rfl ?_
  first | refine SeqC.lk (LOp.ldN row24 rfl rfl rfl rfl rfl) rfl rfl ?_ | refine SeqC.lk (LOp.ldTN row24 rfl rfl) rfl rfl ?_
  first | refine SeqC.lk (LOp.ldN row24 rfl rfl rfl rfl rfl) rfl rfl ?_ | refine SeqC.lk (LOp.ldTN row24 rfl rfl) rfl rfl ?_
  refine SeqC.lk (LOp.call bod15 rfl (PCall.b (rmeet_p hs ht) hm)) rfl rfl ?_
  refine SeqC.lk (LOp.eqB rfl rfl Try.underlying4) rfl rfl ?_
  first | refine SeqC.lk (LOp.mv (a := .v _) rfl) rfl rfl ?_ | refine SeqC.lk (LOp.mv (a := .tree _ _) rfl) rfl rfl ?_ | refine SeqC.lk (LOp.mv (a := .agg _) rfl) rfl rfl ?_ | refine SeqC.lk (LOp.mv (a := .ptr _ _ _) rfl) rfl rfl ?_ | refine SeqC.lk (LOp.mv (a := .sl _ _ _ _) rfl) rfl rfl ?_ | refine SeqC.lk (LOp.mv (a := .tp _ _) rfl) rfl rfl ?_ | refine SeqC.lk (LOp.mv (a := .clo _ _) rfl) rfl rfl ?_ | refine SeqC.lk (LOp.mv (a := .tup _) rfl) rfl rfl ?_
  first | refine SeqC.lk (LOp.ldN row24 rfl rfl rfl rfl rfl) rfl rfl ?_ | refine SeqC.lk (LOp.ldTN row24 rfl rfl) rfl rfl ?_
  refine SeqC.lk (LOp.call bod12 rfl (own_p ht (by omega))) rfl rfl ?_
  first | refine SeqC.lk (LOp.ldN row24 rfl rfl rfl rfl rfl) rfl rfl ?_ | refine SeqC.lk (LOp.ldTN row24 rfl rfl) rfl rfl ?_
  refine SeqC.lk (LOp.call bod12 rfl (own_p hs (by omega))) rfl rfl ?_
  refine SeqC.lk (LOp.call bod14 rfl (PCall.b (meet_p ht hs) hm2)) rfl rfl ?_
  first | refine SeqC.lk (LOp.ldN row24 rfl rfl rfl rfl rfl) rfl rfl ?_ | refine SeqC.lk (LOp.ldTN row24 rfl rfl) rfl rfl ?_
  first | refine SeqC.lk (LOp.ldN row24 rfl rfl rfl rfl rfl) rfl rfl ?_ | refine SeqC.lk (LOp.ldTN row24 rfl rfl) rfl rfl ?_
  refine SeqC.lk (LOp.call bod15 rfl (PCall.b (rmeet_p hs ht) hm)) rfl rfl ?_
  refine SeqC.lk (LOp.eqB rfl rfl Try.underlying4) rfl rfl ?_
  first | refine SeqC.lk (LOp.pickB rfl rfl rfl) rfl rfl ?_ | refine SeqC.lk (LOp.pkT (a := .v _) rfl (by first | rfl | assumption) rfl) rfl rfl ?_ | refine SeqC.lk (LOp.pkT (a := .tree _ _) rfl (by first | rfl | assumption) rfl) rfl rfl ?_ | refine SeqC.lk (LOp.pkT (a := .agg _) rfl (by first | rfl | assumption) rfl) rfl rfl ?_ | refine SeqC.lk (LOp.pkT (a := .ptr _ _ _) rfl (by first | rfl | assumption) rfl) rfl rfl ?_ | refine SeqC.lk (LOp.pkT (a := .sl _ _ _ _) rfl (by first | rfl | assumption) rfl) rfl rfl ?_ | refine SeqC.lk (LOp.pkT (a := .tp _ _) rfl (by first | rfl | assumption) rfl) rfl rfl ?_ | refine SeqC.lk (LOp.pkT (a := .clo _ _) rfl (by first | rfl | assumption) rfl) rfl rfl ?_ | refine SeqC.lk (LOp.pkT (a := .tup _) rfl (by first | rfl | assumption) rfl) rfl rfl ?_ | refine SeqC.lk (LOp.pkF (a := .v _) rfl (by first | rfl | assumption) rfl) rfl rfl ?_ | refine SeqC.lk (LOp.pkF (a := .tree _ _) rfl (by first | rfl | assumption) rfl) rfl rfl ?_ | refine SeqC.lk (LOp.pkF (a := .agg _) rfl (by first | rfl | assumption) rfl) rfl rfl ?_ | refine SeqC.lk (LOp.pkF (a := .ptr _ _ _) rfl (by first | rfl | assumption) rfl) rfl rfl ?_ | refine SeqC.lk (LOp.pkF (a := .sl _ _ _ _) rfl (by first | rfl | assumption) rfl) rfl rfl ?_ | refine SeqC.lk (LOp.pkF (a := .tp _ _) rfl (by first | rfl | assumption) rfl) rfl rfl ?_ | refine SeqC.lk (LOp.pkF (a := .clo _ _) rfl (by first | rfl | assumption) rfl) rfl rfl ?_ | refine SeqC.lk (LOp.pkF (a := .tup _) rfl (by first | rfl | assumption) rfl) rfl rfl ?_
  first | refine SeqC.lk (LOp.asg (a := .v _) rfl) rfl rfl ?_ | refine SeqC.lk (LOp.asg (a := .tree _ _) rfl) rfl rfl ?_ | refine SeqC.lk (LOp.asg (a := .agg _) rfl) rfl rfl ?_ | refine SeqC.lk (LOp.asg (a := .ptr _ _ _) rfl) rfl rfl ?_ | refine SeqC.lk (LOp.asg (a := .sl _ _ _ _) rfl) rfl rfl ?_ | refine SeqC.lk (LOp.asg (a := .tp _ _) rfl) rfl rfl ?_ | refine SeqC.lk (LOp.asg (a := .clo _ _) rfl) rfl rfl ?_ | refine SeqC.lk (LOp.asg (a := .tup _) rfl) rfl rfl ?_
  refine SeqC.nil ⟨by kernel_rfl, ?_⟩
  refine andThen_normal ?_
  refine AWP.ret (?_)
  refine ⟨.inr rfl, Outs.val Try.results4 rfl rfl ?_⟩
  exact bool_ret rfl

set_option maxHeartbeats 4000000 in
theorem meet_law_m_false (t t2 : Int) (ss ts : List PSide) (hs : ∀ s ∈ ss, s.Wf) (ht : ∀ s ∈ ts, s.Wf) (h0 : rightB ss = true) (h1 : rightB ts = true) (hm : meetB t ss t2 ts = false) : PCall Try.prog 4 [bxA t ss, bxA t2 ts] (.v (.bool true)) := by
  have hl0 := rightB_len h0
  have hl1 := rightB_len h1
  have hm2 := (meetB_comm t2 t ts ss).trans hm
  refine PCall.of_body Try.func4 rfl Try.ntmps4 (Nat.le_of_ble_eq_true rfl) ?_
  refine AWP.seq ?_
  refine AWP.region ?_
  refine AOps.nw (LOp.bx rfl) rfl rfl 1 rfl ?_
  refine AOps.nw (LOp.bx rfl) rfl rfl 2 rfl ?_
  first | refine AOps.lk (LOp.asg (a := .v _) rfl) rfl rfl ?_ | refine AOps.lk (LOp.asg (a := .tree _ _) rfl) rfl rfl ?_ | refine AOps.lk (LOp.asg (a := .agg _) rfl) rfl rfl ?_ | refine AOps.lk (LOp.asg (a := .ptr _ _ _) rfl) rfl rfl ?_ | refine AOps.lk (LOp.asg (a := .sl _ _ _ _) rfl) rfl rfl ?_ | refine AOps.lk (LOp.asg (a := .tp _ _) rfl) rfl rfl ?_ | refine AOps.lk (LOp.asg (a := .clo _ _) rfl) rfl rfl ?_ | refine AOps.lk (LOp.asg (a := .tup _) rfl) rfl rfl ?_
  refine AOps.nil ?_
  refine andThen_normal ?_
  refine AWP.seq ?_
  refine AWP.seq ?_
  refine AWP.region ?_
  refine AOps.lk (LOp.call bod8 rfl awake_p) rfl rfl ?_
  refine AOps.lk (LOp.plain rfl (fun _ _ => nofun) (fun _ => rfl)) rfl rfl ?_
  first | refine AOps.lk (LOp.mv (a := .v _) rfl) rfl rfl ?_ | refine AOps.lk (LOp.mv (a := .tree _ _) rfl) rfl rfl ?_ | refine AOps.lk (LOp.mv (a := .agg _) rfl) rfl rfl ?_ | refine AOps.lk (LOp.mv (a := .ptr _ _ _) rfl) rfl rfl ?_ | refine AOps.lk (LOp.mv (a := .sl _ _ _ _) rfl) rfl rfl ?_ | refine AOps.lk (LOp.mv (a := .tp _ _) rfl) rfl rfl ?_ | refine AOps.lk (LOp.mv (a := .clo _ _) rfl) rfl rfl ?_ | refine AOps.lk (LOp.mv (a := .tup _) rfl) rfl rfl ?_
  first | refine AOps.lk (LOp.ldN row24 rfl rfl rfl rfl rfl) rfl rfl ?_ | refine AOps.lk (LOp.ldTN row24 rfl rfl) rfl rfl ?_
  refine AOps.lk (LOp.call bod9 rfl (PCall.b (right_p hs) h0)) rfl rfl ?_
  refine AOps.lk (LOp.plain rfl (fun _ _ => nofun) (fun _ => rfl)) rfl rfl ?_
  first | refine AOps.lk (LOp.pickB rfl rfl rfl) rfl rfl ?_ | refine AOps.lk (LOp.pkT (a := .v _) rfl (by first | rfl | assumption) rfl) rfl rfl ?_ | refine AOps.lk (LOp.pkT (a := .tree _ _) rfl (by first | rfl | assumption) rfl) rfl rfl ?_ | refine AOps.lk (LOp.pkT (a := .agg _) rfl (by first | rfl | assumption) rfl) rfl rfl ?_ | refine AOps.lk (LOp.pkT (a := .ptr _ _ _) rfl (by first | rfl | assumption) rfl) rfl rfl ?_ | refine AOps.lk (LOp.pkT (a := .sl _ _ _ _) rfl (by first | rfl | assumption) rfl) rfl rfl ?_ | refine AOps.lk (LOp.pkT (a := .tp _ _) rfl (by first | rfl | assumption) rfl) rfl rfl ?_ | refine AOps.lk (LOp.pkT (a := .clo _ _) rfl (by first | rfl | assumption) rfl) rfl rfl ?_ | refine AOps.lk (LOp.pkT (a := .tup _) rfl (by first | rfl | assumption) rfl) rfl rfl ?_ | refine AOps.lk (LOp.pkF (a := .v _) rfl (by first | rfl | assumption) rfl) rfl rfl ?_ | refine AOps.lk (LOp.pkF (a := .tree _ _) rfl (by first | rfl | assumption) rfl) rfl rfl ?_ | refine AOps.lk (LOp.pkF (a := .agg _) rfl (by first | rfl | assumption) rfl) rfl rfl ?_ | refine AOps.lk (LOp.pkF (a := .ptr _ _ _) rfl (by first | rfl | assumption) rfl) rfl rfl ?_ | refine AOps.lk (LOp.pkF (a := .sl _ _ _ _) rfl (by first | rfl | assumption) rfl) rfl rfl ?_ | refine AOps.lk (LOp.pkF (a := .tp _ _) rfl (by first | rfl | assumption) rfl) rfl rfl ?_ | refine AOps.lk (LOp.pkF (a := .clo _ _) rfl (by first | rfl | assumption) rfl) rfl rfl ?_ | refine AOps.lk (LOp.pkF (a := .tup _) rfl (by first | rfl | assumption) rfl) rfl rfl ?_
  first | refine AOps.lk (LOp.mv (a := .v _) rfl) rfl rfl ?_ | refine AOps.lk (LOp.mv (a := .tree _ _) rfl) rfl rfl ?_ | refine AOps.lk (LOp.mv (a := .agg _) rfl) rfl rfl ?_ | refine AOps.lk (LOp.mv (a := .ptr _ _ _) rfl) rfl rfl ?_ | refine AOps.lk (LOp.mv (a := .sl _ _ _ _) rfl) rfl rfl ?_ | refine AOps.lk (LOp.mv (a := .tp _ _) rfl) rfl rfl ?_ | refine AOps.lk (LOp.mv (a := .clo _ _) rfl) rfl rfl ?_ | refine AOps.lk (LOp.mv (a := .tup _) rfl) rfl rfl ?_
  first | refine AOps.lk (LOp.ldN row24 rfl rfl rfl rfl rfl) rfl rfl ?_ | refine AOps.lk (LOp.ldTN row24 rfl rfl) rfl rfl ?_
  refine AOps.lk (LOp.call bod9 rfl (PCall.b (right_p ht) h1)) rfl rfl ?_
  refine AOps.lk (LOp.plain rfl (fun _ _ => nofun) (fun _ => rfl)) rfl rfl ?_
  first | refine AOps.lk (LOp.pickB rfl rfl rfl) rfl rfl ?_ | refine AOps.lk (LOp.pkT (a := .v _) rfl (by first | rfl | assumption) rfl) rfl rfl ?_ | refine AOps.lk (LOp.pkT (a := .tree _ _) rfl (by first | rfl | assumption) rfl) rfl rfl ?_ | refine AOps.lk (LOp.pkT (a := .agg _) rfl (by first | rfl | assumption) rfl) rfl rfl ?_ | refine AOps.lk (LOp.pkT (a := .ptr _ _ _) rfl (by first | rfl | assumption) rfl) rfl rfl ?_ | refine AOps.lk (LOp.pkT (a := .sl _ _ _ _) rfl (by first | rfl | assumption) rfl) rfl rfl ?_ | refine AOps.lk (LOp.pkT (a := .tp _ _) rfl (by first | rfl | assumption) rfl) rfl rfl ?_ | refine AOps.lk (LOp.pkT (a := .clo _ _) rfl (by first | rfl | assumption) rfl) rfl rfl ?_ | refine AOps.lk (LOp.pkT (a := .tup _) rfl (by first | rfl | assumption) rfl) rfl rfl ?_ | refine AOps.lk (LOp.pkF (a := .v _) rfl (by first | rfl | assumption) rfl) rfl rfl ?_ | refine AOps.lk (LOp.pkF (a := .tree _ _) rfl (by first | rfl | assumption) rfl) rfl rfl ?_ | refine AOps.lk (LOp.pkF (a := .agg _) rfl (by first | rfl | assumption) rfl) rfl rfl ?_ | refine AOps.lk (LOp.pkF (a := .ptr _ _ _) rfl (by first | rfl | assumption) rfl) rfl rfl ?_ | refine AOps.lk (LOp.pkF (a := .sl _ _ _ _) rfl (by first | rfl | assumption) rfl) rfl rfl ?_ | refine AOps.lk (LOp.pkF (a := .tp _ _) rfl (by first | rfl | assumption) rfl) rfl rfl ?_ | refine AOps.lk (LOp.pkF (a := .clo _ _) rfl (by first | rfl | assumption) rfl) rfl rfl ?_ | refine AOps.lk (LOp.pkF (a := .tup _) rfl (by first | rfl | assumption) rfl) rfl rfl ?_
  refine AOps.nil ?_
  refine andThen_normal ?_
  refine AWP.condF rfl ?_
  refine AWP.skip ?_
  refine andThen_normal ?_
  refine AWP.seq ?_
  refine AWP.regD mixed ?_
  first | refine SeqC.lk (LOp.ldN row24 rfl rfl rfl rfl rfl) rfl rfl ?_ | refine SeqC.lk (LOp.ldTN row24 rfl rfl) rfl rfl ?_
  refine SeqC.lk (LOp.call bod12 rfl (own_p hs (by omega))) rfl rfl ?_
  first | refine SeqC.lk (LOp.ldN row24 rfl rfl rfl rfl rfl) rfl rfl ?_ | refine SeqC.lk (LOp.ldTN row24 rfl rfl) rfl rfl ?_
  refine SeqC.lk (LOp.call bod12 rfl (own_p ht (by omega))) rfl rfl ?_
  refine SeqC.lk (LOp.call bod14 rfl (PCall.b (meet_p hs ht) hm)) rfl rfl ?_
  first | refine SeqC.lk (LOp.ldN row24 rfl rfl rfl rfl rfl) rfl rfl ?_ | refine SeqC.lk (LOp.ldTN row24 rfl rfl) rfl rfl ?_
  first | refine SeqC.lk (LOp.ldN row24 rfl rfl rfl rfl rfl) rfl rfl ?_ | refine SeqC.lk (LOp.ldTN row24 rfl rfl) rfl rfl ?_
  refine SeqC.lk (LOp.call bod15 rfl (PCall.b (rmeet_p hs ht) hm)) rfl rfl ?_
  refine SeqC.lk (LOp.eqB rfl rfl Try.underlying4) rfl rfl ?_
  first | refine SeqC.lk (LOp.mv (a := .v _) rfl) rfl rfl ?_ | refine SeqC.lk (LOp.mv (a := .tree _ _) rfl) rfl rfl ?_ | refine SeqC.lk (LOp.mv (a := .agg _) rfl) rfl rfl ?_ | refine SeqC.lk (LOp.mv (a := .ptr _ _ _) rfl) rfl rfl ?_ | refine SeqC.lk (LOp.mv (a := .sl _ _ _ _) rfl) rfl rfl ?_ | refine SeqC.lk (LOp.mv (a := .tp _ _) rfl) rfl rfl ?_ | refine SeqC.lk (LOp.mv (a := .clo _ _) rfl) rfl rfl ?_ | refine SeqC.lk (LOp.mv (a := .tup _) rfl) rfl rfl ?_
  first | refine SeqC.lk (LOp.ldN row24 rfl rfl rfl rfl rfl) rfl rfl ?_ | refine SeqC.lk (LOp.ldTN row24 rfl rfl) rfl rfl ?_
  refine SeqC.lk (LOp.call bod12 rfl (own_p ht (by omega))) rfl rfl ?_
  first | refine SeqC.lk (LOp.ldN row24 rfl rfl rfl rfl rfl) rfl rfl ?_ | refine SeqC.lk (LOp.ldTN row24 rfl rfl) rfl rfl ?_
  refine SeqC.lk (LOp.call bod12 rfl (own_p hs (by omega))) rfl rfl ?_
  refine SeqC.lk (LOp.call bod14 rfl (PCall.b (meet_p ht hs) hm2)) rfl rfl ?_
  first | refine SeqC.lk (LOp.ldN row24 rfl rfl rfl rfl rfl) rfl rfl ?_ | refine SeqC.lk (LOp.ldTN row24 rfl rfl) rfl rfl ?_
  first | refine SeqC.lk (LOp.ldN row24 rfl rfl rfl rfl rfl) rfl rfl ?_ | refine SeqC.lk (LOp.ldTN row24 rfl rfl) rfl rfl ?_
  refine SeqC.lk (LOp.call bod15 rfl (PCall.b (rmeet_p hs ht) hm)) rfl rfl ?_
  refine SeqC.lk (LOp.eqB rfl rfl Try.underlying4) rfl rfl ?_
  first | refine SeqC.lk (LOp.pickB rfl rfl rfl) rfl rfl ?_ | refine SeqC.lk (LOp.pkT (a := .v _) rfl (by first | rfl | assumption) rfl) rfl rfl ?_ | refine SeqC.lk (LOp.pkT (a := .tree _ _) rfl (by first | rfl | assumption) rfl) rfl rfl ?_ | refine SeqC.lk (LOp.pkT (a := .agg _) rfl (by first | rfl | assumption) rfl) rfl rfl ?_ | refine SeqC.lk (LOp.pkT (a := .ptr _ _ _) rfl (by first | rfl | assumption) rfl) rfl rfl ?_ | refine SeqC.lk (LOp.pkT (a := .sl _ _ _ _) rfl (by first | rfl | assumption) rfl) rfl rfl ?_ | refine SeqC.lk (LOp.pkT (a := .tp _ _) rfl (by first | rfl | assumption) rfl) rfl rfl ?_ | refine SeqC.lk (LOp.pkT (a := .clo _ _) rfl (by first | rfl | assumption) rfl) rfl rfl ?_ | refine SeqC.lk (LOp.pkT (a := .tup _) rfl (by first | rfl | assumption) rfl) rfl rfl ?_ | refine SeqC.lk (LOp.pkF (a := .v _) rfl (by first | rfl | assumption) rfl) rfl rfl ?_ | refine SeqC.lk (LOp.pkF (a := .tree _ _) rfl (by first | rfl | assumption) rfl) rfl rfl ?_ | refine SeqC.lk (LOp.pkF (a := .agg _) rfl (by first | rfl | assumption) rfl) rfl rfl ?_ | refine SeqC.lk (LOp.pkF (a := .ptr _ _ _) rfl (by first | rfl | assumption) rfl) rfl rfl ?_ | refine SeqC.lk (LOp.pkF (a := .sl _ _ _ _) rfl (by first | rfl | assumption) rfl) rfl rfl ?_ | refine SeqC.lk (LOp.pkF (a := .tp _ _) rfl (by first | rfl | assumption) rfl) rfl rfl ?_ | refine SeqC.lk (LOp.pkF (a := .clo _ _) rfl (by first | rfl | assumption) rfl) rfl rfl ?_ | refine SeqC.lk (LOp.pkF (a := .tup _) rfl (by first | rfl | assumption) rfl) rfl rfl ?_
  first | refine SeqC.lk (LOp.asg (a := .v _) rfl) rfl rfl ?_ | refine SeqC.lk (LOp.asg (a := .tree _ _) rfl) rfl rfl ?_ | refine SeqC.lk (LOp.asg (a := .agg _) rfl) rfl rfl ?_ | refine SeqC.lk (LOp.asg (a := .ptr _ _ _) rfl) rfl rfl ?_ | refine SeqC.lk (LOp.asg (a := .sl _ _ _ _) rfl) rfl rfl ?_ | refine SeqC.lk (LOp.asg (a := .tp _ _) rfl) rfl rfl ?_ | refine SeqC.lk (LOp.asg (a := .clo _ _) rfl) rfl rfl ?_ | refine SeqC.lk (LOp.asg (a := .tup _) rfl) rfl rfl ?_
  refine SeqC.nil ⟨by kernel_rfl, ?_⟩
  refine andThen_normal ?_
  refine AWP.ret (?_)
  refine ⟨.inr rfl, Outs.val Try.results4 rfl rfl ?_⟩
  exact bool_ret rfl
end Go.Proofs.Ytcbpakbhklbdnaa
