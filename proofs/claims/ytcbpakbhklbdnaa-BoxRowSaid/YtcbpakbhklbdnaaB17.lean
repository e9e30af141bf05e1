/- BoxContains. -/
import Derived.Test.YtcbpakbhklbdnaaB16
import Derived.Test.YtcbpakbhklbdnaaB15
namespace Go.Proofs.Ytcbpakbhklbdnaa
set_option linter.unusedVariables false
open Go.RowKit
theorem PCall.b {P : Program} {f : FuncId} {xs : List AV} {b c : Bool} (h : PCall P f xs (.v (.bool b))) (e : b = c) : PCall P f xs (.v (.bool c)) := e ▸ h
theorem bod10 : bodied Try.prog 10 = true := by kernel_rfl
theorem bod12 : bodied Try.prog 12 = true := by kernel_rfl
theorem bod13 : bodied Try.prog 13 = true := by kernel_rfl
theorem bod8 : bodied Try.prog 8 = true := by kernel_rfl
theorem bod9 : bodied Try.prog 9 = true := by kernel_rfl
theorem by47 : (Try.prog.info? 47).map (·.bytes) = some 32 := by kernel_rfl
set_option maxHeartbeats 4000000 in
theorem contains_law_e0 (t : Int) (ss : List PSide) (vs : List PVal) (hs : ∀ s ∈ ss, s.Wf) (hv : ∀ s ∈ vs, s.Wf) (h0 : rightB ss = false) : PCall Try.prog 3 [bxA t ss, rwA vs] (.v (.bool true)) := by
  refine PCall.of_body Try.func3 rfl Try.ntmps3 (Nat.le_of_ble_eq_true rfl) ?_
  refine AWP.seq ?_
  refine AWP.region ?_
  refine AOps.nw (LOp.bx rfl) rfl rfl 1 rfl ?_
  first | refine AOps.lk (LOp.asg (a := .v _) rfl) rfl rfl ?_ | refine AOps.lk (LOp.asg (a := .tree _ _) rfl) rfl rfl ?_ | refine AOps.lk (LOp.asg (a := .agg _) rfl) rfl rfl ?_ | refine AOps.lk (LOp.asg (a := .ptr _ _ _) rfl) rfl rfl ?_ | refine AOps.lk (LOp.asg (a := .sl _ _ _ _) rfl) rfl rfl ?_ | refine AOps.lk (LOp.asg (a := .tp _ _) rfl) rfl rfl ?_ | refine AOps.lk (LOp.asg (a := .clo _ _) rfl) rfl rfl ?_ | refine AOps.lk (LOp.asg (a := .tup _) rfl) rfl rfl ?_
  refine AOps.nil ?_
  refine andThen_normal ?_
  refine AWP.seq ?_
  refine AWP.seq ?_
  refine AWP.region ?_
  refine AOps.lk (LOp.call bod8 rfl awake_p) rfl rfl ?_
  refine AOps.lk (LOp.plain rfl (fun _ _ => nofun) (fun _ => rfl)) rfl rfl ?_
  first | refine AOps.lk (LOp.mv (a := .v _) rfl) rfl rfl ?_ | refine AOps.lk (LOp.mv (a := .tree _ _) rfl) rfl rfl ?_ | refine AOps.lk (LOp.mv (a := .agg _) rfl) rfl rfl ?_ | refine AOps.lk (LOp.mv (a := .ptr _ _ _) rfl) rfl rfl ?_ | refine AOps.lk (LOp.mv (a := .sl _ _ _ _) rfl) rfl rfl ?_ | refine AOps.lk (LOp.mv (a := .tp _ _) rfl) rfl rfl ?_ | refine AOps.lk (LOp.mv (a := .clo _ _) rfl) rfl rfl ?_ | refine AOps.lk (LOp.mv (a := .tup _) rfl) rfl rfl ?_
  first | refine AOps.lk (LOp.ldN row24 rfl rfl rfl rfl rfl) rfl rfl ?_ | refine AOps.lk (LOp.ldTN row24 rfl rfl) rfl rfl ?_
  refine AOps.lk (LOp.call bod9 rfl (PCall.b (right_p hs) h0)) rfl rfl ?_
  refine AOps.lk (LOp.plain rfl (fun _ _ => nofun) (fun _ => rfl)) rfl rfl ?_
  first | refine AOps.lk (LOp.pickB rfl rfl rfl) rfl rfl ?_ | refine AOps.lk (LOp.pkT (a := .v _) rfl (by first | rfl | assumption) rfl) rfl rfl ?_ | refine AOps.lk (LOp.pkT (a := .tree _ _) rfl (by first | rfl | assumption) rfl) rfl rfl ?_ | refine AOps.lk (LOp.pkT (a := .agg _) rfl (by first | rfl | assumption) rfl) rfl rfl ?_ | refine AOps.lk (LOp.pkT (a := .ptr _ _ _) rfl (by first | rfl | assumption) rfl) rfl rfl ?_ | refine AOps.lk (LOp.pkT (a := .sl _ _ _ _) rfl (by first | rfl | assumption) rfl) rfl rfl ?_ | refine AOps.lk (LOp.pkT (a := .tp _ _) rfl (by first | rfl | assumption) rfl) rfl rfl ?_ | refine AOps.lk (LOp.pkT (a := .clo _ _) rfl (by first | rfl | assumption) rfl) rfl rfl ?_ | refine AOps.lk (LOp.pkT (a := .tup _) rfl (by first | rfl | assumption) rfl) rfl rfl ?_ | refine AOps.lk (LOp.pkF (a := .v _) rfl (by first | rfl | assumption) rfl) rfl rfl ?_ | refine AOps.lk (LOp.pkF (a := .tree _ _) rfl (by first | rfl | assumption) rfl) rfl rfl ?_ | refine AOps.lk (LOp.pkF (a := .agg _) rfl (by first | rfl | assumption) rfl) rfl rfl ?_ | refine AOps.lk (LOp.pkF (a := .ptr _ _ _) rfl (by first | rfl | assumption) rfl) rfl rfl ?_ | refine AOps.lk (LOp.pkF (a := .sl _ _ _ _) rfl (by first | rfl | assumption) rfl) rfl rfl ?_ | refine AOps.lk (LOp.pkF (a := .tp _ _) rfl (by first | rfl | assumption) rfl) rfl rfl ?_ | refine AOps.lk (LOp.pkF (a := .clo _ _) rfl (by first | rfl | assumption) rfl) rfl rfl ?_ | refine AOps.lk (LOp.pkF (a := .tup _) rfl (by first | rfl | assumption) rfl) rfl rfl ?_
  first | refine AOps.lk (LOp.mv (a := .v _) rfl) rfl rfl ?_ | refine AOps.lk (LOp.mv (a := .tree _ _) rfl) rfl rfl ?_ | refine AOps.lk (LOp.mv (a := .agg _) rfl) rfl rfl ?_ | refine AOps.lk (LOp.mv (a := .ptr _ _ _) rfl) rfl rfl ?_ | refine AOps.lk (LOp.mv (a := .sl _ _ _ _) rfl) rfl rfl ?_ | refine AOps.lk (LOp.mv (a := .tp _ _) rfl) rfl rfl ?_ | refine AOps.lk (LOp.mv (a := .clo _ _) rfl) rfl rfl ?_ | refine AOps.lk (LOp.mv (a := .tup _) rfl) rfl rfl ?_
  refine AOps.sk rfl rfl ?_
  refine AOps.sk rfl rfl ?_
  refine AOps.sk rfl rfl ?_
  first | refine AOps.lk (LOp.pickB rfl rfl rfl) rfl rfl ?_ | refine AOps.lk (LOp.pkT (a := .v _) rfl (by first | rfl | assumption) rfl) rfl rfl ?_ | refine AOps.lk (LOp.pkT (a := .tree _ _) rfl (by first | rfl | assumption) rfl) rfl rfl ?_ | refine AOps.lk (LOp.pkT (a := .agg _) rfl (by first | rfl | assumption) rfl) rfl rfl ?_ | refine AOps.lk (LOp.pkT (a := .ptr _ _ _) rfl (by first | rfl | assumption) rfl) rfl rfl ?_ | refine AOps.lk (LOp.pkT (a := .sl _ _ _ _) rfl (by first | rfl | assumption) rfl) rfl rfl ?_ | refine AOps.lk (LOp.pkT (a := .tp _ _) rfl (by first | rfl | assumption) rfl) rfl rfl ?_ | refine AOps.lk (LOp.pkT (a := .clo _ _) rfl (by first | rfl | assumption) rfl) rfl rfl ?_ | refine AOps.lk (LOp.pkT (a := .tup _) rfl (by first | rfl | assumption) rfl) rfl rfl ?_ | refine AOps.lk (LOp.pkF (a := .v _) rfl (by first | rfl | assumption) rfl) rfl rfl ?_ | refine AOps.lk (LOp.pkF (a := .tree _ _) rfl (by first | rfl | assumption) rfl) rfl rfl ?_ | refine AOps.lk (LOp.pkF (a := .agg _) rfl (by first | rfl | assumption) rfl) rfl rfl ?_ | refine AOps.lk (LOp.pkF (a := .ptr _ _ _) rfl (by first | rfl | assumption) rfl) rfl rfl ?_ | refine AOps.lk (LOp.pkF (a := .sl _ _ _ _) rfl (by first | rfl | assumption) rfl) rfl rfl ?_ | refine AOps.lk (LOp.pkF (a := .tp _ _) rfl (by first | rfl | assumption) rfl) rfl rfl ?_ | refine AOps.lk (LOp.pkF (a := .clo _ _) rfl (by first | rfl | assumption) rfl) rfl rfl ?_ | refine AOps.lk (LOp.pkF (a := .tup _) rfl (by first | rfl | assumption) rfl) rfl rfl ?_
  refine AOps.nil ?_
  refine andThen_normal ?_
  refine AWP.condT rfl ?_
  refine AWP.seq ?_
  refine AWP.region ?_
  refine AOps.lk (LOp.call bod8 rfl awake_p) rfl rfl ?_
  first | refine AOps.lk (LOp.asg (a := .v _) rfl) rfl rfl ?_ | refine AOps.lk (LOp.asg (a := .tree _ _) rfl) rfl rfl ?_ | refine AOps.lk (LOp.asg (a := .agg _) rfl) rfl rfl ?_ | refine AOps.lk (LOp.asg (a := .ptr _ _ _) rfl) rfl rfl ?_ | refine AOps.lk (LOp.asg (a := .sl _ _ _ _) rfl) rfl rfl ?_ | refine AOps.lk (LOp.asg (a := .tp _ _) rfl) rfl rfl ?_ | refine AOps.lk (LOp.asg (a := .clo _ _) rfl) rfl rfl ?_ | refine AOps.lk (LOp.asg (a := .tup _) rfl) rfl rfl ?_
  refine AOps.nil ?_
  refine andThen_normal ?_
  refine AWP.ret (andThen_ret (?_))
  refine ⟨.inr rfl, Outs.val Try.results3 rfl rfl ?_⟩
  rfl

set_option maxHeartbeats 4000000 in
theorem contains_law_e1 (t : Int) (ss : List PSide) (vs : List PVal) (hs : ∀ s ∈ ss, s.Wf) (hv : ∀ s ∈ vs, s.Wf) (h0 : rightB ss = true) (h1 : validR vs = false) : PCall Try.prog 3 [bxA t ss, rwA vs] (.v (.bool true)) := by
  refine PCall.of_body Try.func3 rfl Try.ntmps3 (Nat.le_of_ble_eq_true rfl) ?_
  refine AWP.seq ?_
  refine AWP.region ?_
  refine AOps.nw (LOp.bx rfl) rfl rfl 1 rfl ?_
  first | refine AOps.lk (LOp.asg (a := .v _) rfl) rfl rfl ?_ | refine AOps.lk (LOp.asg (a := .tree _ _) rfl) rfl rfl ?_ | refine AOps.lk (LOp.asg (a := .agg _) rfl) rfl rfl ?_ | refine AOps.lk (LOp.asg (a := .ptr _ _ _) rfl) rfl rfl ?_ | refine AOps.lk (LOp.asg (a := .sl _ _ _ _) rfl) rfl rfl ?_ | refine AOps.lk (LOp.asg (a := .tp _ _) rfl) rfl rfl ?_ | refine AOps.lk (LOp.asg (a := .clo _ _) rfl) rfl rfl ?_ | refine AOps.lk (LOp.asg (a := .tup _) rfl) rfl rfl ?_
  refine AOps.nil ?_
  refine andThen_normal ?_
  refine AWP.seq ?_
  refine AWP.seq ?_
  refine AWP.region ?_
  refine AOps.lk (LOp.call bod8 rfl awake_p) rfl rfl ?_
  refine AOps.lk (LOp.plain rfl (fun _ _ => nofun) (fun _ => rfl)) rfl rfl ?_
  first | refine AOps.lk (LOp.mv (a := .v _) rfl) rfl rfl ?_ | refine AOps.lk (LOp.mv (a := .tree _ _) rfl) rfl rfl ?_ | refine AOps.lk (LOp.mv (a := .agg _) rfl) rfl rfl ?_ | refine AOps.lk (LOp.mv (a := .ptr _ _ _) rfl) rfl rfl ?_ | refine AOps.lk (LOp.mv (a := .sl _ _ _ _) rfl) rfl rfl ?_ | refine AOps.lk (LOp.mv (a := .tp _ _) rfl) rfl rfl ?_ | refine AOps.lk (LOp.mv (a := .clo _ _) rfl) rfl rfl ?_ | refine AOps.lk (LOp.mv (a := .tup _) rfl) rfl rfl ?_
  first | refine AOps.lk (LOp.ldN row24 rfl rfl rfl rfl rfl) rfl rfl ?_ | refine AOps.lk (LOp.ldTN row24 rfl rfl) rfl rfl ?_
  refine AOps.lk (LOp.call bod9 rfl (PCall.b (right_p hs) h0)) rfl rfl ?_
  refine AOps.lk (LOp.plain rfl (fun _ _ => nofun) (fun _ => rfl)) rfl rfl ?_
  first | refine AOps.lk (LOp.pickB rfl rfl rfl) rfl rfl ?_ | refine AOps.lk (LOp.pkT (a := .v _) rfl (by first | rfl | assumption) rfl) rfl rfl ?_ | refine AOps.lk (LOp.pkT (a := .tree _ _) rfl (by first | rfl | assumption) rfl) rfl rfl ?_ | refine AOps.lk (LOp.pkT (a := .agg _) rfl (by first | rfl | assumption) rfl) rfl rfl ?_ | refine AOps.lk (LOp.pkT (a := .ptr _ _ _) rfl (by first | rfl | assumption) rfl) rfl rfl ?_ | refine AOps.lk (LOp.pkT (a := .sl _ _ _ _) rfl (by first | rfl | assumption) rfl) rfl rfl ?_ | refine AOps.lk (LOp.pkT (a := .tp _ _) rfl (by first | rfl | assumption) rfl) rfl rfl ?_ | refine AOps.lk (LOp.pkT (a := .clo _ _) rfl (by first | rfl | assumption) rfl) rfl rfl ?_ | refine AOps.lk (LOp.pkT (a := .tup _) rfl (by first | rfl | assumption) rfl) rfl rfl ?_ | refine AOps.lk (LOp.pkF (a := .v _) rfl (by first | rfl | assumption) rfl) rfl rfl ?_ | refine AOps.lk (LOp.pkF (a := .tree _ _) rfl (by first | rfl | assumption) rfl) rfl rfl ?_ | refine AOps.lk (LOp.pkF (a := .agg _) rfl (by first | rfl | assumption) rfl) rfl rfl ?_ | refine AOps.lk (LOp.pkF (a := .ptr _ _ _) rfl (by first | rfl | assumption) rfl) rfl rfl ?_ | refine AOps.lk (LOp.pkF (a := .sl _ _ _ _) rfl (by first | rfl | assumption) rfl) rfl rfl ?_ | refine AOps.lk (LOp.pkF (a := .tp _ _) rfl (by first | rfl | assumption) rfl) rfl rfl ?_ | refine AOps.lk (LOp.pkF (a := .clo _ _) rfl (by first | rfl | assumption) rfl) rfl rfl ?_ | refine AOps.lk (LOp.pkF (a := .tup _) rfl (by first | rfl | assumption) rfl) rfl rfl ?_
  first | refine AOps.lk (LOp.mv (a := .v _) rfl) rfl rfl ?_ | refine AOps.lk (LOp.mv (a := .tree _ _) rfl) rfl rfl ?_ | refine AOps.lk (LOp.mv (a := .agg _) rfl) rfl rfl ?_ | refine AOps.lk (LOp.mv (a := .ptr _ _ _) rfl) rfl rfl ?_ | refine AOps.lk (LOp.mv (a := .sl _ _ _ _) rfl) rfl rfl ?_ | refine AOps.lk (LOp.mv (a := .tp _ _) rfl) rfl rfl ?_ | refine AOps.lk (LOp.mv (a := .clo _ _) rfl) rfl rfl ?_ | refine AOps.lk (LOp.mv (a := .tup _) rfl) rfl rfl ?_
  first | refine AOps.lk (LOp.mv (a := .v _) rfl) rfl rfl ?_ | refine AOps.lk (LOp.mv (a := .tree _ _) rfl) rfl rfl ?_ | refine AOps.lk (LOp.mv (a := .agg _) rfl) rfl rfl ?_ | refine AOps.lk (LOp.mv (a := .ptr _ _ _) rfl) rfl rfl ?_ | refine AOps.lk (LOp.mv (a := .sl _ _ _ _) rfl) rfl rfl ?_ | refine AOps.lk (LOp.mv (a := .tp _ _) rfl) rfl rfl ?_ | refine AOps.lk (LOp.mv (a := .clo _ _) rfl) rfl rfl ?_ | refine AOps.lk (LOp.mv (a := .tup _) rfl) rfl rfl ?_
  refine AOps.lk (LOp.call bod10 rfl (PCall.b (validR_p hv) h1)) rfl rfl ?_
  refine AOps.lk (LOp.plain rfl (fun _ _ => nofun) (fun _ => rfl)) rfl rfl ?_
  first | refine AOps.lk (LOp.pickB rfl rfl rfl) rfl rfl ?_ | refine AOps.lk (LOp.pkT (a := .v _) rfl (by first | rfl | assumption) rfl) rfl rfl ?_ | refine AOps.lk (LOp.pkT (a := .tree _ _) rfl (by first | rfl | assumption) rfl) rfl rfl ?_ | refine AOps.lk (LOp.pkT (a := .agg _) rfl (by first | rfl | assumption) rfl) rfl rfl ?_ | refine AOps.lk (LOp.pkT (a := .ptr _ _ _) rfl (by first | rfl | assumption) rfl) rfl rfl ?_ | refine AOps.lk (LOp.pkT (a := .sl _ _ _ _) rfl (by first | rfl | assumption) rfl) rfl rfl ?_ | refine AOps.lk (LOp.pkT (a := .tp _ _) rfl (by first | rfl | assumption) rfl) rfl rfl ?_ | refine AOps.lk (LOp.pkT (a := .clo _ _) rfl (by first | rfl | assumption) rfl) rfl rfl ?_ | refine AOps.lk (LOp.pkT (a := .tup _) rfl (by first | rfl | assumption) rfl) rfl rfl ?_ | refine AOps.lk (LOp.pkF (a := .v _) rfl (by first | rfl | assumption) rfl) rfl rfl ?_ | refine AOps.lk (LOp.pkF (a := .tree _ _) rfl (by first | rfl | assumption) rfl) rfl rfl ?_ | refine AOps.lk (LOp.pkF (a := .agg _) rfl (by first | rfl | assumption) rfl) rfl rfl ?_ | refine AOps.lk (LOp.pkF (a := .ptr _ _ _) rfl (by first | rfl | assumption) rfl) rfl rfl ?_ | refine AOps.lk (LOp.pkF (a := .sl _ _ _ _) rfl (by first | rfl | assumption) rfl) rfl rfl ?_ | refine AOps.lk (LOp.pkF (a := .tp _ _) rfl (by first | rfl | assumption) rfl) rfl rfl ?_ | refine AOps.lk (LOp.pkF (a := .clo _ _) rfl (by first | rfl | assumption) rfl) rfl rfl ?_ | refine AOps.lk (LOp.pkF (a := .tup _) rfl (by first | rfl | assumption) rfl) rfl rfl ?_
  refine AOps.nil ?_
  refine andThen_normal ?_
  refine AWP.condT rfl ?_
  refine AWP.seq ?_
  refine AWP.region ?_
  refine AOps.lk (LOp.call bod8 rfl awake_p) rfl rfl ?_
  first | refine AOps.lk (LOp.asg (a := .v _) rfl) rfl rfl ?_ | refine AOps.lk (LOp.asg (a := .tree _ _) rfl) rfl rfl ?_ | refine AOps.lk (LOp.asg (a := .agg _) rfl) rfl rfl ?_ | refine AOps.lk (LOp.asg (a := .ptr _ _ _) rfl) rfl rfl ?_ | refine AOps.lk (LOp.asg (a := .sl _ _ _ _) rfl) rfl rfl ?_ | refine AOps.lk (LOp.asg (a := .tp _ _) rfl) rfl rfl ?_ | refine AOps.lk (LOp.asg (a := .clo _ _) rfl) rfl rfl ?_ | refine AOps.lk (LOp.asg (a := .tup _) rfl) rfl rfl ?_
  refine AOps.nil ?_
  refine andThen_normal ?_
  refine AWP.ret (andThen_ret (?_))
  refine ⟨.inr rfl, Outs.val Try.results3 rfl rfl ?_⟩
  rfl

set_option maxHeartbeats 4000000 in
theorem contains_law_m (t : Int) (ss : List PSide) (vs : List PVal) (hs : ∀ s ∈ ss, s.Wf) (hv : ∀ s ∈ vs, s.Wf) (h0 : rightB ss = true) (h1 : validR vs = true)  : PCall Try.prog 3 [bxA t ss, rwA vs] (.v (.bool true)) := by
  have hl0 := rightB_len h0
  have hl1 := validR_len h1
  refine PCall.of_body Try.func3 rfl Try.ntmps3 (Nat.le_of_ble_eq_true rfl) ?_
  refine AWP.seq ?_
  refine AWP.region ?_
  refine AOps.nw (LOp.bx rfl) rfl rfl 1 rfl ?_
  first | refine AOps.lk (LOp.asg (a := .v _) rfl) rfl rfl ?_ | refine AOps.lk (LOp.asg (a := .tree _ _) rfl) rfl rfl ?_ | refine AOps.lk (LOp.asg (a := .agg _) rfl) rfl rfl ?_ | refine AOps.lk (LOp.asg (a := .ptr _ _ _) rfl) rfl rfl ?_ | refine AOps.lk (LOp.asg (a := .sl _ _ _ _) rfl) rfl rfl ?_ | refine AOps.lk (LOp.asg (a := .tp _ _) rfl) rfl rfl ?_ | refine AOps.lk (LOp.asg (a := .clo _ _) rfl) rfl rfl ?_ | refine AOps.lk (LOp.asg (a := .tup _) rfl) rfl rfl ?_
  refine AOps.nil ?_
  refine andThen_normal ?_
  refine AWP.seq ?_
  refine AWP.seq ?_
  refine AWP.region ?_
  refine AOps.lk (LOp.call bod8 rfl awake_p) rfl rfl ?_
  refine AOps.lk (LOp.plain rfl (fun _ _ => nofun) (fun _ => rfl)) rfl rfl ?_
  first | refine AOps.lk (LOp.mv (a := .v _) rfl) rfl rfl ?_ | refine AOps.lk (LOp.mv (a := .tree _ _) rfl) rfl rfl ?_ | refine AOps.lk (LOp.mv (a := .agg _) rfl) rfl rfl ?_ | refine AOps.lk (LOp.mv (a := .ptr _ _ _) rfl) rfl rfl ?_ | refine AOps.lk (LOp.mv (a := .sl _ _ _ _) rfl) rfl rfl ?_ | refine AOps.lk (LOp.mv (a := .tp _ _) rfl) rfl rfl ?_ | refine AOps.lk (LOp.mv (a := .clo _ _) rfl) rfl rfl ?_ | refine AOps.lk (LOp.mv (a := .tup _) rfl) rfl rfl ?_
  first | refine AOps.lk (LOp.ldN row24 rfl rfl rfl rfl rfl) rfl rfl ?_ | refine AOps.lk (LOp.ldTN row24 rfl rfl) rfl rfl ?_
  refine AOps.lk (LOp.call bod9 rfl (PCall.b (right_p hs) h0)) rfl rfl ?_
  refine AOps.lk (LOp.plain rfl (fun _ _ => nofun) (fun _ => rfl)) rfl rfl ?_
  first | refine AOps.lk (LOp.pickB rfl rfl rfl) rfl rfl ?_ | refine AOps.lk (LOp.pkT (a := .v _) rfl (by first | rfl | assumption) rfl) rfl rfl ?_ | refine AOps.lk (LOp.pkT (a := .tree _ _) rfl (by first | rfl | assumption) rfl) rfl rfl ?_ | refine AOps.lk (LOp.pkT (a := .agg _) rfl (by first | rfl | assumption) rfl) rfl rfl ?_ | refine AOps.lk (LOp.pkT (a := .ptr _ _ _) rfl (by first | rfl | assumption) rfl) rfl rfl ?_ | refine AOps.lk (LOp.pkT (a := .sl _ _ _ _) rfl (by first | rfl | assumption) rfl) rfl rfl ?_ | refine AOps.lk (LOp.pkT (a := .tp _ _) rfl (by first | rfl | assumption) rfl) rfl rfl ?_ | refine AOps.lk (LOp.pkT (a := .clo _ _) rfl (by first | rfl | assumption) rfl) rfl rfl ?_ | refine AOps.lk (LOp.pkT (a := .tup _) rfl (by first | rfl | assumption) rfl) rfl rfl ?_ | refine AOps.lk (LOp.pkF (a := .v _) rfl (by first | rfl | assumption) rfl) rfl rfl ?_ | refine AOps.lk (LOp.pkF (a := .tree _ _) rfl (by first | rfl | assumption) rfl) rfl rfl ?_ | refine AOps.lk (LOp.pkF (a := .agg _) rfl (by first | rfl | assumption) rfl) rfl rfl ?_ | refine AOps.lk (LOp.pkF (a := .ptr _ _ _) rfl (by first | rfl | assumption) rfl) rfl rfl ?_ | refine AOps.lk (LOp.pkF (a := .sl _ _ _ _) rfl (by first | rfl | assumption) rfl) rfl rfl ?_ | refine AOps.lk (LOp.pkF (a := .tp _ _) rfl (by first | rfl | assumption) rfl) rfl rfl ?_ | refine AOps.lk (LOp.pkF (a := .clo _ _) rfl (by first | rfl | assumption) rfl) rfl rfl ?_ | refine AOps.lk (LOp.pkF (a := .tup _) rfl (by first | rfl | assumption) rfl) rfl rfl ?_
  first | refine AOps.lk (LOp.mv (a := .v _) rfl) rfl rfl ?_ | refine AOps.lk (LOp.mv (a := .tree _ _) rfl) rfl rfl ?_ | refine AOps.lk (LOp.mv (a := .agg _) rfl) rfl rfl ?_ | refine AOps.lk (LOp.mv (a := .ptr _ _ _) rfl) rfl rfl ?_ | refine AOps.lk (LOp.mv (a := .sl _ _ _ _) rfl) rfl rfl ?_ | refine AOps.lk (LOp.mv (a := .tp _ _) rfl) rfl rfl ?_ | refine AOps.lk (LOp.mv (a := .clo _ _) rfl) rfl rfl ?_ | refine AOps.lk (LOp.mv (a := .tup _) rfl) rfl rfl ?_
  first | refine AOps.lk (LOp.mv (a := .v _) rfl) rfl rfl ?_ | refine AOps.lk (LOp.mv (a := .tree _ _) rfl) rfl rfl ?_ | refine AOps.lk (LOp.mv (a := .agg _) rfl) rfl rfl ?_ | refine AOps.lk (LOp.mv (a := .ptr _ _ _) rfl) rfl rfl ?_ | refine AOps.lk (LOp.mv (a := .sl _ _ _ _) rfl) rfl rfl ?_ | refine AOps.lk (LOp.mv (a := .tp _ _) rfl) rfl rfl ?_ | refine AOps.lk (LOp.mv (a := .clo _ _) rfl) rfl rfl ?_ | refine AOps.lk (LOp.mv (a := .tup _) rfl) rfl rfl ?_
  refine AOps.lk (LOp.call bod10 rfl (PCall.b (validR_p hv) h1)) rfl rfl ?_
  refine AOps.lk (LOp.plain rfl (fun _ _ => nofun) (fun _ => rfl)) rfl rfl ?_
  first | refine AOps.lk (LOp.pickB rfl rfl rfl) rfl rfl ?_ | refine AOps.lk (LOp.pkT (a := .v _) rfl (by first | rfl | assumption) rfl) rfl rfl ?_ | refine AOps.lk (LOp.pkT (a := .tree _ _) rfl (by first | rfl | assumption) rfl) rfl rfl ?_ | refine AOps.lk (LOp.pkT (a := .agg _) rfl (by first | rfl | assumption) rfl) rfl rfl ?_ | refine AOps.lk (LOp.pkT (a := .ptr _ _ _) rfl (by first | rfl | assumption) rfl) rfl rfl ?_ | refine AOps.lk (LOp.pkT (a := .sl _ _ _ _) rfl (by first | rfl | assumption) rfl) rfl rfl ?_ | refine AOps.lk (LOp.pkT (a := .tp _ _) rfl (by first | rfl | assumption) rfl) rfl rfl ?_ | refine AOps.lk (LOp.pkT (a := .clo _ _) rfl (by first | rfl | assumption) rfl) rfl rfl ?_ | refine AOps.lk (LOp.pkT (a := .tup _) rfl (by first | rfl | assumption) rfl) rfl rfl ?_ | refine AOps.lk (LOp.pkF (a := .v _) rfl (by first | rfl | assumption) rfl) rfl rfl ?_ | refine AOps.lk (LOp.pkF (a := .tree _ _) rfl (by first | rfl | assumption) rfl) rfl rfl ?_ | refine AOps.lk (LOp.pkF (a := .agg _) rfl (by first | rfl | assumption) rfl) rfl rfl ?_ | refine AOps.lk (LOp.pkF (a := .ptr _ _ _) rfl (by first | rfl | assumption) rfl) rfl rfl ?_ | refine AOps.lk (LOp.pkF (a := .sl _ _ _ _) rfl (by first | rfl | assumption) rfl) rfl rfl ?_ | refine AOps.lk (LOp.pkF (a := .tp _ _) rfl (by first | rfl | assumption) rfl) rfl rfl ?_ | refine AOps.lk (LOp.pkF (a := .clo _ _) rfl (by first | rfl | assumption) rfl) rfl rfl ?_ | refine AOps.lk (LOp.pkF (a := .tup _) rfl (by first | rfl | assumption) rfl) rfl rfl ?_
  refine AOps.nil ?_
  refine andThen_normal ?_
  refine AWP.condF rfl ?_
  refine AWP.skip ?_
  refine andThen_normal ?_
  refine AWP.seq ?_
  refine AWP.regD mixed ?_
  first | refine SeqC.lk (LOp.ldN row24 rfl rfl rfl rfl rfl) rfl rfl ?_ | refine SeqC.lk (LOp.ldTN row24 rfl rfl) rfl rfl ?_
  refine SeqC.lk (LOp.call bod12 rfl (own_p hs (by omega))) rfl rfl ?_
  refine SeqC.nw (LOp.buildSlice0 1 Try.underlying26 sz47) rfl rfl 2 rfl ?_
  first | refine SeqC.lk (LOp.mv (a := .v _) rfl) rfl rfl ?_ | refine SeqC.lk (LOp.mv (a := .tree _ _) rfl) rfl rfl ?_ | refine SeqC.lk (LOp.mv (a := .agg _) rfl) rfl rfl ?_ | refine SeqC.lk (LOp.mv (a := .ptr _ _ _) rfl) rfl rfl ?_ | refine SeqC.lk (LOp.mv (a := .sl _ _ _ _) rfl) rfl rfl ?_ | refine SeqC.lk (LOp.mv (a := .tp _ _) rfl) rfl rfl ?_ | refine SeqC.lk (LOp.mv (a := .clo _ _) rfl) rfl rfl ?_ | refine SeqC.lk (LOp.mv (a := .tup _) rfl) rfl rfl ?_
  refine SeqC.wrD (LOp.append Try.underlying26 sz47 zr47 by47 rfl rfl rfl rfl rfl rfl (Nat.le_refl _) (Src.treeMap (m := vs.length) rfl) (vA_flat vs) (vA_one vs) (by omega) (by omega)) rfl rfl rfl ?_
  refine SeqC.lk (LOp.callB [1] bod11 rfl (fun i h h' => match i, h with | 0, _ => FzP.pure rfl | 1, _ => FzP.slMap (f := vA) (l := vs) (List.mem_singleton.2 rfl) rfl rfl rfl rfl rfl ((Nat.zero_add _).symm) (fun a _ => ⟨rfl, rfl⟩)) (contains_p hs hv)) rfl rfl ?_
  first | refine SeqC.lk (LOp.ldN row24 rfl rfl rfl rfl rfl) rfl rfl ?_ | refine SeqC.lk (LOp.ldTN row24 rfl rfl) rfl rfl ?_
  first | refine SeqC.lk (LOp.mv (a := .v _) rfl) rfl rfl ?_ | refine SeqC.lk (LOp.mv (a := .tree _ _) rfl) rfl rfl ?_ | refine SeqC.lk (LOp.mv (a := .agg _) rfl) rfl rfl ?_ | refine SeqC.lk (LOp.mv (a := .ptr _ _ _) rfl) rfl rfl ?_ | refine SeqC.lk (LOp.mv (a := .sl _ _ _ _) rfl) rfl rfl ?_ | refine SeqC.lk (LOp.mv (a := .tp _ _) rfl) rfl rfl ?_ | refine SeqC.lk (LOp.mv (a := .clo _ _) rfl) rfl rfl ?_ | refine SeqC.lk (LOp.mv (a := .tup _) rfl) rfl rfl ?_
  refine SeqC.lk (LOp.call bod13 rfl (rcontains_p hs hv)) rfl rfl ?_
  refine SeqC.lk (LOp.eqB rfl rfl Try.underlying4) rfl rfl ?_
  first | refine SeqC.lk (LOp.asg (a := .v _) rfl) rfl rfl ?_ | refine SeqC.lk (LOp.asg (a := .tree _ _) rfl) rfl rfl ?_ | refine SeqC.lk (LOp.asg (a := .agg _) rfl) rfl rfl ?_ | refine SeqC.lk (LOp.asg (a := .ptr _ _ _) rfl) rfl rfl ?_ | refine SeqC.lk (LOp.asg (a := .sl _ _ _ _) rfl) rfl rfl ?_ | refine SeqC.lk (LOp.asg (a := .tp _ _) rfl) rfl rfl ?_ | refine SeqC.lk (LOp.asg (a := .clo _ _) rfl) rfl rfl ?_ | refine SeqC.lk (LOp.asg (a := .tup _) rfl) rfl rfl ?_
  refine SeqC.nil ⟨by kernel_rfl, ?_⟩
  refine andThen_normal ?_
  refine AWP.ret (?_)
  refine ⟨.inr rfl, Outs.val Try.results3 rfl rfl ?_⟩
  exact bool_ret (by simp)
end Go.Proofs.Ytcbpakbhklbdnaa
