/- Small functions, and the hulls with an empty box. -/
import Derived.Test.YtcbpakbhklbdnaaB13
import Derived.Test.YtcbpakbhklbdnaaAS16
namespace Go.Proofs.Ytcbpakbhklbdnaa
set_option linter.unusedVariables false
open Go.RowKit
theorem by53 : (Try.prog.info? 53).map (·.bytes) = some 56 := by kernel_rfl
theorem fi24_1 : fieldInfo Try.prog 24 1 = some (1, 1) := by kernel_rfl
theorem fi33_0 : fieldInfo Try.prog 33 0 = some (0, 1) := by kernel_rfl
theorem fi33_1 : fieldInfo Try.prog 33 1 = some (1, 1) := by kernel_rfl
theorem pl33 : placesOf Try.prog 33 = some [(0, 1), (1, 1)] := by kernel_rfl
theorem pl47 : placesOf Try.prog 47 = some [(0, 1), (1, 1), (2, 1)] := by kernel_rfl
theorem row22 : rowOf Try.prog 22 = some none := by kernel_rfl
theorem row24 : rowOf Try.prog 24 = some (some 2) := by kernel_rfl
theorem row3 : rowOf Try.prog 3 = some none := by kernel_rfl
theorem row31 : rowOf Try.prog 31 = some none := by kernel_rfl
theorem row33 : rowOf Try.prog 33 = some (some 2) := by kernel_rfl
theorem row47 : rowOf Try.prog 47 = some (some 3) := by kernel_rfl
theorem sz24 : sizeInfo Try.prog 24 = some 2 := by kernel_rfl
theorem sz33 : sizeInfo Try.prog 33 = some 2 := by kernel_rfl
theorem sz47 : sizeInfo Try.prog 47 = some 3 := by kernel_rfl
theorem sz53 : sizeInfo Try.prog 53 = some 6 := by kernel_rfl
theorem zr24 : zeroOf Try.prog 24 = some (.agg #[.int .i64 0, .slice none 0 0]) := by kernel_rfl
theorem zr33 : zeroOf Try.prog 33 = some (.agg #[.int .i64 0, .slice none 0 0]) := by kernel_rfl
theorem zr47 : zeroOf Try.prog 47 = some (.agg #[.int .i64 0, .int .i64 0, .string ⟨#[]⟩]) := by kernel_rfl
theorem zr53 : zeroOf Try.prog 53 = some (.agg #[.bool false, .bool false, .int .i64 0, .int .i64 0, .string ⟨#[]⟩, .string ⟨#[]⟩]) := by kernel_rfl
theorem mixed : Try.prog.follows .mixedOrders = true := by kernel_rfl
theorem sA_flat (ss : List PSide) : ((ss.map sA).flatten).length = ss.length * 6 := by
  have := flatten_length (n := 6) (ss.map sA) (fun k h => by simp [sA])
  simpa using this
theorem vA_flat (vs : List PVal) : ((vs.map vA).flatten).length = vs.length * 3 := by
  have := flatten_length (n := 3) (vs.map vA) (fun k h => by simp [vA])
  simpa using this
theorem vA_one (vs : List PVal) : ((vs.map vA).flatten).all AV.one = true := by
  simp only [List.all_flatten, List.all_map, List.all_eq_true, Function.comp]
  intro x _ a ha
  simp [vA] at ha
  rcases ha with rfl | rfl | rfl <;> rfl

set_option maxHeartbeats 2000000 in
theorem integer_p (n : Int) : PCall Try.prog 24 [.v (.int .i64 n)] (.agg (vA ⟨1, n, ⟨#[]⟩⟩)) := by
  refine PCall.of_body Try.func24 rfl Try.ntmps24 (Nat.le_of_ble_eq_true rfl) ?_
  refine AWP.seq ?_
  refine AWP.region ?_
  refine AOps.nw (LOp.al zr47 rfl) rfl rfl 1 rfl ?_
  refine AOps.nil ?_
  refine andThen_normal ?_
  refine AWP.seq ?_
  refine AWP.region ?_
  first | refine AOps.lk (LOp.mv (a := .v _) rfl) rfl rfl ?_ | refine AOps.lk (LOp.mv (a := .tree _ _) rfl) rfl rfl ?_ | refine AOps.lk (LOp.mv (a := .agg _) rfl) rfl rfl ?_ | refine AOps.lk (LOp.mv (a := .ptr _ _ _) rfl) rfl rfl ?_ | refine AOps.lk (LOp.mv (a := .sl _ _ _ _) rfl) rfl rfl ?_ | refine AOps.lk (LOp.mv (a := .tp _ _) rfl) rfl rfl ?_ | refine AOps.lk (LOp.mv (a := .clo _ _) rfl) rfl rfl ?_ | refine AOps.lk (LOp.mv (a := .tup _) rfl) rfl rfl ?_
  refine AOps.lk (LOp.bd zr47 pl47 rfl rfl) rfl rfl ?_
  refine AOps.wr (LOp.st sz47 rfl rfl rfl rfl rfl rfl rfl rfl) rfl rfl rfl ?_
  refine AOps.nil ?_
  refine andThen_normal ?_
  refine AWP.ret (?_)
  refine ⟨.inr rfl, Outs.cell Try.results24 row47 rfl rfl rfl rfl rfl ?_⟩
  exact ⟨[], FzP.pure rfl⟩

set_option maxHeartbeats 2000000 in
theorem text_p (s : ByteArray) : PCall Try.prog 25 [.v (.string s)] (.agg (vA ⟨2, 0, s⟩)) := by
  refine PCall.of_body Try.func25 rfl Try.ntmps25 (Nat.le_of_ble_eq_true rfl) ?_
  refine AWP.seq ?_
  refine AWP.region ?_
  refine AOps.nw (LOp.al zr47 rfl) rfl rfl 1 rfl ?_
  refine AOps.nil ?_
  refine andThen_normal ?_
  refine AWP.seq ?_
  refine AWP.region ?_
  first | refine AOps.lk (LOp.mv (a := .v _) rfl) rfl rfl ?_ | refine AOps.lk (LOp.mv (a := .tree _ _) rfl) rfl rfl ?_ | refine AOps.lk (LOp.mv (a := .agg _) rfl) rfl rfl ?_ | refine AOps.lk (LOp.mv (a := .ptr _ _ _) rfl) rfl rfl ?_ | refine AOps.lk (LOp.mv (a := .sl _ _ _ _) rfl) rfl rfl ?_ | refine AOps.lk (LOp.mv (a := .tp _ _) rfl) rfl rfl ?_ | refine AOps.lk (LOp.mv (a := .clo _ _) rfl) rfl rfl ?_ | refine AOps.lk (LOp.mv (a := .tup _) rfl) rfl rfl ?_
  refine AOps.lk (LOp.bd zr47 pl47 rfl rfl) rfl rfl ?_
  refine AOps.wr (LOp.st sz47 rfl rfl rfl rfl rfl rfl rfl rfl) rfl rfl rfl ?_
  refine AOps.nil ?_
  refine andThen_normal ?_
  refine AWP.ret (?_)
  refine ⟨.inr rfl, Outs.cell Try.results25 row47 rfl rfl rfl rfl rfl ?_⟩
  exact ⟨[], FzP.pure rfl⟩

set_option maxHeartbeats 2000000 in
theorem hull0_p (t t2 : Int) : PCall Try.prog 17 [bxA t [], bxA t2 []] (bxA t2 []) := by
  refine PCall.of_body Try.func17 rfl Try.ntmps17 (Nat.le_of_ble_eq_true rfl) ?_
  refine AWP.seq ?_
  refine AWP.region ?_
  refine AOps.nw (LOp.bx rfl) rfl rfl 1 rfl ?_
  refine AOps.nw (LOp.bx rfl) rfl rfl 2 rfl ?_
  refine AOps.nw (LOp.al zr33 rfl) rfl rfl 3 rfl ?_
  refine AOps.nil ?_
  refine andThen_normal ?_
  refine AWP.seq ?_
  refine AWP.seq ?_
  refine AWP.region ?_
  first | refine AOps.lk (LOp.fieldAddr fi33_1 rfl rfl rfl rfl rfl) rfl rfl ?_ | refine AOps.lk (LOp.fieldAddrT fi33_1 rfl rfl) rfl rfl ?_
  first | refine AOps.lk (LOp.load1 row31 rfl rfl rfl rfl rfl) rfl rfl ?_ | refine AOps.lk (LOp.loadT1 row31 rfl rfl) rfl rfl ?_
  first | refine AOps.lk (LOp.lenT rfl Try.underlying31 rfl) rfl rfl ?_ | refine AOps.lk (LOp.lenS rfl Try.underlying31 rfl rfl rfl) rfl rfl ?_
  refine AOps.lk (LOp.plain rfl (fun _ _ => nofun) (fun _ => rfl)) rfl rfl ?_
  refine AOps.nil ?_
  refine andThen_normal ?_
  refine AWP.condT rfl ?_
  refine AWP.region ?_
  first | refine AOps.lk (LOp.ldN row33 rfl rfl rfl rfl rfl) rfl rfl ?_ | refine AOps.lk (LOp.ldTN row33 rfl rfl) rfl rfl ?_
  first | refine AOps.lk (LOp.ldN row33 rfl rfl rfl rfl rfl) rfl rfl ?_ | refine AOps.lk (LOp.ldTN row33 rfl rfl) rfl rfl ?_
  refine AOps.wr (LOp.st sz33 rfl rfl rfl rfl rfl rfl rfl rfl) rfl rfl rfl ?_
  refine AOps.wr (LOp.st sz33 rfl rfl rfl rfl rfl rfl rfl rfl) rfl rfl rfl ?_
  refine AOps.nil ?_
  refine andThen_normal ?_
  refine AWP.seq ?_
  refine AWP.regD mixed ?_
  first | refine SeqC.lk (LOp.fieldAddr fi33_0 rfl rfl rfl rfl rfl) rfl rfl ?_ | refine SeqC.lk (LOp.fieldAddrT fi33_0 rfl rfl) rfl rfl ?_
  first | refine SeqC.lk (LOp.load1 row3 rfl rfl rfl rfl rfl) rfl rfl ?_ | refine SeqC.lk (LOp.loadT1 row3 rfl rfl) rfl rfl ?_
  first | refine SeqC.lk (LOp.fieldAddr fi33_1 rfl rfl rfl rfl rfl) rfl rfl ?_ | refine SeqC.lk (LOp.fieldAddrT fi33_1 rfl rfl) rfl rfl ?_
  first | refine SeqC.lk (LOp.load1 row31 rfl rfl rfl rfl rfl) rfl rfl ?_ | refine SeqC.lk (LOp.loadT1 row31 rfl rfl) rfl rfl ?_
  refine SeqC.lk (LOp.appendZ Try.underlying31 sz53 rfl (Src.treeMap (m := 0) rfl) rfl) rfl rfl ?_
  refine SeqC.lk (LOp.bd zr33 pl33 rfl rfl) rfl rfl ?_
  refine SeqC.nw (LOp.al zr33 rfl) rfl rfl 4 rfl ?_
  refine SeqC.wr (LOp.st sz33 rfl rfl rfl rfl rfl rfl rfl rfl) rfl rfl rfl ?_
  refine SeqC.nil ⟨by kernel_rfl, ?_⟩
  refine andThen_normal ?_
  refine AWP.seq ?_
  refine AWP.seq ?_
  refine AWP.region ?_
  first | refine AOps.lk (LOp.fieldAddr fi33_1 rfl rfl rfl rfl rfl) rfl rfl ?_ | refine AOps.lk (LOp.fieldAddrT fi33_1 rfl rfl) rfl rfl ?_
  first | refine AOps.lk (LOp.load1 row31 rfl rfl rfl rfl rfl) rfl rfl ?_ | refine AOps.lk (LOp.loadT1 row31 rfl rfl) rfl rfl ?_
  first | refine AOps.lk (LOp.lenT rfl Try.underlying31 rfl) rfl rfl ?_ | refine AOps.lk (LOp.lenS rfl Try.underlying31 rfl rfl rfl) rfl rfl ?_
  first | refine AOps.lk (LOp.mv (a := .v _) rfl) rfl rfl ?_ | refine AOps.lk (LOp.mv (a := .tree _ _) rfl) rfl rfl ?_ | refine AOps.lk (LOp.mv (a := .agg _) rfl) rfl rfl ?_ | refine AOps.lk (LOp.mv (a := .ptr _ _ _) rfl) rfl rfl ?_ | refine AOps.lk (LOp.mv (a := .sl _ _ _ _) rfl) rfl rfl ?_ | refine AOps.lk (LOp.mv (a := .tp _ _) rfl) rfl rfl ?_ | refine AOps.lk (LOp.mv (a := .clo _ _) rfl) rfl rfl ?_ | refine AOps.lk (LOp.mv (a := .tup _) rfl) rfl rfl ?_
  refine AOps.nil ?_
  refine andThen_normal ?_
  refine AWP.block ?_
  refine AWP.loopExit ?_
  refine AWP.seq ?_
  refine AWP.region ?_
  refine AOps.lk (LOp.plain rfl (fun _ _ => nofun) (fun _ => rfl)) rfl rfl ?_
  refine AOps.nil ?_
  refine andThen_normal ?_
  refine AWP.seq ?_
  refine AWP.condF rfl ?_
  refine AWP.exit (andThen_exit (andThen_exit (inBlk_exit ?_)))
  refine andThen_normal ?_
  refine AWP.seq ?_
  refine AWP.region ?_
  first | refine AOps.lk (LOp.ldN row33 rfl rfl rfl rfl rfl) rfl rfl ?_ | refine AOps.lk (LOp.ldTN row33 rfl rfl) rfl rfl ?_
  refine AOps.wr (LOp.st sz33 rfl rfl rfl rfl rfl rfl rfl rfl) rfl rfl rfl ?_
  refine AOps.nil ?_
  refine andThen_normal ?_
  refine AWP.ret (?_)
  refine ⟨.inr rfl, Outs.cell Try.results17 row33 rfl rfl rfl rfl rfl ?_⟩
  exact ⟨[], FzP.agg rfl (fun i h h' => match i, h with | 0, _ => FzP.pure rfl | 1, _ => FzP.nil)⟩

set_option maxHeartbeats 2000000 in
theorem hull1_p (t t2 : Int) (ts : List PSide) (hne : 0 < ts.length) (hn : ts.length ≤ 10000) : PCall Try.prog 17 [bxA t [], bxA t2 ts] (bxA t2 ts) := by
  refine PCall.of_body Try.func17 rfl Try.ntmps17 (Nat.le_of_ble_eq_true rfl) ?_
  refine AWP.seq ?_
  refine AWP.region ?_
  refine AOps.nw (LOp.bx rfl) rfl rfl 1 rfl ?_
  refine AOps.nw (LOp.bx rfl) rfl rfl 2 rfl ?_
  refine AOps.nw (LOp.al zr33 rfl) rfl rfl 3 rfl ?_
  refine AOps.nil ?_
  refine andThen_normal ?_
  refine AWP.seq ?_
  refine AWP.seq ?_
  refine AWP.region ?_
  first | refine AOps.lk (LOp.fieldAddr fi33_1 rfl rfl rfl rfl rfl) rfl rfl ?_ | refine AOps.lk (LOp.fieldAddrT fi33_1 rfl rfl) rfl rfl ?_
  first | refine AOps.lk (LOp.load1 row31 rfl rfl rfl rfl rfl) rfl rfl ?_ | refine AOps.lk (LOp.loadT1 row31 rfl rfl) rfl rfl ?_
  first | refine AOps.lk (LOp.lenT rfl Try.underlying31 rfl) rfl rfl ?_ | refine AOps.lk (LOp.lenS rfl Try.underlying31 rfl rfl rfl) rfl rfl ?_
  refine AOps.lk (LOp.plain rfl (fun _ _ => nofun) (fun _ => rfl)) rfl rfl ?_
  refine AOps.nil ?_
  refine andThen_normal ?_
  refine AWP.condT rfl ?_
  refine AWP.region ?_
  first | refine AOps.lk (LOp.ldN row33 rfl rfl rfl rfl rfl) rfl rfl ?_ | refine AOps.lk (LOp.ldTN row33 rfl rfl) rfl rfl ?_
  first | refine AOps.lk (LOp.ldN row33 rfl rfl rfl rfl rfl) rfl rfl ?_ | refine AOps.lk (LOp.ldTN row33 rfl rfl) rfl rfl ?_
  refine AOps.wr (LOp.st sz33 rfl rfl rfl rfl rfl rfl rfl rfl) rfl rfl rfl ?_
  refine AOps.wr (LOp.st sz33 rfl rfl rfl rfl rfl rfl rfl rfl) rfl rfl rfl ?_
  refine AOps.nil ?_
  refine andThen_normal ?_
  refine AWP.seq ?_
  refine AWP.regD mixed ?_
  first | refine SeqC.lk (LOp.fieldAddr fi33_0 rfl rfl rfl rfl rfl) rfl rfl ?_ | refine SeqC.lk (LOp.fieldAddrT fi33_0 rfl rfl) rfl rfl ?_
  first | refine SeqC.lk (LOp.load1 row3 rfl rfl rfl rfl rfl) rfl rfl ?_ | refine SeqC.lk (LOp.loadT1 row3 rfl rfl) rfl rfl ?_
  first | refine SeqC.lk (LOp.fieldAddr fi33_1 rfl rfl rfl rfl rfl) rfl rfl ?_ | refine SeqC.lk (LOp.fieldAddrT fi33_1 rfl rfl) rfl rfl ?_
  first | refine SeqC.lk (LOp.load1 row31 rfl rfl rfl rfl rfl) rfl rfl ?_ | refine SeqC.lk (LOp.loadT1 row31 rfl rfl) rfl rfl ?_
  refine SeqC.nw (LOp.appendN Try.underlying31 sz53 zr53 by53 rfl rfl (by simp) (Src.treeMap (m := ts.length) rfl) hne (sA_flat ts) (by omega) (by omega)) rfl rfl 4 rfl ?_
  refine SeqC.lk (LOp.bd zr33 pl33 rfl rfl) rfl rfl ?_
  refine SeqC.nw (LOp.al zr33 rfl) rfl rfl 5 rfl ?_
  refine SeqC.wr (LOp.st sz33 rfl rfl rfl rfl rfl rfl rfl rfl) rfl rfl rfl ?_
  refine SeqC.nil ⟨by kernel_rfl, ?_⟩
  refine andThen_normal ?_
  refine AWP.seq ?_
  refine AWP.seq ?_
  refine AWP.region ?_
  first | refine AOps.lk (LOp.fieldAddr fi33_1 rfl rfl rfl rfl rfl) rfl rfl ?_ | refine AOps.lk (LOp.fieldAddrT fi33_1 rfl rfl) rfl rfl ?_
  first | refine AOps.lk (LOp.load1 row31 rfl rfl rfl rfl rfl) rfl rfl ?_ | refine AOps.lk (LOp.loadT1 row31 rfl rfl) rfl rfl ?_
  first | refine AOps.lk (LOp.lenT rfl Try.underlying31 rfl) rfl rfl ?_ | refine AOps.lk (LOp.lenS rfl Try.underlying31 rfl rfl rfl) rfl rfl ?_
  first | refine AOps.lk (LOp.mv (a := .v _) rfl) rfl rfl ?_ | refine AOps.lk (LOp.mv (a := .tree _ _) rfl) rfl rfl ?_ | refine AOps.lk (LOp.mv (a := .agg _) rfl) rfl rfl ?_ | refine AOps.lk (LOp.mv (a := .ptr _ _ _) rfl) rfl rfl ?_ | refine AOps.lk (LOp.mv (a := .sl _ _ _ _) rfl) rfl rfl ?_ | refine AOps.lk (LOp.mv (a := .tp _ _) rfl) rfl rfl ?_ | refine AOps.lk (LOp.mv (a := .clo _ _) rfl) rfl rfl ?_ | refine AOps.lk (LOp.mv (a := .tup _) rfl) rfl rfl ?_
  refine AOps.nil ?_
  refine andThen_normal ?_
  refine AWP.block ?_
  refine AWP.loopExit ?_
  refine AWP.seq ?_
  refine AWP.region ?_
  refine AOps.lk (LOp.plain rfl (fun _ _ => nofun) (fun _ => rfl)) rfl rfl ?_
  refine AOps.nil ?_
  refine andThen_normal ?_
  refine AWP.seq ?_
  refine AWP.condF rfl ?_
  refine AWP.exit (andThen_exit (andThen_exit (inBlk_exit ?_)))
  refine andThen_normal ?_
  refine AWP.seq ?_
  refine AWP.region ?_
  first | refine AOps.lk (LOp.ldN row33 rfl rfl rfl rfl rfl) rfl rfl ?_ | refine AOps.lk (LOp.ldTN row33 rfl rfl) rfl rfl ?_
  refine AOps.wr (LOp.st sz33 rfl rfl rfl rfl rfl rfl rfl rfl) rfl rfl rfl ?_
  refine AOps.nil ?_
  refine andThen_normal ?_
  refine AWP.ret (?_)
  refine ⟨.inr rfl, Outs.cell Try.results17 row33 rfl rfl rfl rfl rfl ?_⟩
  exact ⟨[3], FzP.agg rfl (fun i h h' => match i, h with | 0, _ => FzP.pure rfl | 1, _ => FzP.slMap (f := sA) (List.mem_singleton.2 rfl) rfl rfl rfl rfl rfl rfl (fun a _ => ⟨rfl, rfl⟩))⟩

set_option maxHeartbeats 2000000 in
theorem rhull0_p (t t2 : Int) (ts : List PSide) : PCall Try.prog 20 [bxA t [], bxA t2 ts] (bxA t2 ts) := by
  refine PCall.of_body Try.func20 rfl Try.ntmps20 (Nat.le_of_ble_eq_true rfl) ?_
  refine AWP.seq ?_
  refine AWP.region ?_
  refine AOps.nw (LOp.bx rfl) rfl rfl 1 rfl ?_
  refine AOps.nw (LOp.bx rfl) rfl rfl 2 rfl ?_
  refine AOps.nw (LOp.al zr24 rfl) rfl rfl 3 rfl ?_
  refine AOps.nil ?_
  refine andThen_normal ?_
  refine AWP.seq ?_
  refine AWP.seq ?_
  refine AWP.region ?_
  first | refine AOps.lk (LOp.fieldAddr fi24_1 rfl rfl rfl rfl rfl) rfl rfl ?_ | refine AOps.lk (LOp.fieldAddrT fi24_1 rfl rfl) rfl rfl ?_
  first | refine AOps.lk (LOp.load1 row22 rfl rfl rfl rfl rfl) rfl rfl ?_ | refine AOps.lk (LOp.loadT1 row22 rfl rfl) rfl rfl ?_
  first | refine AOps.lk (LOp.lenT rfl Try.underlying22 rfl) rfl rfl ?_ | refine AOps.lk (LOp.lenS rfl Try.underlying22 rfl rfl rfl) rfl rfl ?_
  refine AOps.lk (LOp.plain rfl (fun _ _ => nofun) (fun _ => rfl)) rfl rfl ?_
  refine AOps.nil ?_
  refine andThen_normal ?_
  refine AWP.condT rfl ?_
  refine AWP.seq ?_
  refine AWP.region ?_
  first | refine AOps.lk (LOp.ldN row24 rfl rfl rfl rfl rfl) rfl rfl ?_ | refine AOps.lk (LOp.ldTN row24 rfl rfl) rfl rfl ?_
  refine AOps.wr (LOp.st sz24 rfl rfl rfl rfl rfl rfl rfl rfl) rfl rfl rfl ?_
  refine AOps.nil ?_
  refine andThen_normal ?_
  refine AWP.ret (andThen_ret (?_))
  refine ⟨.inr rfl, Outs.cell Try.results20 row24 rfl rfl rfl rfl rfl ?_⟩
  exact ⟨[], FzP.pure rfl⟩

set_option maxHeartbeats 2000000 in
theorem rhull1_p (t t2 : Int) (ss : List PSide) (hne : 0 < ss.length) : PCall Try.prog 20 [bxA t ss, bxA t2 []] (bxA t ss) := by
  refine PCall.of_body Try.func20 rfl Try.ntmps20 (Nat.le_of_ble_eq_true rfl) ?_
  refine AWP.seq ?_
  refine AWP.region ?_
  refine AOps.nw (LOp.bx rfl) rfl rfl 1 rfl ?_
  refine AOps.nw (LOp.bx rfl) rfl rfl 2 rfl ?_
  refine AOps.nw (LOp.al zr24 rfl) rfl rfl 3 rfl ?_
  refine AOps.nil ?_
  refine andThen_normal ?_
  refine AWP.seq ?_
  refine AWP.seq ?_
  refine AWP.region ?_
  first | refine AOps.lk (LOp.fieldAddr fi24_1 rfl rfl rfl rfl rfl) rfl rfl ?_ | refine AOps.lk (LOp.fieldAddrT fi24_1 rfl rfl) rfl rfl ?_
  first | refine AOps.lk (LOp.load1 row22 rfl rfl rfl rfl rfl) rfl rfl ?_ | refine AOps.lk (LOp.loadT1 row22 rfl rfl) rfl rfl ?_
  first | refine AOps.lk (LOp.lenT rfl Try.underlying22 rfl) rfl rfl ?_ | refine AOps.lk (LOp.lenS rfl Try.underlying22 rfl rfl rfl) rfl rfl ?_
  refine AOps.lk (LOp.plain rfl (fun _ _ => nofun) (fun _ => rfl)) rfl rfl ?_
  refine AOps.nil ?_
  refine andThen_normal ?_
  refine AWP.cond rfl (fun hc13 => ?_) (fun hc13 => ?_)
  · skip
    exact absurd (of_decide_eq_true hc13) (by omega)
  · skip
    refine AWP.skip ?_
    refine andThen_normal ?_
    refine AWP.seq ?_
    refine AWP.seq ?_
    refine AWP.region ?_
    first | refine AOps.lk (LOp.fieldAddr fi24_1 rfl rfl rfl rfl rfl) rfl rfl ?_ | refine AOps.lk (LOp.fieldAddrT fi24_1 rfl rfl) rfl rfl ?_
    first | refine AOps.lk (LOp.load1 row22 rfl rfl rfl rfl rfl) rfl rfl ?_ | refine AOps.lk (LOp.loadT1 row22 rfl rfl) rfl rfl ?_
    first | refine AOps.lk (LOp.lenT rfl Try.underlying22 rfl) rfl rfl ?_ | refine AOps.lk (LOp.lenS rfl Try.underlying22 rfl rfl rfl) rfl rfl ?_
    refine AOps.lk (LOp.plain rfl (fun _ _ => nofun) (fun _ => rfl)) rfl rfl ?_
    refine AOps.nil ?_
    refine andThen_normal ?_
    refine AWP.condT rfl ?_
    refine AWP.seq ?_
    refine AWP.region ?_
    first | refine AOps.lk (LOp.ldN row24 rfl rfl rfl rfl rfl) rfl rfl ?_ | refine AOps.lk (LOp.ldTN row24 rfl rfl) rfl rfl ?_
    refine AOps.wr (LOp.st sz24 rfl rfl rfl rfl rfl rfl rfl rfl) rfl rfl rfl ?_
    refine AOps.nil ?_
    refine andThen_normal ?_
    refine AWP.ret (andThen_ret (?_))
    refine ⟨.inr rfl, Outs.cell Try.results20 row24 rfl rfl rfl rfl rfl ?_⟩
    exact ⟨[], FzP.pure rfl⟩
end Go.Proofs.Ytcbpakbhklbdnaa
