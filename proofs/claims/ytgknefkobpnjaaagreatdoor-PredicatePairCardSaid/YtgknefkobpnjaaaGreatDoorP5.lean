/- Texts of the claim. -/
import Derived.Deep.Slices
import Derived.Deep.Fields
import Derived.ChangeSame
import Derived.ChangeArms
import Derived.SizedLaws
import Derived.OpenShut
import Derived.Test.YtgknefkobpnjaaaGreatDoorP4
namespace Go.Proofs.YtgknefkobpnjaaaGreatDoor
set_option linter.unusedVariables false
set_option linter.unusedSimpArgs false
open Go.RowKit
def eqVB (x y:PVar):Bool:=x.t==y.t&&(x.lo==y.lo&&(x.hi==y.hi&&(x.mx==y.mx&&x.nl==y.nl)))
theorem if_res {a b:Bool} {w:World}:(if a=false then Result.ok false w else Result.ok b w)=Result.ok (a&&b) w:=by cases a <;> rfl
theorem fo44:Tryz.prog.underlying 44=some (.struct (Tryz.prog.fieldsOf 44)):=by kernel_rfl
theorem si44:Tryz.prog.stoodInHeld 44=false:=by kernel_rfl
theorem fo111:Tryz.prog.underlying 111=some (.struct (Tryz.prog.fieldsOf 111)):=by kernel_rfl
theorem si111:Tryz.prog.stoodInHeld 111=false:=by kernel_rfl
theorem fo52:Tryz.prog.underlying 52=some (.struct (Tryz.prog.fieldsOf 52)):=by kernel_rfl
theorem si52:Tryz.prog.stoodInHeld 52=false:=by kernel_rfl
theorem eg44:Tryz.prog.eqGuardType Tryz.prog.depth 44=false:=by kernel_rfl
theorem eg111:Tryz.prog.eqGuardType Tryz.prog.depth 111=false:=by kernel_rfl
theorem eg52:Tryz.prog.eqGuardType Tryz.prog.depth 52=false:=by kernel_rfl
theorem eg26:Tryz.prog.eqGuardType Tryz.prog.depth 26=false:=by kernel_rfl
set_option maxRecDepth 100000 in
theorem eq44_run (x y:PVar) (w:World):(Op.equalIn 10000 44 (.agg #[.int .i64 x.t,.int .i64 x.lo,.int .i64 x.hi,.int .i64 x.mx,.bool x.nl]) (.agg #[.int .i64 y.t,.int .i64 y.lo,.int .i64 y.hi,.int .i64 y.mx,.bool y.nl])).run Tryz.prog w=.ok (eqVB x y) w:=by
 rw [run_equalIn_agg w 9999 44 _ _ fo44 si44]
 simp only [Program.fieldsOf,Tryz.underlying44]
 simp [Op.eqFields,part,run_equalIn_int _ 9998 3 _ _ _ _ Tryz.underlying3,run_equalIn_int _ 9998 2 _ _ _ _ Tryz.underlying2,run_equalIn_bool' _ 9998 4 _ _ Tryz.underlying4,if_res,eqVB]
set_option maxRecDepth 100000 in
theorem eq111_run (x y:PCoef) (w:World):(Op.equalIn 10000 111 (.agg #[.int .i64 x.v,.int .i64 x.n]) (.agg #[.int .i64 y.v,.int .i64 y.n])).run Tryz.prog w=.ok (x.v==y.v&&x.n==y.n) w:=by
 rw [run_equalIn_agg w 9999 111 _ _ fo111 si111]
 simp only [Program.fieldsOf,Tryz.underlying111]
 simp [Op.eqFields,part,run_equalIn_int _ 9998 3 _ _ _ _ Tryz.underlying3,run_equalIn_int _ 9998 2 _ _ _ _ Tryz.underlying2,if_res]
set_option maxRecDepth 100000 in
theorem eq52_run (x:PTest) (w:World):(Op.equalIn 10000 52 (.agg #[.int .i64 x.v,.int .i64 x.kd,.bool x.ng,.string x.s]) (.agg #[.int .i64 x.v,.int .i64 x.kd,.bool x.ng,.string x.s])).run Tryz.prog w=.ok true w:=by
 rw [run_equalIn_agg w 9999 52 _ _ fo52 si52]
 simp only [Program.fieldsOf,Tryz.underlying52]
 simp [Op.eqFields,part,run_equalIn_int _ 9998 3 _ _ _ _ Tryz.underlying3,run_equalIn_bool' _ 9998 4 _ _ Tryz.underlying4,run_equalIn_string _ 9998 9 _ _ Tryz.underlying9,if_res]
section
variable {P:Program} {τ:Nat→AV} {η:Heap} {d:Option Tmp} {ty:TypeId} {pos:String} {af:Array Edge} {g:Option (Nat×Bool)}
theorem LOp.neSame {t t':Nat} {x y:Operand} {k:IntKind} {m:Int} (hx:aev τ x=.v (.int k m)) (hy:aev τ y=.v (.int k m)) :
  LOp P ⟨d,.binOp .neq t x y t',ty,pos,af,g⟩ τ η [] [] (.v (.bool false)) :=
 .look [] fun C a _ hxs _=>by
  have e1:=hxs x (by simp [Op.operands])
  have e2:=hxs y (by simp [Op.operands])
  rw [hx] at e1
  rw [hy] at e2
  refine ⟨.bool false,?_,VR.v C _⟩
  have h2:(eqGuard .neq t x y (.int k m) (.int k m))=pure ():=rfl
  simp only [execOp,e1.v_inv,e2.v_inv,h2]
  simp [binOp,Op.intCmp]
theorem LOp.neSameB {t t':Nat} {x y:Operand} {p:Bool} (hx:aev τ x=.v (.bool p)) (hy:aev τ y=.v (.bool p)) (hu:P.underlying t=some .bool) :
  LOp P ⟨d,.binOp .neq t x y t',ty,pos,af,g⟩ τ η [] [] (.v (.bool false)):=by
 have:=LOp.neB (P:=P) (τ:=τ) (η:=η) (d:=d) (ty:=ty) (pos:=pos) (af:=af) (g:=g) (t:=t) (t':=t') hx hy hu
 simpa using this
/-- Two structs held against each other. -/
theorem LOp.neAgg {t t':Nat} {x y:Operand} {xs ys:List AV} {lx ly:List Value} {r:Bool} (hx:aev τ x=.agg xs) (hy:aev τ y=.agg ys) (hxs:valsE xs=some lx) (hys:valsE ys=some ly) (hm:P.eqGuardType P.depth t=false)
  (h:∀ w,(Op.equalIn 10000 t (.agg lx.toArray) (.agg ly.toArray)).run P w=.ok r w):LOp P ⟨d,.binOp .neq t x y t',ty,pos,af,g⟩ τ η [] [] (.v (.bool (!r))) :=
 .look [] fun C a _ hq _=>by
  have e1:=hq x (by simp [Op.operands])
  have e2:=hq y (by simp [Op.operands])
  rw [hx] at e1
  rw [hy] at e2
  have f1:=toVE_ok (y:=.agg lx.toArray) e1 (by simp [toVE,hxs])
  have f2:=toVE_ok (y:=.agg ly.toArray) e2 (by simp [toVE,hys])
  refine ⟨.bool (!r),?_,VR.v C _⟩
  simp only [execOp,f1,f2,Sem.run_bind,run_eqGuard_agg C.w .neq t x y _ _ hm,Result.andThen_ok,run_neq_struct,h C.w,Sem.run_pure]
end
theorem eq26_run (p:Int×Int) (w:World):(Op.equalIn 10000 26 (.agg #[.int .i64 p.1,.int .i64 p.2]) (.agg #[.int .i64 p.1,.int .i64 p.2])).run Tryz.prog w=.ok true w:=by
 have h3:∀ w,(Op.equalIn 9999 3 (.int .i64 p.1) (.int .i64 p.1)).run Tryz.prog w=.ok true w:=fun w=>by rw [run_equalIn_int w 9998 3 _ _ _ _ Tryz.underlying3]; simp
 have h4:∀ w,(Op.equalIn 9999 3 (.int .i64 p.2) (.int .i64 p.2)).run Tryz.prog w=.ok true w:=fun w=>by rw [run_equalIn_int w 9998 3 _ _ _ _ Tryz.underlying3]; simp
 have hz:∀ w,(Go.sizeOf 3).run Tryz.prog w=.ok 1 w:=Tryz.sizeOf3
 have ha:∀ w,(isAgg 3).run Tryz.prog w=.ok false w:=Tryz.isAgg3
 show (Op.equalIn (9999+1) 26 _ _).run Tryz.prog w=_
 unfold Op.equalIn
 simp only [Sem.run_bind,run_underlying Tryz.underlying26,Result.andThen_ok,hz]
 simp [Std.Legacy.Range.forIn_eq_forIn_range',Std.Legacy.Range.size,List.range',part,ha,h3,h4]
theorem bod28:bodied Tryz.prog 28=true:=by kernel_rfl
theorem bod29:bodied Tryz.prog 29=true:=by kernel_rfl
theorem bod30:bodied Tryz.prog 30=true:=by kernel_rfl
set_option maxRecDepth 100000 in
set_option maxHeartbeats 4000000 in
theorem ints_p (l:List Int) (hl:l.length≤1000):PCall Tryz.prog 28 [isA l,isA l] (.v (.bool true)):=by
 refine pB Tryz.func28 rfl Tryz.ntmps28 (Nat.le_of_ble_eq_true rfl) ?_
 refine wS (wR ?_)
 refine oL (lA (a:=.v _) rfl) rfl rfl ?_
 refine oN (aN (wS (wS (wR ?_))))
 refine oL (lM (a:=.tree _ _) rfl) rfl rfl ?_
 refine oL (lT rfl Tryz.underlying29 rfl) rfl rfl ?_
 refine oL (lM (a:=.tree _ _) rfl) rfl rfl ?_
 refine oL (lT rfl Tryz.underlying29 rfl) rfl rfl ?_
 refine oL (LOp.neSame rfl rfl) rfl rfl ?_
 refine oN (aN ?_)
 refine AWP.condF rfl ?_
 refine wK (aN (wS (wS (wR ?_))))
 refine oL (lA (a:=.v _) rfl) rfl rfl ?_
 refine oN (aN (wB ?_))
 refine wL (fun n s=>∃ k:Nat,n=(l.length - k)∧s=⟨fL [(0,isA l),(1,isA l),(5,.v (.int .i64 ((k:Nat):Int)))],hLz [],0⟩∧(k≤l.length∧∀ j,j < k→(fun _=>true) j=true)) (n:=(l.length - 0)) (s1:=⟨fL [(0,isA l),(1,isA l),(5,.v (.int .i64 ((0:Nat):Int)))],hLz [],0⟩) (cO (.cons rfl rfl (.cons rfl rfl (.cons rfl rfl .nil))) .nil) ⟨0,rfl,rfl,⟨Nat.zero_le _,fun j h=>absurd h (Nat.not_lt_zero j)⟩⟩ ?_
 rintro n s ⟨k,rfl,rfl,hinv⟩
 obtain ⟨hk,hj⟩:=hinv
 refine wS (wS (wR ?_))
 refine oL (lM (a:=.v _) rfl) rfl rfl ?_
 refine oL (lM (a:=.tree _ _) rfl) rfl rfl ?_
 refine oL (lT rfl Tryz.underlying29 rfl) rfl rfl ?_
 refine oL (lP rfl (fun _ _=>nofun) (fun _=>rfl)) rfl rfl ?_
 refine oN (aN ?_)
 refine wC rfl (fun hc14=>?_) (fun hc14=>?_)
 ·skip
  have hlt:k < l.length:=Int.ofNat_lt.1 (of_decide_eq_true hc14)
  refine wK (aN (wS (wB (wS (AWP.regD mixed ?_)))))
  refine qL (lM (a:=.tree _ _) rfl) rfl rfl ?_
  refine qL (lM (a:=.v _) rfl) rfl rfl ?_
  refine qL (lI Tryz.underlying29 sz3 rfl rfl (by first | assumption | omega)) rfl rfl ?_
  refine qL (lE row3 rfl rfl) rfl rfl ?_
  refine qL (lM (a:=.tree _ _) rfl) rfl rfl ?_
  refine qL (lM (a:=.v _) rfl) rfl rfl ?_
  refine qL (lI Tryz.underlying29 sz3 rfl rfl (by first | assumption | omega)) rfl rfl ?_
  refine qL (lE row3 rfl rfl) rfl rfl ?_
  refine qL (LOp.neSame rfl rfl) rfl rfl ?_
  refine SeqC.nil ⟨by kernel_rfl,?_⟩
  refine aN ?_
  refine AWP.condF rfl ?_
  refine wK (bN (aN (wR ?_)))
  refine oL (lM (a:=.v _) rfl) rfl rfl ?_
  refine oL (lJ rfl rfl (by omega) (by omega)) rfl rfl ?_
  refine oL (lA (a:=.v _) rfl) rfl rfl ?_
  refine oN (aN ?_)
  refine ⟨(l.length - (k+1)),⟨fL [(0,isA l),(1,isA l),(5,.v (.int .i64 (((k+1):Nat):Int)))],hLz [],0⟩,by omega,(cO (.cons rfl rfl (.cons rfl rfl (.cons rfl rfl .nil))) .nil),(k+1),rfl,rfl,?_⟩
  refine ⟨by omega,fun j h=>?_⟩
  rcases Nat.lt_succ_iff_lt_or_eq.1 h with h | rfl
  ·exact hj j h
  ·rfl
 ·skip
  have hge:¬ k < l.length:=fun h=>of_decide_eq_false hc14 (Int.ofNat_lt.2 h)
  refine AWP.exit (aE (aE (bE ?_)))
  refine aN (wS (wR ?_))
  refine oL (lA (a:=.v _) rfl) rfl rfl ?_
  refine oN (aN ?_)
  refine wT (?_)
  refine ⟨.inr rfl,oV Tryz.results28 rfl rfl ?_⟩
  rfl
set_option maxRecDepth 100000 in
set_option maxHeartbeats 4000000 in
theorem pairs_p (l:List (Int×Int)) (hl:l.length≤1000):PCall Tryz.prog 29 [psA l,psA l] (.v (.bool true)):=by
 refine pB Tryz.func29 rfl Tryz.ntmps29 (Nat.le_of_ble_eq_true rfl) ?_
 refine wS (wR ?_)
 refine oL (lA (a:=.v _) rfl) rfl rfl ?_
 refine oN (aN (wS (wS (wR ?_))))
 refine oL (lM (a:=.tree _ _) rfl) rfl rfl ?_
 refine oL (lT rfl Tryz.underlying33 rfl) rfl rfl ?_
 refine oL (lM (a:=.tree _ _) rfl) rfl rfl ?_
 refine oL (lT rfl Tryz.underlying33 rfl) rfl rfl ?_
 refine oL (LOp.neSame rfl rfl) rfl rfl ?_
 refine oN (aN ?_)
 refine AWP.condF rfl ?_
 refine wK (aN (wS (wS (wR ?_))))
 refine oL (lA (a:=.v _) rfl) rfl rfl ?_
 refine oN (aN (wB ?_))
 refine wL (fun n s=>∃ k:Nat,n=(l.length - k)∧s=⟨fL [(0,psA l),(1,psA l),(5,.v (.int .i64 ((k:Nat):Int)))],hLz [],0⟩∧(k≤l.length∧∀ j,j < k→(fun _=>true) j=true)) (n:=(l.length - 0)) (s1:=⟨fL [(0,psA l),(1,psA l),(5,.v (.int .i64 ((0:Nat):Int)))],hLz [],0⟩) (cO (.cons rfl rfl (.cons rfl rfl (.cons rfl rfl .nil))) .nil) ⟨0,rfl,rfl,⟨Nat.zero_le _,fun j h=>absurd h (Nat.not_lt_zero j)⟩⟩ ?_
 rintro n s ⟨k,rfl,rfl,hinv⟩
 obtain ⟨hk,hj⟩:=hinv
 refine wS (wS (wR ?_))
 refine oL (lM (a:=.v _) rfl) rfl rfl ?_
 refine oL (lM (a:=.tree _ _) rfl) rfl rfl ?_
 refine oL (lT rfl Tryz.underlying33 rfl) rfl rfl ?_
 refine oL (lP rfl (fun _ _=>nofun) (fun _=>rfl)) rfl rfl ?_
 refine oN (aN ?_)
 refine wC rfl (fun hc14=>?_) (fun hc14=>?_)
 ·skip
  have hlt:k < l.length:=Int.ofNat_lt.1 (of_decide_eq_true hc14)
  refine wK (aN (wS (wB (wS (AWP.regD mixed ?_)))))
  refine qL (lM (a:=.tree _ _) rfl) rfl rfl ?_
  refine qL (lM (a:=.v _) rfl) rfl rfl ?_
  refine qL (lI Tryz.underlying33 sz26 rfl rfl (by first | assumption | omega)) rfl rfl ?_
  refine qL (LOp.ldTN row26 rfl rfl) rfl rfl ?_
  refine qL (lM (a:=.tree _ _) rfl) rfl rfl ?_
  refine qL (lM (a:=.v _) rfl) rfl rfl ?_
  refine qL (lI Tryz.underlying33 sz26 rfl rfl (by first | assumption | omega)) rfl rfl ?_
  refine qL (LOp.ldTN row26 rfl rfl) rfl rfl ?_
  refine qL (LOp.neAgg (r:=true) (lx:=[_,_]) (ly:=[_,_]) rfl rfl rfl rfl eg26 (eq26_run l[k])) rfl rfl ?_
  refine SeqC.nil ⟨by kernel_rfl,?_⟩
  refine aN ?_
  refine AWP.condF rfl ?_
  refine wK (bN (aN (wR ?_)))
  refine oL (lM (a:=.v _) rfl) rfl rfl ?_
  refine oL (lJ rfl rfl (by omega) (by omega)) rfl rfl ?_
  refine oL (lA (a:=.v _) rfl) rfl rfl ?_
  refine oN (aN ?_)
  refine ⟨(l.length - (k+1)),⟨fL [(0,psA l),(1,psA l),(5,.v (.int .i64 (((k+1):Nat):Int)))],hLz [],0⟩,by omega,(cO (.cons rfl rfl (.cons rfl rfl (.cons rfl rfl .nil))) .nil),(k+1),rfl,rfl,?_⟩
  refine ⟨by omega,fun j h=>?_⟩
  rcases Nat.lt_succ_iff_lt_or_eq.1 h with h | rfl
  ·exact hj j h
  ·rfl
 ·skip
  have hge:¬ k < l.length:=fun h=>of_decide_eq_false hc14 (Int.ofNat_lt.2 h)
  refine AWP.exit (aE (aE (bE ?_)))
  refine aN (wS (wR ?_))
  refine oL (lA (a:=.v _) rfl) rfl rfl ?_
  refine oN (aN ?_)
  refine wT (?_)
  refine ⟨.inr rfl,oV Tryz.results29 rfl rfl ?_⟩
  rfl
set_option maxRecDepth 100000 in
set_option maxHeartbeats 4000000 in
theorem samev_p (l:List PVar) (hl:l.length≤1000):PCall Tryz.prog 9 [vsA l,vsA l] (.v (.bool true)):=by
 refine pB Tryz.func9 rfl Tryz.ntmps9 (Nat.le_of_ble_eq_true rfl) ?_
 refine wS (wR ?_)
 refine oL (lA (a:=.v _) rfl) rfl rfl ?_
 refine oN (aN (wS (wS (wR ?_))))
 refine oL (lM (a:=.tree _ _) rfl) rfl rfl ?_
 refine oL (lT rfl Tryz.underlying22 rfl) rfl rfl ?_
 refine oL (lM (a:=.tree _ _) rfl) rfl rfl ?_
 refine oL (lT rfl Tryz.underlying22 rfl) rfl rfl ?_
 refine oL (LOp.neSame rfl rfl) rfl rfl ?_
 refine oN (aN ?_)
 refine AWP.condF rfl ?_
 refine wK (aN (wS (wS (wR ?_))))
 refine oL (lA (a:=.v _) rfl) rfl rfl ?_
 refine oN (aN (wB ?_))
 refine wL (fun n s=>∃ k:Nat,n=(l.length - k)∧s=⟨fL [(0,vsA l),(1,vsA l),(5,.v (.int .i64 ((k:Nat):Int)))],hLz [],0⟩∧(k≤l.length∧∀ j,j < k→(fun _=>true) j=true)) (n:=(l.length - 0)) (s1:=⟨fL [(0,vsA l),(1,vsA l),(5,.v (.int .i64 ((0:Nat):Int)))],hLz [],0⟩) (cO (.cons rfl rfl (.cons rfl rfl (.cons rfl rfl .nil))) .nil) ⟨0,rfl,rfl,⟨Nat.zero_le _,fun j h=>absurd h (Nat.not_lt_zero j)⟩⟩ ?_
 rintro n s ⟨k,rfl,rfl,hinv⟩
 obtain ⟨hk,hj⟩:=hinv
 refine wS (wS (wR ?_))
 refine oL (lM (a:=.v _) rfl) rfl rfl ?_
 refine oL (lM (a:=.tree _ _) rfl) rfl rfl ?_
 refine oL (lT rfl Tryz.underlying22 rfl) rfl rfl ?_
 refine oL (lP rfl (fun _ _=>nofun) (fun _=>rfl)) rfl rfl ?_
 refine oN (aN ?_)
 refine wC rfl (fun hc14=>?_) (fun hc14=>?_)
 ·skip
  have hlt:k < l.length:=Int.ofNat_lt.1 (of_decide_eq_true hc14)
  refine wK (aN (wS (wB (wS (AWP.regD mixed ?_)))))
  refine qL (lM (a:=.tree _ _) rfl) rfl rfl ?_
  refine qL (lM (a:=.v _) rfl) rfl rfl ?_
  refine qL (lI Tryz.underlying22 sz44 rfl rfl (by first | assumption | omega)) rfl rfl ?_
  refine qL (LOp.ldTN row44 rfl rfl) rfl rfl ?_
  refine qL (lM (a:=.tree _ _) rfl) rfl rfl ?_
  refine qL (lM (a:=.v _) rfl) rfl rfl ?_
  refine qL (lI Tryz.underlying22 sz44 rfl rfl (by first | assumption | omega)) rfl rfl ?_
  refine qL (LOp.ldTN row44 rfl rfl) rfl rfl ?_
  refine qL (LOp.neAgg (r:=true) rfl rfl rfl rfl eg44 (fun w=>by rw [show true=eqVB l[k] l[k] by simp [eqVB]]; exact eq44_run l[k] l[k] w)) rfl rfl ?_
  refine SeqC.nil ⟨by kernel_rfl,?_⟩
  refine aN ?_
  refine AWP.condF rfl ?_
  refine wK (bN (aN (wR ?_)))
  refine oL (lM (a:=.v _) rfl) rfl rfl ?_
  refine oL (lJ rfl rfl (by omega) (by omega)) rfl rfl ?_
  refine oL (lA (a:=.v _) rfl) rfl rfl ?_
  refine oN (aN ?_)
  refine ⟨(l.length - (k+1)),⟨fL [(0,vsA l),(1,vsA l),(5,.v (.int .i64 (((k+1):Nat):Int)))],hLz [],0⟩,by omega,(cO (.cons rfl rfl (.cons rfl rfl (.cons rfl rfl .nil))) .nil),(k+1),rfl,rfl,?_⟩
  refine ⟨by omega,fun j h=>?_⟩
  rcases Nat.lt_succ_iff_lt_or_eq.1 h with h | rfl
  ·exact hj j h
  ·rfl
 ·skip
  have hge:¬ k < l.length:=fun h=>of_decide_eq_false hc14 (Int.ofNat_lt.2 h)
  refine AWP.exit (aE (aE (bE ?_)))
  refine aN (wS (wR ?_))
  refine oL (lA (a:=.v _) rfl) rfl rfl ?_
  refine oN (aN ?_)
  refine wT (?_)
  refine ⟨.inr rfl,oV Tryz.results9 rfl rfl ?_⟩
  rfl
set_option maxRecDepth 100000 in
set_option maxHeartbeats 4000000 in
theorem lin_p (f:PLin) (hl:f.cs.length≤1000):PCall Tryz.prog 30 [.agg (liA f),.agg (liA f)] (.v (.bool true)):=by
 refine pB Tryz.func30 rfl Tryz.ntmps30 (Nat.le_of_ble_eq_true rfl) ?_
 refine wS (wR ?_)
 refine oW (LOp.bx rfl) rfl rfl 1 rfl ?_
 refine oW (LOp.bx rfl) rfl rfl 2 rfl ?_
 refine oL (lA (a:=.v _) rfl) rfl rfl ?_
 refine oN (aN (wS (wS (wR ?_))))
 refine oL (lF fi79_0 rfl rfl rfl rfl rfl) rfl rfl ?_
 refine oL (lD row2 rfl rfl rfl rfl rfl) rfl rfl ?_
 refine oL (lF fi79_0 rfl rfl rfl rfl rfl) rfl rfl ?_
 refine oL (lD row2 rfl rfl rfl rfl rfl) rfl rfl ?_
 refine oL (LOp.neSame rfl rfl) rfl rfl ?_
 refine oL (lM (a:=.v _) rfl) rfl rfl ?_
 refine oL (lF fi79_1 rfl rfl rfl rfl rfl) rfl rfl ?_
 refine oL (lD row77 rfl rfl rfl rfl rfl) rfl rfl ?_
 refine oL (lT rfl Tryz.underlying77 rfl) rfl rfl ?_
 refine oL (lF fi79_1 rfl rfl rfl rfl rfl) rfl rfl ?_
 refine oL (lD row77 rfl rfl rfl rfl rfl) rfl rfl ?_
 refine oL (lT rfl Tryz.underlying77 rfl) rfl rfl ?_
 refine oL (LOp.neSame rfl rfl) rfl rfl ?_
 refine oL (lK rfl rfl rfl) rfl rfl ?_
 refine oN (aN ?_)
 refine AWP.condF rfl ?_
 refine wK (aN (wS (wS (wR ?_))))
 refine oL (lA (a:=.v _) rfl) rfl rfl ?_
 refine oN (aN (wB ?_))
 refine wL (fun n s=>∃ k:Nat,n=(f.cs.length - k)∧s=⟨fL [(2,.ptr 0 0 0),(3,.ptr 1 0 0),(5,.v (.int .i64 ((k:Nat):Int)))],hLz [(0,⟨0,liA f,0,false⟩),(1,⟨0,liA f,0,false⟩)],2⟩∧(k≤f.cs.length∧∀ j,j < k→(fun _=>true) j=true)) (n:=(f.cs.length - 0)) (s1:=⟨fL [(2,.ptr 0 0 0),(3,.ptr 1 0 0),(5,.v (.int .i64 ((0:Nat):Int)))],hLz [(0,⟨0,liA f,0,false⟩),(1,⟨0,liA f,0,false⟩)],2⟩) (cO (.cons rfl rfl (.cons rfl rfl (.cons rfl rfl .nil))) (.cons rfl rfl rfl (.cons rfl rfl rfl .nil))) ⟨0,rfl,rfl,⟨Nat.zero_le _,fun j h=>absurd h (Nat.not_lt_zero j)⟩⟩ ?_
 rintro n s ⟨k,rfl,rfl,hinv⟩
 obtain ⟨hk,hj⟩:=hinv
 refine wS (wS (wR ?_))
 refine oL (lM (a:=.v _) rfl) rfl rfl ?_
 refine oL (lF fi79_1 rfl rfl rfl rfl rfl) rfl rfl ?_
 refine oL (lD row77 rfl rfl rfl rfl rfl) rfl rfl ?_
 refine oL (lT rfl Tryz.underlying77 rfl) rfl rfl ?_
 refine oL (lP rfl (fun _ _=>nofun) (fun _=>rfl)) rfl rfl ?_
 refine oN (aN ?_)
 refine wC rfl (fun hc24=>?_) (fun hc24=>?_)
 ·skip
  have hlt:k < f.cs.length:=Int.ofNat_lt.1 (of_decide_eq_true hc24)
  refine wK (aN (wS (wB (wS (AWP.regD mixed ?_)))))
  refine qL (lF fi79_1 rfl rfl rfl rfl rfl) rfl rfl ?_
  refine qL (lD row77 rfl rfl rfl rfl rfl) rfl rfl ?_
  refine qL (lM (a:=.v _) rfl) rfl rfl ?_
  refine qL (lI Tryz.underlying77 sz111 rfl rfl (by first | assumption | omega)) rfl rfl ?_
  refine qL (LOp.ldTN row111 rfl rfl) rfl rfl ?_
  refine qL (lF fi79_1 rfl rfl rfl rfl rfl) rfl rfl ?_
  refine qL (lD row77 rfl rfl rfl rfl rfl) rfl rfl ?_
  refine qL (lM (a:=.v _) rfl) rfl rfl ?_
  refine qL (lI Tryz.underlying77 sz111 rfl rfl (by first | assumption | omega)) rfl rfl ?_
  refine qL (LOp.ldTN row111 rfl rfl) rfl rfl ?_
  refine qL (LOp.neAgg (r:=true) rfl rfl rfl rfl eg111 (fun w=>by rw [show true=(f.cs[k].v==f.cs[k].v&&f.cs[k].n==f.cs[k].n) by simp]; exact eq111_run f.cs[k] f.cs[k] w)) rfl rfl ?_
  refine SeqC.nil ⟨by kernel_rfl,?_⟩
  refine aN ?_
  refine AWP.condF rfl ?_
  refine wK (bN (aN (wR ?_)))
  refine oL (lM (a:=.v _) rfl) rfl rfl ?_
  refine oL (lJ rfl rfl (by omega) (by omega)) rfl rfl ?_
  refine oL (lA (a:=.v _) rfl) rfl rfl ?_
  refine oN (aN ?_)
  refine ⟨(f.cs.length - (k+1)),⟨fL [(2,.ptr 0 0 0),(3,.ptr 1 0 0),(5,.v (.int .i64 (((k+1):Nat):Int)))],hLz [(0,⟨0,liA f,0,false⟩),(1,⟨0,liA f,0,false⟩)],2⟩,by omega,(cO (.cons rfl rfl (.cons rfl rfl (.cons rfl rfl .nil))) (.cons rfl rfl rfl (.cons rfl rfl rfl .nil))),(k+1),rfl,rfl,?_⟩
  refine ⟨by omega,fun j h=>?_⟩
  rcases Nat.lt_succ_iff_lt_or_eq.1 h with h | rfl
  ·exact hj j h
  ·rfl
 ·skip
  have hge:¬ k < f.cs.length:=fun h=>of_decide_eq_false hc24 (Int.ofNat_lt.2 h)
  refine AWP.exit (aE (aE (bE ?_)))
  refine aN (wS (wR ?_))
  refine oL (lA (a:=.v _) rfl) rfl rfl ?_
  refine oN (aN ?_)
  refine wT (?_)
  refine ⟨.inr rfl,oV Tryz.results30 rfl rfl ?_⟩
  rfl
set_option maxRecDepth 100000 in
set_option maxHeartbeats 4000000 in
theorem samecl_p (c:PCl) (hc:c.Ok):PCall Tryz.prog 10 [.agg (clA c),.agg (clA c)] (.v (.bool true)):=by
 have q1:=hc.aux
 have q2:=hc.ints
 have q3:=hc.tests
 refine pB Tryz.func10 rfl Tryz.ntmps10 (Nat.le_of_ble_eq_true rfl) ?_
 refine wS (wR ?_)
 refine oW (LOp.bx rfl) rfl rfl 1 rfl ?_
 refine oW (LOp.bx rfl) rfl rfl 2 rfl ?_
 refine oL (lA (a:=.v _) rfl) rfl rfl ?_
 refine oN (aN (wS (wS (wR ?_))))
 refine oL (lF fi35_0 rfl rfl rfl rfl rfl) rfl rfl ?_
 refine oL (lD row29 rfl rfl rfl rfl rfl) rfl rfl ?_
 refine oL (lF fi35_0 rfl rfl rfl rfl rfl) rfl rfl ?_
 refine oL (lD row29 rfl rfl rfl rfl rfl) rfl rfl ?_
 refine oL (LOp.call bod28 rfl (ints_p c.nul hc.nul)) rfl rfl ?_
 refine oL (lP rfl (fun _ _=>nofun) (fun _=>rfl)) rfl rfl ?_
 refine oL (lM (a:=.v _) rfl) rfl rfl ?_
 refine oL (lF fi35_1 rfl rfl rfl rfl rfl) rfl rfl ?_
 refine oL (lD row29 rfl rfl rfl rfl rfl) rfl rfl ?_
 refine oL (lF fi35_1 rfl rfl rfl rfl rfl) rfl rfl ?_
 refine oL (lD row29 rfl rfl rfl rfl rfl) rfl rfl ?_
 refine oL (LOp.call bod28 rfl (ints_p c.nn hc.nn)) rfl rfl ?_
 refine oL (lP rfl (fun _ _=>nofun) (fun _=>rfl)) rfl rfl ?_
 refine oL (lK rfl rfl rfl) rfl rfl ?_
 refine oL (lM (a:=.v _) rfl) rfl rfl ?_
 refine oL (lF fi35_2 rfl rfl rfl rfl rfl) rfl rfl ?_
 refine oL (lD row30 rfl rfl rfl rfl rfl) rfl rfl ?_
 refine oL (lT rfl Tryz.underlying30 rfl) rfl rfl ?_
 refine oL (lF fi35_2 rfl rfl rfl rfl rfl) rfl rfl ?_
 refine oL (lD row30 rfl rfl rfl rfl rfl) rfl rfl ?_
 refine oL (lT rfl Tryz.underlying30 rfl) rfl rfl ?_
 refine oL (LOp.neSame rfl rfl) rfl rfl ?_
 refine oL (lK rfl rfl rfl) rfl rfl ?_
 refine oL (lM (a:=.v _) rfl) rfl rfl ?_
 refine oL (lF fi35_3 rfl rfl rfl rfl rfl) rfl rfl ?_
 refine oL (lD row31 rfl rfl rfl rfl rfl) rfl rfl ?_
 refine oL (lT rfl Tryz.underlying31 rfl) rfl rfl ?_
 refine oL (lF fi35_3 rfl rfl rfl rfl rfl) rfl rfl ?_
 refine oL (lD row31 rfl rfl rfl rfl rfl) rfl rfl ?_
 refine oL (lT rfl Tryz.underlying31 rfl) rfl rfl ?_
 refine oL (LOp.neSame rfl rfl) rfl rfl ?_
 refine oL (lK rfl rfl rfl) rfl rfl ?_
 refine oL (lM (a:=.v _) rfl) rfl rfl ?_
 refine oL (lF fi35_4 rfl rfl rfl rfl rfl) rfl rfl ?_
 refine oL (lD row32 rfl rfl rfl rfl rfl) rfl rfl ?_
 refine oL (lT rfl Tryz.underlying32 rfl) rfl rfl ?_
 refine oL (lF fi35_4 rfl rfl rfl rfl rfl) rfl rfl ?_
 refine oL (lD row32 rfl rfl rfl rfl rfl) rfl rfl ?_
 refine oL (lT rfl Tryz.underlying32 rfl) rfl rfl ?_
 refine oL (LOp.neSame rfl rfl) rfl rfl ?_
 refine oL (lK rfl rfl rfl) rfl rfl ?_
 refine oL (lM (a:=.v _) rfl) rfl rfl ?_
 refine oL (lF fi35_5 rfl rfl rfl rfl rfl) rfl rfl ?_
 refine oL (lD row33 rfl rfl rfl rfl rfl) rfl rfl ?_
 refine oL (lF fi35_5 rfl rfl rfl rfl rfl) rfl rfl ?_
 refine oL (lD row33 rfl rfl rfl rfl rfl) rfl rfl ?_
 refine oL (LOp.call bod29 rfl (pairs_p c.same hc.same)) rfl rfl ?_
 refine oL (lP rfl (fun _ _=>nofun) (fun _=>rfl)) rfl rfl ?_
 refine oL (lK rfl rfl rfl) rfl rfl ?_
 refine oL (lM (a:=.v _) rfl) rfl rfl ?_
 refine oL (lF fi35_6 rfl rfl rfl rfl rfl) rfl rfl ?_
 refine oL (lD row33 rfl rfl rfl rfl rfl) rfl rfl ?_
 refine oL (lF fi35_6 rfl rfl rfl rfl rfl) rfl rfl ?_
 refine oL (lD row33 rfl rfl rfl rfl rfl) rfl rfl ?_
 refine oL (LOp.call bod29 rfl (pairs_p c.diff hc.diff)) rfl rfl ?_
 refine oL (lP rfl (fun _ _=>nofun) (fun _=>rfl)) rfl rfl ?_
 refine oL (lK rfl rfl rfl) rfl rfl ?_
 refine oN (aN ?_)
 refine AWP.condF rfl ?_
 refine wK (aN (wS (wS (wR ?_))))
 refine oL (lA (a:=.v _) rfl) rfl rfl ?_
 refine oN (aN (wB ?_))
 refine wL (fun n s=>∃ k:Nat,n=(c.aux.length - k)∧s=⟨fL [(2,.ptr 0 0 0),(3,.ptr 1 0 0),(5,.v (.int .i64 ((k:Nat):Int)))],hLz [(0,⟨0,clA c,0,false⟩),(1,⟨0,clA c,0,false⟩)],2⟩∧(k≤c.aux.length∧∀ j,j < k→(fun _=>true) j=true)) (n:=(c.aux.length - 0)) (s1:=⟨fL [(2,.ptr 0 0 0),(3,.ptr 1 0 0),(5,.v (.int .i64 ((0:Nat):Int)))],hLz [(0,⟨0,clA c,0,false⟩),(1,⟨0,clA c,0,false⟩)],2⟩) (cO (.cons rfl rfl (.cons rfl rfl (.cons rfl rfl .nil))) (.cons rfl rfl rfl (.cons rfl rfl rfl .nil))) ⟨0,rfl,rfl,⟨Nat.zero_le _,fun j h=>absurd h (Nat.not_lt_zero j)⟩⟩ ?_
 rintro n s ⟨k,rfl,rfl,hinv⟩
 obtain ⟨hk,hj⟩:=hinv
 refine wS (wS (wR ?_))
 refine oL (lM (a:=.v _) rfl) rfl rfl ?_
 refine oL (lF fi35_2 rfl rfl rfl rfl rfl) rfl rfl ?_
 refine oL (lD row30 rfl rfl rfl rfl rfl) rfl rfl ?_
 refine oL (lT rfl Tryz.underlying30 rfl) rfl rfl ?_
 refine oL (lP rfl (fun _ _=>nofun) (fun _=>rfl)) rfl rfl ?_
 refine oN (aN ?_)
 refine wC rfl (fun hc71=>?_) (fun hc71=>?_)
 ·skip
  have hlt:k < c.aux.length:=Int.ofNat_lt.1 (of_decide_eq_true hc71)
  refine wK (aN (wS (wB (wS (AWP.regD mixed ?_)))))
  refine qL (lF fi35_2 rfl rfl rfl rfl rfl) rfl rfl ?_
  refine qL (lD row30 rfl rfl rfl rfl rfl) rfl rfl ?_
  refine qL (lM (a:=.v _) rfl) rfl rfl ?_
  refine qL (lI Tryz.underlying30 sz81 rfl rfl (by first | assumption | omega)) rfl rfl ?_
  refine qL (LOp.ldTN row81 rfl rfl) rfl rfl ?_
  refine qL (lF fi35_2 rfl rfl rfl rfl rfl) rfl rfl ?_
  refine qL (lD row30 rfl rfl rfl rfl rfl) rfl rfl ?_
  refine qL (lM (a:=.v _) rfl) rfl rfl ?_
  refine qL (lI Tryz.underlying30 sz81 rfl rfl (by first | assumption | omega)) rfl rfl ?_
  refine qL (LOp.ldTN row81 rfl rfl) rfl rfl ?_
  refine SeqC.nw (LOp.al zr81 rfl) rfl rfl 3 rfl ?_
  refine SeqC.nw (LOp.al zr81 rfl) rfl rfl 4 rfl ?_
  refine SeqC.wr (LOp.st sz81 rfl rfl rfl rfl rfl rfl rfl rfl) rfl rfl rfl ?_
  refine SeqC.wr (LOp.st sz81 rfl rfl rfl rfl rfl rfl rfl rfl) rfl rfl rfl ?_
  refine SeqC.nil ⟨by kernel_rfl,?_⟩
  refine aN (wS (wR ?_))
  refine oL (lF fi81_1 rfl rfl rfl rfl rfl) rfl rfl ?_
  refine oL (lD row2 rfl rfl rfl rfl rfl) rfl rfl ?_
  refine oL (lF fi81_1 rfl rfl rfl rfl rfl) rfl rfl ?_
  refine oL (lD row2 rfl rfl rfl rfl rfl) rfl rfl ?_
  refine oL (LOp.neSame rfl rfl) rfl rfl ?_
  refine oL (lM (a:=.v _) rfl) rfl rfl ?_
  refine oL (lF fi81_2 rfl rfl rfl rfl rfl) rfl rfl ?_
  refine oL (lD row3 rfl rfl rfl rfl rfl) rfl rfl ?_
  refine oL (lF fi81_2 rfl rfl rfl rfl rfl) rfl rfl ?_
  refine oL (lD row3 rfl rfl rfl rfl rfl) rfl rfl ?_
  refine oL (LOp.neSame rfl rfl) rfl rfl ?_
  refine oL (lK rfl rfl rfl) rfl rfl ?_
  refine oL (lM (a:=.v _) rfl) rfl rfl ?_
  refine oL (lF fi81_0 rfl rfl rfl rfl rfl) rfl rfl ?_
  refine oL (LOp.ldN row79 rfl rfl rfl rfl rfl) rfl rfl ?_
  refine oL (lF fi81_0 rfl rfl rfl rfl rfl) rfl rfl ?_
  refine oL (LOp.ldN row79 rfl rfl rfl rfl rfl) rfl rfl ?_
  refine oL (LOp.call bod30 rfl (lin_p c.aux[k].of_ (hc.auxc _ (List.getElem_mem _)))) rfl rfl ?_
  refine oL (lP rfl (fun _ _=>nofun) (fun _=>rfl)) rfl rfl ?_
  refine oL (lK rfl rfl rfl) rfl rfl ?_
  refine oN (aN ?_)
  refine AWP.condF rfl ?_
  refine wK (bN (aN (wR ?_)))
  refine oL (lM (a:=.v _) rfl) rfl rfl ?_
  refine oL (lJ rfl rfl (by omega) (by omega)) rfl rfl ?_
  refine oL (lA (a:=.v _) rfl) rfl rfl ?_
  refine oN (aN ?_)
  refine ⟨(c.aux.length - (k+1)),⟨fL [(2,.ptr 0 0 0),(3,.ptr 1 0 0),(5,.v (.int .i64 (((k+1):Nat):Int)))],hLz [(0,⟨0,clA c,0,false⟩),(1,⟨0,clA c,0,false⟩)],2⟩,by omega,(cO (.cons rfl rfl (.cons rfl rfl (.cons rfl rfl .nil))) (.cons rfl rfl rfl (.cons rfl rfl rfl .nil))),(k+1),rfl,rfl,?_⟩
  refine ⟨by omega,fun j h=>?_⟩
  rcases Nat.lt_succ_iff_lt_or_eq.1 h with h | rfl
  ·exact hj j h
  ·rfl
 ·skip
  refine AWP.exit (aE (aE (bE ?_)))
  refine aN (wS (wS (wR ?_)))
  refine oL (lA (a:=.v _) rfl) rfl rfl ?_
  refine oN (aN (wB ?_))
  refine wL (fun n s=>∃ k2:Nat,n=(c.ints.length - k2)∧s=⟨fL [(2,.ptr 0 0 0),(3,.ptr 1 0 0),(8,.v (.int .i64 ((k2:Nat):Int)))],hLz [(0,⟨0,clA c,0,false⟩),(1,⟨0,clA c,0,false⟩)],2⟩∧(k2≤c.ints.length∧∀ j,j < k2→(fun _=>true) j=true)) (n:=(c.ints.length - 0)) (s1:=⟨fL [(2,.ptr 0 0 0),(3,.ptr 1 0 0),(8,.v (.int .i64 ((0:Nat):Int)))],hLz [(0,⟨0,clA c,0,false⟩),(1,⟨0,clA c,0,false⟩)],2⟩) (cO (.cons rfl rfl (.cons rfl rfl (.cons rfl rfl .nil))) (.cons rfl rfl rfl (.cons rfl rfl rfl .nil))) ⟨0,rfl,rfl,⟨Nat.zero_le _,fun j h=>absurd h (Nat.not_lt_zero j)⟩⟩ ?_
  rintro n s ⟨k2,rfl,rfl,hinv⟩
  obtain ⟨hk,hj⟩:=hinv
  refine wS (wS (wR ?_))
  refine oL (lM (a:=.v _) rfl) rfl rfl ?_
  refine oL (lF fi35_3 rfl rfl rfl rfl rfl) rfl rfl ?_
  refine oL (lD row31 rfl rfl rfl rfl rfl) rfl rfl ?_
  refine oL (lT rfl Tryz.underlying31 rfl) rfl rfl ?_
  refine oL (lP rfl (fun _ _=>nofun) (fun _=>rfl)) rfl rfl ?_
  refine oN (aN ?_)
  refine wC rfl (fun hc108=>?_) (fun hc108=>?_)
  ·skip
   have hlt:k2 < c.ints.length:=Int.ofNat_lt.1 (of_decide_eq_true hc108)
   refine wK (aN (wS (wB (wS (AWP.regD mixed ?_)))))
   refine qL (lF fi35_3 rfl rfl rfl rfl rfl) rfl rfl ?_
   refine qL (lD row31 rfl rfl rfl rfl rfl) rfl rfl ?_
   refine qL (lM (a:=.v _) rfl) rfl rfl ?_
   refine qL (lI Tryz.underlying31 sz84 rfl rfl (by first | assumption | omega)) rfl rfl ?_
   refine qL (LOp.fieldAddrT fi84_1 rfl rfl) rfl rfl ?_
   refine qL (lE row4 rfl rfl) rfl rfl ?_
   refine qL (lF fi35_3 rfl rfl rfl rfl rfl) rfl rfl ?_
   refine qL (lD row31 rfl rfl rfl rfl rfl) rfl rfl ?_
   refine qL (lM (a:=.v _) rfl) rfl rfl ?_
   refine qL (lI Tryz.underlying31 sz84 rfl rfl (by first | assumption | omega)) rfl rfl ?_
   refine qL (LOp.fieldAddrT fi84_1 rfl rfl) rfl rfl ?_
   refine qL (lE row4 rfl rfl) rfl rfl ?_
   refine qL (LOp.neSameB rfl rfl Tryz.underlying4) rfl rfl ?_
   refine qL (lM (a:=.v _) rfl) rfl rfl ?_
   refine qL (lF fi35_3 rfl rfl rfl rfl rfl) rfl rfl ?_
   refine qL (lD row31 rfl rfl rfl rfl rfl) rfl rfl ?_
   refine qL (lM (a:=.v _) rfl) rfl rfl ?_
   refine qL (lI Tryz.underlying31 sz84 rfl rfl (by first | assumption | omega)) rfl rfl ?_
   refine qL (LOp.fieldAddrT fi84_0 rfl rfl) rfl rfl ?_
   refine qL (LOp.ldTN row79 rfl rfl) rfl rfl ?_
   refine qL (lF fi35_3 rfl rfl rfl rfl rfl) rfl rfl ?_
   refine qL (lD row31 rfl rfl rfl rfl rfl) rfl rfl ?_
   refine qL (lM (a:=.v _) rfl) rfl rfl ?_
   refine qL (lI Tryz.underlying31 sz84 rfl rfl (by first | assumption | omega)) rfl rfl ?_
   refine qL (LOp.fieldAddrT fi84_0 rfl rfl) rfl rfl ?_
   refine qL (LOp.ldTN row79 rfl rfl) rfl rfl ?_
   refine qL (LOp.call bod30 rfl (lin_p c.ints[k2].l (hc.intc _ (List.getElem_mem _)))) rfl rfl ?_
   refine qL (lP rfl (fun _ _=>nofun) (fun _=>rfl)) rfl rfl ?_
   refine qL (lK rfl rfl rfl) rfl rfl ?_
   refine SeqC.nil ⟨by kernel_rfl,?_⟩
   refine aN ?_
   refine AWP.condF rfl ?_
   refine wK (bN (aN (wR ?_)))
   refine oL (lM (a:=.v _) rfl) rfl rfl ?_
   refine oL (lJ rfl rfl (by omega) (by omega)) rfl rfl ?_
   refine oL (lA (a:=.v _) rfl) rfl rfl ?_
   refine oN (aN ?_)
   refine ⟨(c.ints.length - (k2+1)),⟨fL [(2,.ptr 0 0 0),(3,.ptr 1 0 0),(8,.v (.int .i64 (((k2+1):Nat):Int)))],hLz [(0,⟨0,clA c,0,false⟩),(1,⟨0,clA c,0,false⟩)],2⟩,by omega,(cO (.cons rfl rfl (.cons rfl rfl (.cons rfl rfl .nil))) (.cons rfl rfl rfl (.cons rfl rfl rfl .nil))),(k2+1),rfl,rfl,?_⟩
   refine ⟨by omega,fun j h=>?_⟩
   rcases Nat.lt_succ_iff_lt_or_eq.1 h with h | rfl
   ·exact hj j h
   ·rfl
  ·skip
   refine AWP.exit (aE (aE (bE ?_)))
   refine aN (wS (wS (wR ?_)))
   refine oL (lA (a:=.v _) rfl) rfl rfl ?_
   refine oN (aN (wB ?_))
   refine wL (fun n s=>∃ k3:Nat,n=(c.tests.length - k3)∧s=⟨fL [(2,.ptr 0 0 0),(3,.ptr 1 0 0),(9,.v (.int .i64 ((k3:Nat):Int)))],hLz [(0,⟨0,clA c,0,false⟩),(1,⟨0,clA c,0,false⟩)],2⟩∧(k3≤c.tests.length∧∀ j,j < k3→(fun _=>true) j=true)) (n:=(c.tests.length - 0)) (s1:=⟨fL [(2,.ptr 0 0 0),(3,.ptr 1 0 0),(9,.v (.int .i64 ((0:Nat):Int)))],hLz [(0,⟨0,clA c,0,false⟩),(1,⟨0,clA c,0,false⟩)],2⟩) (cO (.cons rfl rfl (.cons rfl rfl (.cons rfl rfl .nil))) (.cons rfl rfl rfl (.cons rfl rfl rfl .nil))) ⟨0,rfl,rfl,⟨Nat.zero_le _,fun j h=>absurd h (Nat.not_lt_zero j)⟩⟩ ?_
   rintro n s ⟨k3,rfl,rfl,hinv⟩
   obtain ⟨hk,hj⟩:=hinv
   refine wS (wS (wR ?_))
   refine oL (lM (a:=.v _) rfl) rfl rfl ?_
   refine oL (lF fi35_4 rfl rfl rfl rfl rfl) rfl rfl ?_
   refine oL (lD row32 rfl rfl rfl rfl rfl) rfl rfl ?_
   refine oL (lT rfl Tryz.underlying32 rfl) rfl rfl ?_
   refine oL (lP rfl (fun _ _=>nofun) (fun _=>rfl)) rfl rfl ?_
   refine oN (aN ?_)
   refine wC rfl (fun hc144=>?_) (fun hc144=>?_)
   ·skip
    have hlt:k3 < c.tests.length:=Int.ofNat_lt.1 (of_decide_eq_true hc144)
    refine wK (aN (wS (wB (wS (AWP.regD mixed ?_)))))
    refine qL (lF fi35_4 rfl rfl rfl rfl rfl) rfl rfl ?_
    refine qL (lD row32 rfl rfl rfl rfl rfl) rfl rfl ?_
    refine qL (lM (a:=.v _) rfl) rfl rfl ?_
    refine qL (lI Tryz.underlying32 sz52 rfl rfl (by first | assumption | omega)) rfl rfl ?_
    refine qL (LOp.ldTN row52 rfl rfl) rfl rfl ?_
    refine qL (lF fi35_4 rfl rfl rfl rfl rfl) rfl rfl ?_
    refine qL (lD row32 rfl rfl rfl rfl rfl) rfl rfl ?_
    refine qL (lM (a:=.v _) rfl) rfl rfl ?_
    refine qL (lI Tryz.underlying32 sz52 rfl rfl (by first | assumption | omega)) rfl rfl ?_
    refine qL (LOp.ldTN row52 rfl rfl) rfl rfl ?_
    refine qL (LOp.neAgg (r:=true) rfl rfl rfl rfl eg52 (eq52_run c.tests[k3])) rfl rfl ?_
    refine SeqC.nil ⟨by kernel_rfl,?_⟩
    refine aN ?_
    refine AWP.condF rfl ?_
    refine wK (bN (aN (wR ?_)))
    refine oL (lM (a:=.v _) rfl) rfl rfl ?_
    refine oL (lJ rfl rfl (by omega) (by omega)) rfl rfl ?_
    refine oL (lA (a:=.v _) rfl) rfl rfl ?_
    refine oN (aN ?_)
    refine ⟨(c.tests.length - (k3+1)),⟨fL [(2,.ptr 0 0 0),(3,.ptr 1 0 0),(9,.v (.int .i64 (((k3+1):Nat):Int)))],hLz [(0,⟨0,clA c,0,false⟩),(1,⟨0,clA c,0,false⟩)],2⟩,by omega,(cO (.cons rfl rfl (.cons rfl rfl (.cons rfl rfl .nil))) (.cons rfl rfl rfl (.cons rfl rfl rfl .nil))),(k3+1),rfl,rfl,?_⟩
    refine ⟨by omega,fun j h=>?_⟩
    rcases Nat.lt_succ_iff_lt_or_eq.1 h with h | rfl
    ·exact hj j h
    ·rfl
   ·skip
    refine AWP.exit (aE (aE (bE ?_)))
    refine aN (wS (wR ?_))
    refine oL (lA (a:=.v _) rfl) rfl rfl ?_
    refine oN (aN ?_)
    refine wT (?_)
    refine ⟨.inr rfl,oV Tryz.results10 rfl rfl ?_⟩
    rfl
end Go.Proofs.YtgknefkobpnjaaaGreatDoor
namespace Go.Proofs.YtgknefkobpnjaaaGreatDoor
set_option linter.unusedVariables false
set_option linter.unusedSimpArgs false
open Go.RowKit
/-- A predicate as it may come. -/
structure PPred.Fits (p:PPred):Prop where
 vars:p.vars.length≤140737488355328
 cls:p.cls.length≤140737488355328
 each:∀ c∈p.cls,c.Fits
theorem sumA_ge {c:PCl}:∀ k j,j < k→k≤c.aux.length→(c.aux.getD j default).of_.cs.length≤sumA c k
 | 0,_,h,_=>absurd h (Nat.not_lt_zero _)
 | k+1,j,h,hk=>by
  show _≤sumA c k+(c.aux.getD k default).of_.cs.length
  by_cases e:j=k
  ·subst e; omega
  ·have:=sumA_ge (c:=c) k j (by omega) (by omega); omega
theorem sumI_ge {c:PCl}:∀ k j,j < k→k≤c.ints.length→(c.ints.getD j default).l.cs.length≤sumI c k
 | 0,_,h,_=>absurd h (Nat.not_lt_zero _)
 | k+1,j,h,hk=>by
  show _≤sumI c k+(c.ints.getD k default).l.cs.length
  by_cases e:j=k
  ·subst e; omega
  ·have:=sumI_ge (c:=c) k j (by omega) (by omega); omega
theorem few_ok {c:PCl} (h:fewB c=true):c.Ok:=by
 unfold fewB at h
 simp only [Bool.and_eq_true,Bool.not_eq_true',decide_eq_false_iff_not,decide_eq_true_eq] at h
 obtain ⟨⟨h1,h2⟩,h3⟩:=h
 have h4:c.nul.length+c.nn.length+c.aux.length+c.ints.length+c.tests.length+c.same.length+c.diff.length≤80:=by unfold fewN at h1; omega
 refine ⟨by omega,by omega,by omega,by omega,by omega,by omega,by omega,?_,?_,?_⟩
 ·intro a ha
  obtain ⟨j,hj,rfl⟩:=List.getElem_of_mem ha
  have:=sumA_ge (c:=c) c.aux.length j hj (Nat.le_refl _)
  rw [getD_at hj] at this
  omega
 ·intro a ha
  obtain ⟨j,hj,rfl⟩:=List.getElem_of_mem ha
  have:=sumI_ge (c:=c) c.ints.length j hj (Nat.le_refl _)
  rw [getD_at hj] at this
  omega
 ·intro a ha
  obtain ⟨j,hj,rfl⟩:=List.getElem_of_mem ha
  have:=allN_iff.1 h2 j hj
  unfold txtP at this
  rw [getD_at hj] at this
  simp only [Bool.not_eq_true',decide_eq_false_iff_not] at this
  omega
theorem consec {n:Nat} {f:Nat→Int} (h:∀ j,0 < j→j < n→f (j - 1) < f j):∀ {j i:Nat},i < j→j < n→f i < f j
 | 0,i,hi,_=>absurd hi (Nat.not_lt_zero i)
 | j+1,i,hi,hj=>by
  have h1:=h (j+1) (by omega) hj
  rw [Nat.add_sub_cancel] at h1
  rcases Nat.lt_succ_iff_lt_or_eq.1 hi with h2 | h2
  ·have:=consec h h2 (by omega); omega
  ·subst h2; exact h1
theorem asc_of_fOk {f:PLin} {nn:List Int} {l:List PVar} {bs:List Int} {N:Int} (hl:f.cs.length≤1000) (hN:(l.length:Int)+bs.length≤N) (h:¬ fV f nn l bs < 0):f.Asc N:=by
 unfold fV at h
 split at h
 ·rename_i h1
  rw [Bool.and_eq_true] at h1
  have h2:=allN_iff.1 h1.2
  have h3:∀ j (hj:j < f.cs.length),0≤f.cs[j].v∧f.cs[j].v≤N∧f.cs[j].n≠0∧(0 < j→(f.cs.getD (j - 1) default).v < (f.cs.getD j default).v):=fun j hj=>by
   have:=h2 j hj
   unfold fOk at this
   rw [Bool.and_eq_true,Bool.and_eq_true,Bool.and_eq_true] at this
   have hb:=this.1.1.1
   unfold fBad at hb
   rw [getD_at hj] at *
   simp only [Bool.not_eq_true',Bool.or_eq_false_iff,decide_eq_false_iff_not,Bool.and_eq_false_iff,beq_eq_false_iff_ne] at hb
   obtain ⟨⟨⟨⟨b1,b2⟩,b3⟩,b4⟩,b5⟩:=hb
   refine ⟨by omega,by omega,b4,fun h0=>?_⟩
   rcases b3 with b3 | b3 <;> omega
  refine ⟨hl,fun a ha=>?_,fun a ha=>?_,?_⟩
  ·obtain ⟨j,hj,rfl⟩:=List.getElem_of_mem ha
   exact ⟨(h3 j hj).1,(h3 j hj).2.1⟩
  ·obtain ⟨j,hj,rfl⟩:=List.getElem_of_mem ha
   exact (h3 j hj).2.2.1
  ·rw [List.pairwise_iff_getElem]
   intro i j hi hj hij
   have:=consec (n:=f.cs.length) (f:=fun j=>(f.cs.getD j default).v) (fun j h0 hj=>(h3 j hj).2.2.2 h0) hij hj
   simpa only [getD_at hi,getD_at hj] using this
 ·omega
theorem asc_nil {f:PLin} {N:Int} (h:f.cs.length=0):f.Asc N:=by
 have e:=List.eq_nil_of_length_eq_zero h
 refine ⟨by omega,?_,?_,?_⟩ <;> rw [e] <;> simp
theorem inN_asc {l:List Int} {n N:Int} (hN:n≤N) (h:ascB l n=true):InN N l:=fun v hv=>by
 obtain ⟨j,hj,rfl⟩:=List.getElem_of_mem hv
 have:=allN_iff.1 h j hj
 unfold ascP at this
 rw [getD_at hj] at this
 simp only [Bool.not_eq_true',Bool.or_eq_false_iff,decide_eq_false_iff_not] at this
 omega
theorem txt_in {v N:Int} {nn:List Int} {l:List PVar} (hN:(l.length:Int)≤N) (h:txtB v nn l=true):0≤v∧v≤N:=by
 unfold txtB at h
 simp only [Bool.and_eq_true,decide_eq_true_eq] at h
 omega
theorem in_of_clB {c:PCl} {l:List PVar} (hc:c.Ok) (hl:l.length≤1000) (h:clB c l=true):c.In 100000:=by
 unfold clB at h
 simp only [Bool.and_eq_true] at h
 obtain ⟨⟨⟨⟨⟨h1,h2⟩,h3⟩,h4⟩,h5⟩,h6,h7⟩:=h
 have ha:=hc.aux
 have hax:∀ a∈c.aux,a.of_.Asc 100000∧(a.by_=0→0≤a.tx∧a.tx≤100000):=fun a hm=>by
  have hal:=hc.auxc a hm
  obtain ⟨j,hj,rfl⟩:=List.getElem_of_mem hm
  have:=allN_iff.1 h3 j hj
  unfold auxP at this
  rw [getD_at hj] at this
  split at this
  ·simp only [Bool.and_eq_true,Bool.not_eq_true',Bool.or_eq_false_iff,decide_eq_false_iff_not] at this
   exact ⟨asc_nil (by omega),fun _=>txt_in (by omega) this.2⟩
  ·rename_i h0
   simp only [Bool.and_eq_true,Bool.not_eq_true',decide_eq_false_iff_not] at this
   exact ⟨asc_of_fOk hal (by rw [bsAt_len]; omega) this.2,fun e=>absurd e h0⟩
 have hpi:∀ p,paiB p c.nn l=true→InP 100000 p:=fun p hp x hx=>by
  obtain ⟨j,hj,rfl⟩:=List.getElem_of_mem hx
  have:=allN_iff.1 hp j hj
  unfold paiP at this
  rw [getD_at hj] at this
  simp only [Bool.and_eq_true] at this
  exact ⟨txt_in (by omega) this.1.1,txt_in (by omega) this.1.2⟩
 refine ⟨hc,inN_asc (by omega) h1,inN_asc (by omega) h2,fun a hm=>(hax a hm).1,fun a hm=>(hax a hm).2,fun a hm=>?_,fun a hm=>?_,hpi _ h6,hpi _ h7⟩
 ·have hal:=hc.intc a hm
  obtain ⟨j,hj,rfl⟩:=List.getElem_of_mem hm
  have:=allN_iff.1 h4 j hj
  unfold intP at this
  rw [getD_at hj] at this
  simp only [Bool.not_eq_true',decide_eq_false_iff_not] at this
  exact asc_of_fOk hal (by rw [bsAt_len]; omega) this
 ·obtain ⟨j,hj,rfl⟩:=List.getElem_of_mem hm
  have:=allN_iff.1 h5 j hj
  unfold tstP at this
  rw [getD_at hj,Bool.and_eq_true] at this
  exact txt_in (by omega) this.2
theorem liN_id {f:PLin}:liN (fun v=>v) f=f:=by
 unfold liN
 have:(f.cs.map fun a=>(⟨a.v,a.n⟩:PCoef))=f.cs:=by
  conv=>rhs; rw [← List.map_id f.cs]
  rfl
 rw [this]
theorem axN_id {x:PAux}:axN (fun v=>v) x=x:=by
 unfold axN
 rw [liN_id,ite_self]
theorem cnN_id {x:PCon}:cnN (fun v=>v) x=x:=by unfold cnN; rw [liN_id]
theorem map_same {α:Type} {f:α→α} {l:List α} (h:∀ a∈l,f a=a):l.map f=l:=by
 conv=>rhs; rw [← List.map_id l]
 exact List.map_congr_left h
theorem pairN_id {σ:Int→Int} {p:Int×Int}:pairN (fun v=>v) (pairN σ p)=pairN σ p:=by
 unfold pairN
 apply Prod.ext <;> simp only <;> omega
theorem clN_id {σ:Int→Int} {c:PCl}:clN (fun v=>v) (clN σ c)=clN σ c:=by
 have e:∀ l:List Int,srtU ((srtU l).map fun v=>v)=srtU l:=fun l=>by rw [List.map_id',srtU_id srtU_lt]
 have e2:∀ l:List (Int×Int),(l.map (pairN σ)).map (pairN fun v=>v)=l.map (pairN σ):=fun l=>by
  rw [List.map_map]; exact List.map_congr_left fun p _=>pairN_id
 show PCl.mk _ _ _ _ _ _ _=PCl.mk _ _ _ _ _ _ _
 rw [show (clN σ c).nul=srtU (c.nul.map σ) from rfl,show (clN σ c).nn=srtU (c.nn.map σ) from rfl,e,e,map_same (fun a _=>axN_id),map_same (fun a _=>cnN_id),show (clN σ c).same=c.same.map (pairN σ) from rfl,show (clN σ c).diff=c.diff.map (pairN σ) from rfl,e2,e2,map_same (f:=teN fun v=>v) (fun a _=>rfl)]
 rfl
theorem clN_congr {σ ρ:Int→Int} {c:PCl} {N:Int} (hc:c.In N) (h:∀ v,0≤v→v≤N→σ v=ρ v):clN σ c=clN ρ c:=by
 have hl:∀ f:PLin,f.Asc N→liN σ f=liN ρ f:=fun f hf=>by
  unfold liN
  congr 1
  exact List.map_congr_left fun a ha=>by rw [h _ (hf.rng a ha).1 (hf.rng a ha).2]
 have hi:∀ l,InN N l→l.map σ=l.map ρ:=fun l hl=>List.map_congr_left fun v hv=>h v (hl v hv).1 (hl v hv).2
 have hp:∀ l,InP N l→l.map (pairN σ)=l.map (pairN ρ):=fun l hl=>List.map_congr_left fun p hp=>by
  unfold pairN
  rw [h _ (hl p hp).1.1 (hl p hp).1.2,h _ (hl p hp).2.1 (hl p hp).2.2]
 have h1:c.aux.map (axN σ)=c.aux.map (axN ρ):=List.map_congr_left fun a ha=>by
  unfold axN
  rw [hl _ (hc.auxf a ha)]
  by_cases h0:a.by_=0
  ·rw [h _ (hc.auxt a ha h0).1 (hc.auxt a ha h0).2]
  ·simp [h0]
 have h2:c.ints.map (cnN σ)=c.ints.map (cnN ρ):=List.map_congr_left fun a ha=>by unfold cnN; rw [hl _ (hc.ints a ha)]
 have h3:c.tests.map (teN σ)=c.tests.map (teN ρ):=List.map_congr_left fun a ha=>by unfold teN; rw [h _ (hc.tests a ha).1 (hc.tests a ha).2]
 unfold clN
 rw [hi _ hc.nul,hi _ hc.nn,h1,h2,h3,hp _ hc.same,hp _ hc.diff]
/-- The program's pair and the reference's are one. -/
theorem pair_same {σ ρ:Int→Int} {a b:PCl} {n:Nat} (hb:(clN ρ b).In 1000000) :
  pairS (clN σ a) (clN ρ b) (n:Int)=joR (clR σ a) (clR (renS (idL n) ((n:Int)+(((clR σ a).aux.length:Nat):Int))) (clR ρ b)):=by
 rw [joR_C,clR_N,clR_N,clR_N]
 unfold pairS
 rw [clN_id]
 congr 1
 exact clN_congr hb fun v h1 h2=>by
  rw [ren_id h1]
  unfold shS
  split <;> omega
def fewP (p:PPred):Bool:=!(decide ((p.vars.length:Int) > 6)||decide ((p.cls.length:Int) > 6))&&allN p.cls.length (fun j=>fewB (p.cls.getD j default))
def sameP (p q:PPred) (j:Nat):Bool:=eqVB (p.vars.getD j default) (q.vars.getD j default)
def compB (p q:PPred):Bool:=fewP p&&fewP q&&refB p p.cols&&refB q q.cols&&(!(p.tab==q.tab)||(p.cols==q.cols&&allN p.cols.toNat (sameP p q)))
theorem fewP_ok {p:PPred} (h:fewP p=true):p.Ok∧p.vars.length≤6∧p.cls.length≤6:=by
 unfold fewP at h
 simp only [Bool.and_eq_true,Bool.not_eq_true',Bool.or_eq_false_iff,decide_eq_false_iff_not] at h
 refine ⟨⟨by omega,by omega,fun c hc=>?_⟩,by omega,by omega⟩
 obtain ⟨j,hj,rfl⟩:=List.getElem_of_mem hc
 have:=allN_iff.1 h.2 j hj
 simp only [getD_at hj] at this
 exact few_ok this
theorem ref_cols {p:PPred} {n:Int} (h:refB p n=true):p.cols=n∧1≤n∧n≤p.vars.length:=by
 unfold refB badP at h
 simp only [Bool.and_eq_true,Bool.not_eq_true',Bool.or_eq_false_iff,decide_eq_false_iff_not,bne_eq_false_iff_eq] at h
 omega
theorem ref_cl {p:PPred} {n:Int} (h:refB p n=true) {j:Nat} (hj:j < p.cls.length):clB p.cls[j] p.vars=true:=by
 unfold refB at h
 rw [Bool.and_eq_true] at h
 have:=allN_iff.1 h.2 j hj
 unfold clsP at this
 rwa [getD_at hj] at this
theorem bod11:bodied Tryz.prog 11=true:=by kernel_rfl
theorem bod13:bodied Tryz.prog 13=true:=by kernel_rfl
theorem bod22:bodied Tryz.prog 22=true:=by kernel_rfl
theorem row25:rowOf Tryz.prog 25=some (some 4):=by kernel_rfl
set_option maxRecDepth 100000 in
set_option maxHeartbeats 4000000 in
theorem fewp_p (p:PPred) (hp:p.Fits):PCall Tryz.prog 22 [.agg (prA p)] (.v (.bool (fewP p))):=by
 have q1:=hp.vars
 have q2:=hp.cls
 refine pB Tryz.func22 rfl Tryz.ntmps22 (Nat.le_of_ble_eq_true rfl) ?_
 refine wS (wR ?_)
 refine oW (LOp.bx rfl) rfl rfl 1 rfl ?_
 refine oL (lA (a:=.v _) rfl) rfl rfl ?_
 refine oN (aN (wS (wS (wR ?_))))
 refine oL (lF fi25_2 rfl rfl rfl rfl rfl) rfl rfl ?_
 refine oL (lD row22 rfl rfl rfl rfl rfl) rfl rfl ?_
 refine oL (lT rfl Tryz.underlying22 rfl) rfl rfl ?_
 refine oL (lP rfl (fun _ _=>nofun) (fun _=>rfl)) rfl rfl ?_
 refine oL (lM (a:=.v _) rfl) rfl rfl ?_
 refine oB 8 rfl (fun hg8=>?_) (fun hg8=>?_)
 ·skip
  refine oS rfl rfl ?_
  refine oS rfl rfl ?_
  refine oS rfl rfl ?_
  refine oS rfl rfl ?_
  refine oL (LOp.pkT (a:=.v _) rfl (by first | rfl | assumption) rfl) rfl rfl ?_
  refine oN (aN ?_)
  refine AWP.condT rfl ?_
  refine wS (wR ?_)
  refine oL (lA (a:=.v _) rfl) rfl rfl ?_
  refine oN (aN ?_)
  refine wT (aR (?_))
  refine ⟨.inr rfl,oV Tryz.results22 rfl rfl ?_⟩
  (refine vb_eq ?_; unfold fewP; simp_all; done)
 ·skip
  refine oL (lF fi25_3 rfl rfl rfl rfl rfl) rfl rfl ?_
  refine oL (lD row23 rfl rfl rfl rfl rfl) rfl rfl ?_
  refine oL (lT rfl Tryz.underlying23 rfl) rfl rfl ?_
  refine oL (lP rfl (fun _ _=>nofun) (fun _=>rfl)) rfl rfl ?_
  refine oL (lK rfl rfl rfl) rfl rfl ?_
  refine oN (aN ?_)
  refine wC rfl (fun hc13=>?_) (fun hc13=>?_)
  ·skip
   refine wS (wR ?_)
   refine oL (lA (a:=.v _) rfl) rfl rfl ?_
   refine oN (aN ?_)
   refine wT (aR (?_))
   refine ⟨.inr rfl,oV Tryz.results22 rfl rfl ?_⟩
   (refine vb_eq ?_; unfold fewP; simp_all; done)
  ·skip
   refine wK (aN (wS (wS (wR ?_))))
   refine oL (lA (a:=.v _) rfl) rfl rfl ?_
   refine oN (aN (wB ?_))
   refine wL (fun n s=>∃ k:Nat,n=(p.cls.length - k)∧s=⟨fL [(1,.ptr 0 0 0),(3,.v (.int .i64 ((k:Nat):Int)))],hLz [(0,⟨0,prA p,0,false⟩)],1⟩∧(k≤p.cls.length∧∀ j,j < k→(fun j=>fewB (p.cls.getD j default)) j=true)) (n:=(p.cls.length - 0)) (s1:=⟨fL [(1,.ptr 0 0 0),(3,.v (.int .i64 ((0:Nat):Int)))],hLz [(0,⟨0,prA p,0,false⟩)],1⟩) (cO (.cons rfl rfl (.cons rfl rfl .nil)) (.cons rfl rfl rfl .nil)) ⟨0,rfl,rfl,⟨Nat.zero_le _,fun j h=>absurd h (Nat.not_lt_zero j)⟩⟩ ?_
   rintro n s ⟨k,rfl,rfl,hinv⟩
   obtain ⟨hk,hj⟩:=hinv
   refine wS (wS (wR ?_))
   refine oL (lM (a:=.v _) rfl) rfl rfl ?_
   refine oL (lF fi25_3 rfl rfl rfl rfl rfl) rfl rfl ?_
   refine oL (lD row23 rfl rfl rfl rfl rfl) rfl rfl ?_
   refine oL (lT rfl Tryz.underlying23 rfl) rfl rfl ?_
   refine oL (lP rfl (fun _ _=>nofun) (fun _=>rfl)) rfl rfl ?_
   refine oN (aN ?_)
   refine wC rfl (fun hc18=>?_) (fun hc18=>?_)
   ·skip
    have hlt:k < p.cls.length:=Int.ofNat_lt.1 (of_decide_eq_true hc18)
    refine wK (aN (wS (wB (wS (wR ?_)))))
    refine oL (lF fi25_3 rfl rfl rfl rfl rfl) rfl rfl ?_
    refine oL (lD row23 rfl rfl rfl rfl rfl) rfl rfl ?_
    refine oL (lM (a:=.v _) rfl) rfl rfl ?_
    refine oL (lI Tryz.underlying23 sz35 rfl rfl (by first | assumption | omega)) rfl rfl ?_
    refine oL (LOp.ldTN row35 rfl rfl) rfl rfl ?_
    refine oL (LOp.call bod11 rfl (few_p p.cls[k] (hp.each _ (List.getElem_mem _)))) rfl rfl ?_
    refine oL (lP rfl (fun _ _=>nofun) (fun _=>rfl)) rfl rfl ?_
    refine oN (aN ?_)
    refine wC rfl (fun hc27=>?_) (fun hc27=>?_)
    ·skip
     refine wS (wR ?_)
     refine oL (lA (a:=.v _) rfl) rfl rfl ?_
     refine oN (aN ?_)
     refine wT (bR (aR (aR (bR (aR (?_))))))
     refine ⟨.inr rfl,oV Tryz.results22 rfl rfl ?_⟩
     (refine vb_eq ?_; unfold fewP; rw [allN_hit hlt (by show fewB (p.cls.getD _ default)=false; rw [getD_at hlt]; simpa using hc27)]; simp; done)
    ·skip
     refine wK (bN (aN (wR ?_)))
     refine oL (lM (a:=.v _) rfl) rfl rfl ?_
     refine oL (lJ rfl rfl (by omega) (by omega)) rfl rfl ?_
     refine oL (lA (a:=.v _) rfl) rfl rfl ?_
     refine oN (aN ?_)
     refine ⟨(p.cls.length - (k+1)),⟨fL [(1,.ptr 0 0 0),(3,.v (.int .i64 (((k+1):Nat):Int)))],hLz [(0,⟨0,prA p,0,false⟩)],1⟩,by omega,(cO (.cons rfl rfl (.cons rfl rfl .nil)) (.cons rfl rfl rfl .nil)),(k+1),rfl,rfl,?_⟩
     refine ⟨by omega,fun j h=>?_⟩
     rcases Nat.lt_succ_iff_lt_or_eq.1 h with h | rfl
     ·exact hj j h
     ·show fewB (p.cls.getD _ default)=true
      rw [getD_at hlt]; simpa using hc27
   ·skip
    have hge:¬ k < p.cls.length:=fun h=>of_decide_eq_false hc18 (Int.ofNat_lt.2 h)
    refine AWP.exit (aE (aE (bE ?_)))
    refine aN (wS (wR ?_))
    refine oL (lA (a:=.v _) rfl) rfl rfl ?_
    refine oN (aN ?_)
    refine wT (?_)
    refine ⟨.inr rfl,oV Tryz.results22 rfl rfl ?_⟩
    (refine vb_eq ?_; unfold fewP; rw [allN_end hk hge hj]; simp_all; done)
set_option maxRecDepth 100000 in
set_option maxHeartbeats 4000000 in
theorem comp_p (p q:PPred) (hp:p.Fits) (hq:q.Fits):PCall Tryz.prog 6 [.agg (prA p),.agg (prA q)] (.v (.bool (compB p q))):=by
 refine pB Tryz.func6 rfl Tryz.ntmps6 (Nat.le_of_ble_eq_true rfl) ?_
 refine wS (wR ?_)
 refine oW (LOp.bx rfl) rfl rfl 1 rfl ?_
 refine oW (LOp.bx rfl) rfl rfl 2 rfl ?_
 refine oL (lA (a:=.v _) rfl) rfl rfl ?_
 refine oN (aN (wS (wS (wR ?_))))
 refine oL (LOp.ldN row25 rfl rfl rfl rfl rfl) rfl rfl ?_
 refine oL (LOp.call bod22 rfl (fewp_p p hp)) rfl rfl ?_
 refine oL (lP rfl (fun _ _=>nofun) (fun _=>rfl)) rfl rfl ?_
 refine oL (lM (a:=.v _) rfl) rfl rfl ?_
 refine oB 9 rfl (fun hg9=>?_) (fun hg9=>?_)
 ·skip
  refine oS rfl rfl ?_
  refine oS rfl rfl ?_
  refine oS rfl rfl ?_
  refine oL (LOp.pkT (a:=.v _) rfl (by first | rfl | assumption) rfl) rfl rfl ?_
  refine oL (lM (a:=.v _) rfl) rfl rfl ?_
  refine oS rfl rfl ?_
  refine oS rfl rfl ?_
  refine oS rfl rfl ?_
  refine oS rfl rfl ?_
  refine oS rfl rfl ?_
  refine oL (LOp.pkT (a:=.v _) rfl (by first | rfl | assumption) rfl) rfl rfl ?_
  refine oL (lM (a:=.v _) rfl) rfl rfl ?_
  refine oS rfl rfl ?_
  refine oS rfl rfl ?_
  refine oS rfl rfl ?_
  refine oS rfl rfl ?_
  refine oS rfl rfl ?_
  refine oL (LOp.pkT (a:=.v _) rfl (by first | rfl | assumption) rfl) rfl rfl ?_
  refine oN (aN ?_)
  refine AWP.condT rfl ?_
  refine wS (wR ?_)
  refine oL (lA (a:=.v _) rfl) rfl rfl ?_
  refine oN (aN ?_)
  refine wT (aR (?_))
  refine ⟨.inr rfl,oV Tryz.results6 rfl rfl ?_⟩
  (refine vb_eq ?_; unfold compB; simp_all; done)
 ·skip
  have hokp:=(fewP_ok (p:=p) (by simpa using hg9))
  refine oL (LOp.ldN row25 rfl rfl rfl rfl rfl) rfl rfl ?_
  refine oL (LOp.call bod22 rfl (fewp_p q hq)) rfl rfl ?_
  refine oL (lP rfl (fun _ _=>nofun) (fun _=>rfl)) rfl rfl ?_
  refine oL (lK rfl rfl rfl) rfl rfl ?_
  refine oL (lM (a:=.v _) rfl) rfl rfl ?_
  refine oB 14 rfl (fun hg14=>?_) (fun hg14=>?_)
  ·skip
   refine oS rfl rfl ?_
   refine oS rfl rfl ?_
   refine oS rfl rfl ?_
   refine oS rfl rfl ?_
   refine oS rfl rfl ?_
   refine oL (LOp.pkT (a:=.v _) rfl (by first | rfl | assumption) rfl) rfl rfl ?_
   refine oL (lM (a:=.v _) rfl) rfl rfl ?_
   refine oS rfl rfl ?_
   refine oS rfl rfl ?_
   refine oS rfl rfl ?_
   refine oS rfl rfl ?_
   refine oS rfl rfl ?_
   refine oL (LOp.pkT (a:=.v _) rfl (by first | rfl | assumption) rfl) rfl rfl ?_
   refine oN (aN ?_)
   refine AWP.condT rfl ?_
   refine wS (wR ?_)
   refine oL (lA (a:=.v _) rfl) rfl rfl ?_
   refine oN (aN ?_)
   refine wT (aR (?_))
   refine ⟨.inr rfl,oV Tryz.results6 rfl rfl ?_⟩
   (refine vb_eq ?_; unfold compB; simp_all; done)
  ·skip
   have hokq:=(fewP_ok (p:=q) (by simpa using hg14))
   refine oL (LOp.ldN row25 rfl rfl rfl rfl rfl) rfl rfl ?_
   refine oL (lF fi25_1 rfl rfl rfl rfl rfl) rfl rfl ?_
   refine oL (lD row3 rfl rfl rfl rfl rfl) rfl rfl ?_
   refine oL (LOp.call bod13 rfl (ref_p p p.cols hokp.1)) rfl rfl ?_
   refine oL (lP rfl (fun _ _=>nofun) (fun _=>rfl)) rfl rfl ?_
   refine oL (lK rfl rfl rfl) rfl rfl ?_
   refine oL (lM (a:=.v _) rfl) rfl rfl ?_
   refine oB 21 rfl (fun hg21=>?_) (fun hg21=>?_)
   ·skip
    refine oS rfl rfl ?_
    refine oS rfl rfl ?_
    refine oS rfl rfl ?_
    refine oS rfl rfl ?_
    refine oS rfl rfl ?_
    refine oL (LOp.pkT (a:=.v _) rfl (by first | rfl | assumption) rfl) rfl rfl ?_
    refine oN (aN ?_)
    refine AWP.condT rfl ?_
    refine wS (wR ?_)
    refine oL (lA (a:=.v _) rfl) rfl rfl ?_
    refine oN (aN ?_)
    refine wT (aR (?_))
    refine ⟨.inr rfl,oV Tryz.results6 rfl rfl ?_⟩
    (refine vb_eq ?_; unfold compB; simp_all; done)
   ·skip
    have hrp:refB p p.cols=true:=by simpa using hg21
    refine oL (LOp.ldN row25 rfl rfl rfl rfl rfl) rfl rfl ?_
    refine oL (lF fi25_1 rfl rfl rfl rfl rfl) rfl rfl ?_
    refine oL (lD row3 rfl rfl rfl rfl rfl) rfl rfl ?_
    refine oL (LOp.call bod13 rfl (ref_p q q.cols hokq.1)) rfl rfl ?_
    refine oL (lP rfl (fun _ _=>nofun) (fun _=>rfl)) rfl rfl ?_
    refine oL (lK rfl rfl rfl) rfl rfl ?_
    refine oN (aN ?_)
    refine wC rfl (fun hc27=>?_) (fun hc27=>?_)
    ·skip
     refine wS (wR ?_)
     refine oL (lA (a:=.v _) rfl) rfl rfl ?_
     refine oN (aN ?_)
     refine wT (aR (?_))
     refine ⟨.inr rfl,oV Tryz.results6 rfl rfl ?_⟩
     (refine vb_eq ?_; unfold compB; simp_all; done)
    ·skip
     have hrq:refB q q.cols=true:=by simpa using hc27
     obtain ⟨_,hp1,hp2⟩:=ref_cols hrp
     obtain ⟨_,hq1,hq2⟩:=ref_cols hrq
     refine wK (aN (wS (wS (wR ?_))))
     refine oL (lF fi25_0 rfl rfl rfl rfl rfl) rfl rfl ?_
     refine oL (lD row3 rfl rfl rfl rfl rfl) rfl rfl ?_
     refine oL (lF fi25_0 rfl rfl rfl rfl rfl) rfl rfl ?_
     refine oL (lD row3 rfl rfl rfl rfl rfl) rfl rfl ?_
     refine oL (lP rfl (fun _ _=>nofun) (fun _=>rfl)) rfl rfl ?_
     refine oN (aN ?_)
     refine wC rfl (fun hc32=>?_) (fun hc32=>?_)
     ·skip
      refine wS (wR ?_)
      refine oL (lA (a:=.v _) rfl) rfl rfl ?_
      refine oN (aN ?_)
      refine wT (aR (?_))
      refine ⟨.inr rfl,oV Tryz.results6 rfl rfl ?_⟩
      (refine vb_eq ?_; unfold compB; simp_all; done)
     ·skip
      refine wK (aN (wS (wS (wR ?_))))
      refine oL (lF fi25_1 rfl rfl rfl rfl rfl) rfl rfl ?_
      refine oL (lD row3 rfl rfl rfl rfl rfl) rfl rfl ?_
      refine oL (lF fi25_1 rfl rfl rfl rfl rfl) rfl rfl ?_
      refine oL (lD row3 rfl rfl rfl rfl rfl) rfl rfl ?_
      refine oL (lP rfl (fun _ _=>nofun) (fun _=>rfl)) rfl rfl ?_
      refine oN (aN ?_)
      refine wC rfl (fun hc37=>?_) (fun hc37=>?_)
      ·skip
       refine wS (wR ?_)
       refine oL (lA (a:=.v _) rfl) rfl rfl ?_
       refine oN (aN ?_)
       refine wT (aR (?_))
       refine ⟨.inr rfl,oV Tryz.results6 rfl rfl ?_⟩
       (refine vb_eq ?_; unfold compB; simp_all; done)
      ·skip
       have hcq:p.cols=q.cols:=by simpa using hc37
       obtain ⟨m,hm⟩:∃ m:Nat,p.cols=((m:Nat):Int):=⟨p.cols.toNat,by omega⟩
       have hmp:m≤p.vars.length:=by omega
       have hmq:m≤q.vars.length:=by omega
       refine wK (aN (wS (wS (wR ?_))))
       refine oL (lA (a:=.v _) rfl) rfl rfl ?_
       refine oN (aN (wB ?_))
       refine wL (fun n s=>∃ k:Nat,n=(m - k)∧s=⟨fL [(2,.ptr 0 0 0),(3,.ptr 1 0 0),(5,.v (.int .i64 ((k:Nat):Int)))],hLz [(0,⟨0,prA p,0,false⟩),(1,⟨0,prA q,0,false⟩)],2⟩∧(k≤m∧∀ j,j < k→(sameP p q) j=true)) (n:=(m - 0)) (s1:=⟨fL [(2,.ptr 0 0 0),(3,.ptr 1 0 0),(5,.v (.int .i64 ((0:Nat):Int)))],hLz [(0,⟨0,prA p,0,false⟩),(1,⟨0,prA q,0,false⟩)],2⟩) (cO (.cons rfl rfl (.cons rfl rfl (.cons rfl rfl .nil))) (.cons rfl rfl rfl (.cons rfl rfl rfl .nil))) ⟨0,rfl,rfl,⟨Nat.zero_le _,fun j h=>absurd h (Nat.not_lt_zero j)⟩⟩ ?_
       rintro n s ⟨k,rfl,rfl,hinv⟩
       obtain ⟨hk,hj⟩:=hinv
       refine wS (wS (wR ?_))
       refine oL (lM (a:=.v _) rfl) rfl rfl ?_
       refine oL (lF fi25_1 rfl rfl rfl rfl rfl) rfl rfl ?_
       refine oL (lD row3 rfl rfl rfl rfl rfl) rfl rfl ?_
       refine oL (lP rfl (fun _ _=>nofun) (fun _=>rfl)) rfl rfl ?_
       refine oN (aN ?_)
       refine wC rfl (fun hc41=>?_) (fun hc41=>?_)
       ·skip
        have hlt:k < m:=by have:=of_decide_eq_true hc41; omega
        have hlp:k < p.vars.length:=by omega
        have hlq:k < q.vars.length:=by omega
        refine wK (aN (wS (wB (wS (AWP.regD mixed ?_)))))
        refine qL (lF fi25_2 rfl rfl rfl rfl rfl) rfl rfl ?_
        refine qL (lD row22 rfl rfl rfl rfl rfl) rfl rfl ?_
        refine qL (lM (a:=.v _) rfl) rfl rfl ?_
        refine qL (lI Tryz.underlying22 sz44 rfl rfl (by first | assumption | omega)) rfl rfl ?_
        refine qL (LOp.ldTN row44 rfl rfl) rfl rfl ?_
        refine qL (lF fi25_2 rfl rfl rfl rfl rfl) rfl rfl ?_
        refine qL (lD row22 rfl rfl rfl rfl rfl) rfl rfl ?_
        refine qL (lM (a:=.v _) rfl) rfl rfl ?_
        refine qL (lI Tryz.underlying22 sz44 rfl rfl (by first | assumption | omega)) rfl rfl ?_
        refine qL (LOp.ldTN row44 rfl rfl) rfl rfl ?_
        refine qL (LOp.neAgg (r:=eqVB p.vars[k] q.vars[k]) rfl rfl rfl rfl eg44 (fun w=>eq44_run p.vars[k] q.vars[k] w)) rfl rfl ?_
        refine SeqC.nil ⟨by kernel_rfl,?_⟩
        refine aN ?_
        refine wC rfl (fun hc54=>?_) (fun hc54=>?_)
        ·skip
         refine wS (wR ?_)
         refine oL (lA (a:=.v _) rfl) rfl rfl ?_
         refine oN (aN ?_)
         refine wT (bR (aR (aR (bR (aR (?_))))))
         refine ⟨.inr rfl,oV Tryz.results6 rfl rfl ?_⟩
         (refine vb_eq ?_; unfold compB; rw [hm,Int.toNat_natCast,allN_hit hlt (by unfold sameP; rw [getD_at hlp,getD_at hlq]; simpa using hc54)]; simp_all; done)
        ·skip
         refine wK (bN (aN (wR ?_)))
         refine oL (lM (a:=.v _) rfl) rfl rfl ?_
         refine oL (lJ rfl rfl (by omega) (by omega)) rfl rfl ?_
         refine oL (lA (a:=.v _) rfl) rfl rfl ?_
         refine oN (aN ?_)
         refine ⟨(m - (k+1)),⟨fL [(2,.ptr 0 0 0),(3,.ptr 1 0 0),(5,.v (.int .i64 (((k+1):Nat):Int)))],hLz [(0,⟨0,prA p,0,false⟩),(1,⟨0,prA q,0,false⟩)],2⟩,by omega,(cO (.cons rfl rfl (.cons rfl rfl (.cons rfl rfl .nil))) (.cons rfl rfl rfl (.cons rfl rfl rfl .nil))),(k+1),rfl,rfl,?_⟩
         refine ⟨by omega,fun j h=>?_⟩
         rcases Nat.lt_succ_iff_lt_or_eq.1 h with h | rfl
         ·exact hj j h
         ·show sameP p q _=true
          unfold sameP
          rw [getD_at hlp,getD_at hlq]; simpa using hc54
       ·skip
        have hge:¬ k < m:=by have:=of_decide_eq_false hc41; omega
        refine AWP.exit (aE (aE (bE ?_)))
        refine aN (wS (wR ?_))
        refine oL (lA (a:=.v _) rfl) rfl rfl ?_
        refine oN (aN ?_)
        refine wT (?_)
        refine ⟨.inr rfl,oV Tryz.results6 rfl rfl ?_⟩
        (refine vb_eq ?_; unfold compB; rw [hm,Int.toNat_natCast,allN_end hk hge hj]; simp_all; done)
end Go.Proofs.YtgknefkobpnjaaaGreatDoor
namespace Go.Proofs.YtgknefkobpnjaaaGreatDoor
set_option linter.unusedVariables false
set_option linter.unusedSimpArgs false
open Go.RowKit
theorem joR_ok {A B:PCl} (hA:A.Ok) (hB:B.Ok) (h:∀ f:PCl→Nat,f∈[fun c=>c.nul.length,fun c=>c.nn.length,fun c=>c.aux.length,fun c=>c.ints.length,fun c=>c.tests.length,fun c=>c.same.length,fun c=>c.diff.length]→f A≤500∧f B≤500):(joR A B).Ok:=by
 have h1:=h _ (List.mem_cons_self ..)
 have h2:=h _ (.tail _ (List.mem_cons_self ..))
 have h3:=h _ (.tail _ (.tail _ (List.mem_cons_self ..)))
 have h4:=h _ (.tail _ (.tail _ (.tail _ (List.mem_cons_self ..))))
 have h5:=h _ (.tail _ (.tail _ (.tail _ (.tail _ (List.mem_cons_self ..)))))
 have h6:=h _ (.tail _ (.tail _ (.tail _ (.tail _ (.tail _ (List.mem_cons_self ..))))))
 have h7:=h _ (.tail _ (.tail _ (.tail _ (.tail _ (.tail _ (.tail _ (List.mem_cons_self ..)))))))
 refine ⟨Nat.le_trans sortL_le ?_,Nat.le_trans sortL_le ?_,?_,?_,?_,?_,?_,fun a ha=>?_,fun a ha=>?_,fun a ha=>?_⟩
 ·rw [List.length_append]; omega
 ·rw [List.length_append]; omega
 ·show (A.aux++B.aux).length≤1000; rw [List.length_append]; omega
 ·show (A.ints++B.ints).length≤1000; rw [List.length_append]; omega
 ·show (A.tests++B.tests).length≤1000; rw [List.length_append]; omega
 ·show (A.same++B.same).length≤1000; rw [List.length_append]; omega
 ·show (A.diff++B.diff).length≤1000; rw [List.length_append]; omega
 ·rcases List.mem_append.1 ha with ha | ha
  ·exact hA.auxc a ha
  ·exact hB.auxc a ha
 ·rcases List.mem_append.1 ha with ha | ha
  ·exact hA.intc a ha
  ·exact hB.intc a ha
 ·rcases List.mem_append.1 ha with ha | ha
  ·exact hA.tes a ha
  ·exact hB.tes a ha
theorem clR_le {σ:Int→Int} {c:PCl} {n:Nat} (h:fewN c≤n):∀ f:PCl→Nat,f∈[fun c=>c.nul.length,fun c=>c.nn.length,fun c=>c.aux.length,fun c=>c.ints.length,fun c=>c.tests.length,fun c=>c.same.length,fun c=>c.diff.length]→f (clR σ c)≤n:=by
 unfold fewN at h
 intro f hf
 have e1:(sortL (c.nul.map σ)).length≤c.nul.length:=Nat.le_trans sortL_le (Nat.le_of_eq (List.length_map _))
 have e2:(sortL (c.nn.map σ)).length≤c.nn.length:=Nat.le_trans sortL_le (Nat.le_of_eq (List.length_map _))
 simp only [List.mem_cons,List.not_mem_nil,or_false] at hf
 rcases hf with rfl | rfl | rfl | rfl | rfl | rfl | rfl <;> simp only [clR,List.length_map] <;> omega
theorem few_n {c:PCl} (h:fewB c=true):fewN c≤80:=by
 unfold fewB at h
 simp only [Bool.and_eq_true,Bool.not_eq_true',decide_eq_false_iff_not] at h
 omega
theorem few_at {p:PPred} (h:fewP p=true) {j:Nat} (hj:j < p.cls.length):fewB p.cls[j]=true:=by
 unfold fewP at h
 rw [Bool.and_eq_true] at h
 have:=allN_iff.1 h.2 j hj
 simp only [getD_at hj] at this
 exact this
/-- The program and the reference give the same pair. -/
theorem pair_both (p q:PPred) (i j:Int) (h:compB p q=true):∃ (vs:List PVar) (cl:PCl),HCall Tryz.prog 7 [.agg (prA p),.agg (prA q),.v (.int .i64 i),.v (.int .i64 j)] [] [] (.tup [vsA vs,.agg (clA cl)]) ∧
  HCall Tryz.prog 8 [.agg (prA p),.agg (prA q),.v (.int .i64 i),.v (.int .i64 j)] [] [] (.tup [vsA vs,.agg (clA cl)])∧PCall Tryz.prog 9 [vsA vs,vsA vs] (.v (.bool true))∧PCall Tryz.prog 10 [.agg (clA cl),.agg (clA cl)] (.v (.bool true)):=by
 unfold compB at h
 simp only [Bool.and_eq_true] at h
 obtain ⟨⟨⟨⟨fp,fq⟩,rp⟩,rq⟩,hc⟩:=h
 obtain ⟨op,vp,cp⟩:=fewP_ok fp
 obtain ⟨oq,vq,cq⟩:=fewP_ok fq
 by_cases hno:noPair p q i j
 ·refine ⟨[],default,pair0_h p q i j hno (by omega) (by omega),pairR0_h p q i j hno (by omega) (by omega),samev_p [] (by simp),samecl_p default ?_⟩
  refine ⟨by decide,by decide,by decide,by decide,by decide,by decide,by decide,fun a ha=>?_,fun a ha=>?_,fun a ha=>?_⟩ <;> exact absurd ha List.not_mem_nil
 ·unfold noPair at hno
  simp only [not_or,Decidable.not_not] at hno
  obtain ⟨ht,h1,h2,h3,h4⟩:=hno
  obtain ⟨a,rfl⟩:∃ a:Nat,i=(a:Int):=⟨i.toNat,by omega⟩
  obtain ⟨b,rfl⟩:∃ b:Nat,j=(b:Int):=⟨j.toNat,by omega⟩
  have ha:a < p.cls.length:=by omega
  have hb:b < q.cls.length:=by omega
  have hcol:p.cols=q.cols:=by
   rw [ht] at hc
   simp only [beq_self_eq_true,Bool.not_true,Bool.false_or,Bool.and_eq_true,beq_iff_eq] at hc
   exact hc.1
  obtain ⟨_,hp1,hp2⟩:=ref_cols rp
  obtain ⟨_,hq1,hq2⟩:=ref_cols rq
  obtain ⟨m,hm⟩:∃ m:Nat,q.cols=(m:Int):=⟨q.cols.toNat,by omega⟩
  have hA:p.cls[a].In 100000:=in_of_clB (op.each _ (List.getElem_mem _)) (by omega) (ref_cl rp ha)
  have hB:q.cls[b].In 100000:=in_of_clB (oq.each _ (List.getElem_mem _)) (by omega) (ref_cl rq hb)
  have e1:=pair_h p q a b m ht ha hb hcol hm (by omega) (by omega) (by omega) (by omega) (by omega) (by omega) hA hB
  have e2:=pairR_h p q a b m ht ha hb hm (by omega) (by omega) (by omega) (by omega) (by omega) (by omega) hA hB
  have hn:(p.vars++q.vars.drop m).length=p.vars.length+(q.vars.length - m):=by rw [List.length_append,List.length_drop]
  have hmo:MonoN (renS (seL q.cols ((p.vars.length:Nat):Int) q.vars.length) (((p.vars++q.vars.drop m).length:Nat):Int)) 100000:=by rw [hn,hm]; exact mono_ren2 (by omega) (by omega)
  have hB2:(clN (renS (seL q.cols ((p.vars.length:Nat):Int) q.vars.length) (((p.vars++q.vars.drop m).length:Nat):Int)) q.cls[b]).In 1000000:=clN_in hB hmo fun v h1 h2=>by rw [hn,hm,ren_se h1 (by omega)]; split <;> omega
  have hs:=pair_same (σ:=renS (idL p.vars.length) (((p.vars++q.vars.drop m).length:Nat):Int)) (a:=p.cls[a]) (n:=(p.vars++q.vars.drop m).length) hB2
  rw [hs] at e1
  refine ⟨_,_,e1,e2,samev_p _ (by rw [hn]; omega),samecl_p _ (joR_ok (clR_ok hA.ok) (clR_ok (by rw [clR_N]; exact hB2.ok)) fun f hf=>?_)⟩
  have q1:=clR_le (σ:=renS (idL p.vars.length) (((p.vars++q.vars.drop m).length:Nat):Int)) (few_n (few_at fp ha)) f hf
  refine ⟨by omega,?_⟩
  have q2:=clR_le (σ:=renS (seL q.cols ((p.vars.length:Nat):Int) q.vars.length) (((p.vars++q.vars.drop m).length:Nat):Int)) (few_n (few_at fq hb))
  have hw:fewN (clR (renS (seL q.cols ((p.vars.length:Nat):Int) q.vars.length) (((p.vars++q.vars.drop m).length:Nat):Int)) q.cls[b])≤490:=by
   have f1:=q2 _ (List.mem_cons_self ..)
   have f2:=q2 _ (.tail _ (List.mem_cons_self ..))
   have f3:=few_n (few_at fq hb)
   unfold fewN at f3 ⊢
   simp only [clR,List.length_map] at f1 f2 ⊢
   omega
  have q3:=clR_le (σ:=renS (idL (p.vars++q.vars.drop m).length) ((((p.vars++q.vars.drop m).length:Nat):Int)+(((clR (renS (idL p.vars.length) (((p.vars++q.vars.drop m).length:Nat):Int)) p.cls[a]).aux.length:Nat):Int))) hw f hf
  omega
theorem bod10:bodied Tryz.prog 10=true:=by kernel_rfl
theorem bod5:bodied Tryz.prog 5=true:=by kernel_rfl
theorem bod6:bodied Tryz.prog 6=true:=by kernel_rfl
theorem bod7:bodied Tryz.prog 7=true:=by kernel_rfl
theorem bod8:bodied Tryz.prog 8=true:=by kernel_rfl
theorem bod9:bodied Tryz.prog 9=true:=by kernel_rfl
set_option maxRecDepth 100000 in
set_option maxHeartbeats 4000000 in
theorem law_p (p q:PPred) (a1 a2:Int) (hp:p.Fits) (hq:q.Fits) (aw:PCall Tryz.prog 5 [] (.v (.bool true))):PCall Tryz.prog 3 [.agg (prA p),.agg (prA q),.agg [.v (.int .i64 a1),.v (.int .i64 a2)]] (.v (.bool true)):=by
 refine pB Tryz.func3 rfl Tryz.ntmps3 (Nat.le_of_ble_eq_true rfl) ?_
 refine wS (wR ?_)
 refine oW (LOp.bx rfl) rfl rfl 1 rfl ?_
 refine oW (LOp.bx rfl) rfl rfl 2 rfl ?_
 refine oW (LOp.bx rfl) rfl rfl 3 rfl ?_
 refine oL (lA (a:=.v _) rfl) rfl rfl ?_
 refine oN (aN (wS (wS (wR ?_))))
 refine oL (LOp.call bod5 rfl aw) rfl rfl ?_
 refine oL (lP rfl (fun _ _=>nofun) (fun _=>rfl)) rfl rfl ?_
 refine oN (aN ?_)
 refine AWP.condF rfl ?_
 refine wK (aN (wS (wS (wR ?_))))
 refine oL (LOp.ldN row25 rfl rfl rfl rfl rfl) rfl rfl ?_
 refine oL (LOp.ldN row25 rfl rfl rfl rfl rfl) rfl rfl ?_
 refine oL (LOp.call bod6 rfl (comp_p p q hp hq)) rfl rfl ?_
 refine oL (lP rfl (fun _ _=>nofun) (fun _=>rfl)) rfl rfl ?_
 refine oN (aN ?_)
 refine wC rfl (fun hc16=>?_) (fun hc16=>?_)
 ·skip
  refine wS (wR ?_)
  refine oL (lA (a:=.v _) rfl) rfl rfl ?_
  refine oN (aN ?_)
  refine wT (aR (?_))
  refine ⟨.inr rfl,oV Tryz.results3 rfl rfl ?_⟩
  rfl
 ·skip
  have hcmp:compB p q=true:=by simpa using hc16
  obtain ⟨vs,cl,h7,h8,h9,h10⟩:=pair_both p q a1 a2 hcmp
  refine wK (aN (wS (wR ?_)))
  refine oL (LOp.ldN row25 rfl rfl rfl rfl rfl) rfl rfl ?_
  refine oL (LOp.ldN row25 rfl rfl rfl rfl rfl) rfl rfl ?_
  refine oL (LOp.indexArrS Tryz.underlying26 sz3 rfl rfl rfl rfl rfl rfl) rfl rfl ?_
  refine oL (lD row3 rfl rfl rfl rfl rfl) rfl rfl ?_
  refine oL (LOp.indexArrS Tryz.underlying26 sz3 rfl rfl rfl rfl rfl rfl) rfl rfl ?_
  refine oL (lD row3 rfl rfl rfl rfl rfl) rfl rfl ?_
  refine oL (LOp.callH (r:=.tup [vsA vs,.agg (clA cl)]) [] bod7 h7 rfl rfl rfl rfl trivial trivial trivial rfl rfl rfl rfl rfl rfl) rfl rfl ?_
  refine oL (lM (a:=.tup _) rfl) rfl rfl ?_
  refine oL (LOp.extract rfl rfl) rfl rfl ?_
  refine oL (LOp.extract rfl rfl) rfl rfl ?_
  refine oW (LOp.al zr35 rfl) rfl rfl 4 rfl ?_
  refine oL (lA (a:=.tree _ _) rfl) rfl rfl ?_
  refine AOps.wr (LOp.st sz35 rfl rfl rfl rfl rfl rfl rfl rfl) rfl rfl rfl ?_
  refine oN (aN (wS (wR ?_)))
  refine oL (LOp.ldN row25 rfl rfl rfl rfl rfl) rfl rfl ?_
  refine oL (LOp.ldN row25 rfl rfl rfl rfl rfl) rfl rfl ?_
  refine oL (LOp.indexArrS Tryz.underlying26 sz3 rfl rfl rfl rfl rfl rfl) rfl rfl ?_
  refine oL (lD row3 rfl rfl rfl rfl rfl) rfl rfl ?_
  refine oL (LOp.indexArrS Tryz.underlying26 sz3 rfl rfl rfl rfl rfl rfl) rfl rfl ?_
  refine oL (lD row3 rfl rfl rfl rfl rfl) rfl rfl ?_
  refine oL (LOp.callH (r:=.tup [vsA vs,.agg (clA cl)]) [] bod8 h8 rfl rfl rfl rfl trivial trivial trivial rfl rfl rfl rfl rfl rfl) rfl rfl ?_
  refine oL (lM (a:=.tup _) rfl) rfl rfl ?_
  refine oL (LOp.extract rfl rfl) rfl rfl ?_
  refine oL (LOp.extract rfl rfl) rfl rfl ?_
  refine oW (LOp.al zr35 rfl) rfl rfl 5 rfl ?_
  refine oL (lA (a:=.tree _ _) rfl) rfl rfl ?_
  refine AOps.wr (LOp.st sz35 rfl rfl rfl rfl rfl rfl rfl rfl) rfl rfl rfl ?_
  refine oN (aN (wS (wR ?_)))
  refine oL (lM (a:=.tree _ _) rfl) rfl rfl ?_
  refine oL (lM (a:=.tree _ _) rfl) rfl rfl ?_
  refine oL (LOp.call bod9 rfl h9) rfl rfl ?_
  refine oL (lM (a:=.v _) rfl) rfl rfl ?_
  refine oL (LOp.ldN row35 rfl rfl rfl rfl rfl) rfl rfl ?_
  refine oL (LOp.ldN row35 rfl rfl rfl rfl rfl) rfl rfl ?_
  refine oL (LOp.call bod10 rfl h10) rfl rfl ?_
  refine oL (lK rfl rfl rfl) rfl rfl ?_
  refine oL (lA (a:=.v _) rfl) rfl rfl ?_
  refine oN (aN ?_)
  refine wT (?_)
  refine ⟨.inr rfl,oV Tryz.results3 rfl rfl ?_⟩
  rfl
end Go.Proofs.YtgknefkobpnjaaaGreatDoor
namespace Go.Proofs.YtgknefkobpnjaaaGreatDoor
open Go.RowKit Go.ChangeShapes Go.WideShapes Go.Deep
set_option linter.unusedVariables false
set_option linter.unusedSimpArgs false
set_option maxRecDepth 100000
/-- The numbers of a predicate are such as the types hold. -/
structure PPred.R (p:PPred):Prop where
 each:∀ c∈p.cls,c.R
def LtB (n:Nat):Nat→Prop:=fun k=>k < n
/-- Cells read as plain values. -/
def TRL (T:Nat→Prop) (w:World) (xs:List AV) (cs:List Value):Prop:=xs.length=cs.length∧∀ i (h:i < xs.length) (h':i < cs.length),TR T w xs[i] cs[i]
theorem TRL.one {T:Nat→Prop} {w:World} {a:AV} {x:Value} (h:TR T w a x):TRL T w [a] [x]:=⟨rfl,fun i h1 h2=>by
 have:i=0:=by simp at h1; omega
 subst this; exact h⟩
theorem TRL.append {T:Nat→Prop} {w:World} {xs ys:List AV} {cs ds:List Value} (h1:TRL T w xs cs) (h2:TRL T w ys ds):TRL T w (xs++ys) (cs++ds):=by
 refine ⟨by simp [h1.1,h2.1],fun i h h'=>?_⟩
 have e:=h1.1
 by_cases hi:i < xs.length
 ·rw [List.getElem_append_left hi,List.getElem_append_left (by omega)]
  exact h1.2 i hi (by omega)
 ·rw [List.getElem_append_right (by omega),List.getElem_append_right (by omega)]
  simp only [← e]
  exact h2.2 _ _ _
theorem TRL.done {T:Nat→Prop} {w:World} {cs:List Value} {n:Nat} (h:cs.length=n):TRL T w [] (cs.drop n):=by
 rw [← h,List.drop_length]; exact ⟨rfl,fun i h=>absurd h (by simp)⟩
theorem TRL.piece {T:Nat→Prop} {w:World} {xs ys:List AV} {cs:List Value} {o m:Nat} (h1:TRL T w xs ((cs.drop o).take m)) (h2:TRL T w ys (cs.drop (o+m))):TRL T w (xs++ys) (cs.drop o):=by
 have:=h1.append h2
 rwa [← List.drop_drop,List.take_append_drop] at this
theorem TRL.val {T:Nat→Prop} {w:World} {cs:List Value} {x:Value} (h:cs=[x]):TRL T w [.v x] cs:=by rw [h]; exact .one (.v x)
/-- Whatever type t's cells read as, within the reach, they read as some 'a'. -/
def OpenR {α:Type} (P:Program) (R:α→List AV) (Wf:α→Prop) (t:TypeId):Prop :=
 ∀ {H:Type} (enc:TypeId×Value→H) (W:World) (fuel:Nat) (cs:List Value) (d:DataW H) (ps:List MemPlace),
  DataW.trod enc P W 0 (fun _=>true) true fuel t cs=some (d,ps)→(∀ m∈d.weights P t,m≤140737488351232)→∃ a,Wf a∧TRL (LtB W.heap.size) W (R a) cs
theorem weightsAll_mem {H:Type} {P:Program} {e:TypeId}:∀ {ds:List (DataW H)} {d:DataW H},d∈ds→∀ m∈d.weights P e,m∈DataW.weightsAll P e ds
 | x :: r,d,h,m,hm=>by
  simp only [DataW.weightsAll,List.mem_append]
  rcases List.mem_cons.1 h with rfl | h
  ·exact .inl hm
  ·exact .inr (weightsAll_mem h m hm)
theorem choose_lt' {α:Type} [Inhabited α] {m:Nat} {p:Nat→α→Prop} (h:∀ i,i < m→∃ y,p i y):∃ f:Nat→α,∀ i,i < m→p i (f i):=by
 refine ⟨fun i=>if h':i < m then Classical.choose (h i h') else default,fun i hi=>?_⟩
 simp only [hi,dif_pos]
 exact Classical.choose_spec (h i hi)
theorem OpenR.slice {α:Type} {P:Program} {R:α→List AV} {Wf:α→Prop} {t e q:Nat} (hR:OpenR P R Wf e) (ht:P.underlying t=some (.slice e)) (hn:P.cellsOf e=q) (hq:∀ a,(R a).length=q) (hpos:1≤q) (hb:1≤P.bytesOf e) :
  OpenR P (fun l:List α=>[.tree q (l.map R)]) (fun l=>l.length≤140737488355328∧∀ a∈l,Wf a) t:=by
 intro H enc W fuel cs d ps h hw
 rcases open_slice ht h with ⟨rfl,_⟩ | ⟨a,len,cap,m,n,D,Pl,rfl,_,hl,hm,hmm,hx,hi⟩
 ·exact ⟨[],⟨Nat.zero_le _,fun a h=>by cases h⟩,.one (.tree0 (Nat.zero_le _))⟩
 ·simp only [if_true] at hmm
  subst hmm
  simp only [Prod.mk.injEq] at hx
  obtain ⟨rfl,_⟩:=hx
  simp only [DataW.weights,ht,List.length_map,List.length_range,List.mem_cons,List.mem_append] at hw
  have hcap:(len+(m - len)) * P.bytesOf e≤140737488351232:=hw _ (.inl rfl)
  have hlen:len≤140737488355328:=by
   have:len * 1≤(len+(m - len)) * P.bytesOf e:=Nat.mul_le_mul (by omega) hb
   omega
  have hex:∀ i,i < len→∃ (y:α×List Value),(Wf y.1∧TRL (LtB W.heap.size) W (R y.1) y.2)∧W.cells? 0 (a.add (i * P.cellsOf e)) (P.cellsOf e)=some y.2:=by
   intro i hil
   obtain ⟨cs',hc,ht'⟩:=hi i (by omega)
   obtain ⟨y,hy⟩:=hR enc W n cs' (D i) (Pl i) ht' (fun j hj=>hw j (.inr (.inl (weightsAll_mem (List.mem_map.2 ⟨i,by simpa using hil,rfl⟩) j hj))))
   exact ⟨(y,cs'),hy,hc⟩
  by_cases h0:len=0
  ·subst h0
   exact ⟨[],⟨Nat.zero_le _,fun a h=>by cases h⟩,.one (.tree0 hm)⟩
  ·obtain ⟨y0,hy0⟩:=hex 0 (by omega)
   have:Inhabited (α×List Value):=⟨y0⟩
   obtain ⟨f,hf⟩:=choose_lt' hex
   obtain ⟨b,off,spot⟩:=a
   have hc0:=World.cells?_some hy0.2
   have hcell0:=hc0.2.2 0 (by rw [hn]; exact hpos)
   have hsome:∃ v0,W.cell? ((⟨b,off,spot⟩:Addr).add (0 * P.cellsOf e))=some v0:=by
    have hlen0:0 < y0.2.length:=by rw [hc0.2.1,hn]; exact hpos
    refine ⟨y0.2[0],?_⟩
    have:=hcell0
    rw [List.getElem?_eq_getElem hlen0] at this
    simpa [Addr.add] using this
   obtain ⟨v0,hv0⟩:=hsome
   have hspot:spot=none:=by simpa [Addr.add] using World.cell?_spot hv0
   subst hspot
   have hblk:b < W.heap.size:=by
    have:=World.block_lt_of_cell? W _ hv0
    simpa [Addr.add] using this
   refine ⟨(List.range len).map fun i=>(f i).1,⟨by simpa using hlen,fun a ha=>?_⟩,.one ?_⟩
   ·obtain ⟨i,hi',rfl⟩:=List.mem_map.1 ha
    exact (hf i (by simpa using hi')).1.1
   ·have hlr:(((List.range len).map fun i=>(f i).1).map R).length=len:=by simp
    have hrow:∀ k (h:k < (((List.range len).map fun i=>(f i).1).map R).length),(((List.range len).map fun i=>(f i).1).map R)[k]=R (f k).1:=fun k h=>by simp
    have hT:=TR.tree (T:=LtB W.heap.size) (w:=W) (n:=q) (xs:=((List.range len).map fun i=>(f i).1).map R) (b:=b) (off:=off) (cap:=m) (fun k j=>(f k).2.getD j undef) hblk (by rw [hlr]; exact hl) hm (by rw [hlr]; exact hlen)
     (fun k h=>by rw [hrow k h]; exact hq _)
     (fun k j hk hj=>by
      rw [hlr] at hk
      have hck:=World.cells?_some (hf k hk).2
      have hjl:j < P.cellsOf e:=by rw [hn]; exact hj
      have hg:=hck.2.2 j hjl
      rw [add_add,hn] at hg
      have hl2:j < (f k).2.length:=by rw [hck.2.1]; exact hjl
      have e1:(⟨b,off,none⟩:Addr).add (k * q+j)=⟨b,off+k * q+j,none⟩:=by
       by_cases hz:k * q+j=0
       ·have h1:k * q=0:=by omega
        have h2:j=0:=by omega
        rw [h1,h2]; simp [Addr.add]
       ·unfold Addr.add
        rw [if_neg hz]
        simp [Nat.add_assoc]
      rw [← e1,hg]
      simp [List.getD,hl2])
     (fun k h j h'=>by
      have hk:k < len:=by rw [hlr] at h; exact h
      have hr:=(hf k hk).1.2
      have hjr:j < (R (f k).1).length:=by rw [hrow k h] at h'; exact h'
      have hl2:j < (f k).2.length:=by rw [← hr.1]; exact hjr
      have:=hr.2 j hjr hl2
      simp only [hrow k h]
      rw [getD_at hl2]
      exact this)
    rw [hlr] at hT
    exact hT
/-- A struct, field by field. -/
theorem open_struct {P:Program} {t:TypeId} {fs:Array Field} (ht:P.underlying t=some (.struct fs)) {H:Type} {enc:TypeId×Value→H} {W:World} {fuel:Nat} {cs:List Value} {d:DataW H} {ps:List MemPlace}
  (h:DataW.trod enc P W 0 (fun _=>true) true fuel t cs=some (d,ps)) (hw:∀ m∈d.weights P t,m≤140737488351232) :
  ∃ n,cs.length=P.cellsOf t∧∀ (i:Nat) (f:Field),fs[i]? = some f →
   ∃ (d':DataW H) (ps':List MemPlace),DataW.trod enc P W 0 (fun _=>true) true n f.type ((cs.drop f.offset).take (P.cellsOf f.type))=some (d',ps')∧∀ q∈d'.weights P f.type,q≤140737488351232:=by
 obtain ⟨xs,n,_,hx,hlen,hxl,hf⟩:=DataW.trod_struct ht h
 simp only [Prod.mk.injEq] at hx
 obtain ⟨rfl,_⟩:=hx
 refine ⟨n,hlen,fun i f hi=>?_⟩
 have hil:i < fs.size:=(Array.getElem?_eq_some_iff.1 hi).1
 have hx':xs[i]? = some (xs[i]'(by omega)):=List.getElem?_eq_getElem (by omega)
 have h1:=hf i f hi
 rw [hx'] at h1
 refine ⟨_,_,h1,fun q hq=>hw q ?_⟩
 simp only [DataW.weights,ht]
 refine DataW.weights_mem_each (j:=i) (t:=f.type) (d:=(xs[i]'(by omega)).1) ?_ ?_ q hq
 ·simp only [List.getElem?_map,Array.getElem?_toList,hi,Option.map_some]
 ·simp only [List.getElem?_map,hx',Option.map_some]
theorem openR_int {P:Program} {t:TypeId} (ht:P.underlying t=some (.int .i64)):OpenR P iA (fun x=>-9223372036854775808≤x∧x≤9223372036854775807) t:=by
 intro H enc W fuel cs d ps h hw
 obtain ⟨x,h1,_,h2⟩:=DataW.trod_int ht h
 exact ⟨x,bounds_i64 h2,.val h1⟩
theorem openR_bool {P:Program} {t:TypeId} (ht:P.underlying t=some .bool):OpenR P (fun b:Bool=>[.v (.bool b)]) (fun _=>True) t:=by
 intro H enc W fuel cs d ps h hw
 obtain ⟨x,h1,_⟩:=DataW.trod_bool ht h
 exact ⟨x,trivial,.val h1⟩
theorem openR_str {P:Program} {t:TypeId} (ht:P.underlying t=some .string):OpenR P (fun s:ByteArray=>[.v (.string s)]) (fun s=>s.size≤140737488355328) t:=by
 intro H enc W fuel cs d ps h hw
 obtain ⟨x,h1,h2,_⟩:=DataW.trod_string ht h
 simp only [Prod.mk.injEq] at h2
 obtain ⟨rfl,_⟩:=h2
 refine ⟨x,?_,.val h1⟩
 have:=hw x.data.toList.length (by simp [DataW.weights])
 have e:x.data.toList.length=x.size:=by simp
 omega
theorem cl2:Tryz.prog.cellsOf 2=1:=by kernel_rfl
theorem cl3:Tryz.prog.cellsOf 3=1:=by kernel_rfl
theorem cl4:Tryz.prog.cellsOf 4=1:=by kernel_rfl
theorem cl9:Tryz.prog.cellsOf 9=1:=by kernel_rfl
theorem cl26:Tryz.prog.cellsOf 26=2:=by kernel_rfl
theorem cl111:Tryz.prog.cellsOf 111=2:=by kernel_rfl
theorem cl77:Tryz.prog.cellsOf 77=1:=by kernel_rfl
theorem cl79:Tryz.prog.cellsOf 79=2:=by kernel_rfl
theorem cl81:Tryz.prog.cellsOf 81=4:=by kernel_rfl
theorem cl84:Tryz.prog.cellsOf 84=3:=by kernel_rfl
theorem cl52:Tryz.prog.cellsOf 52=4:=by kernel_rfl
theorem cl44:Tryz.prog.cellsOf 44=5:=by kernel_rfl
theorem cl35:Tryz.prog.cellsOf 35=7:=by kernel_rfl
theorem cl22:Tryz.prog.cellsOf 22=1:=by kernel_rfl
theorem cl23:Tryz.prog.cellsOf 23=1:=by kernel_rfl
theorem cl29:Tryz.prog.cellsOf 29=1:=by kernel_rfl
theorem cl30:Tryz.prog.cellsOf 30=1:=by kernel_rfl
theorem cl31:Tryz.prog.cellsOf 31=1:=by kernel_rfl
theorem cl32:Tryz.prog.cellsOf 32=1:=by kernel_rfl
theorem cl33:Tryz.prog.cellsOf 33=1:=by kernel_rfl
theorem cl25:Tryz.prog.cellsOf 25=4:=by kernel_rfl
theorem by3_:1≤Tryz.prog.bytesOf 3:=Nat.le_of_ble_eq_true (by kernel_rfl)
theorem by26_:1≤Tryz.prog.bytesOf 26:=Nat.le_of_ble_eq_true (by kernel_rfl)
theorem by111_:1≤Tryz.prog.bytesOf 111:=Nat.le_of_ble_eq_true (by kernel_rfl)
theorem by81_:1≤Tryz.prog.bytesOf 81:=Nat.le_of_ble_eq_true (by kernel_rfl)
theorem by84_:1≤Tryz.prog.bytesOf 84:=Nat.le_of_ble_eq_true (by kernel_rfl)
theorem by52_:1≤Tryz.prog.bytesOf 52:=Nat.le_of_ble_eq_true (by kernel_rfl)
theorem by44_:1≤Tryz.prog.bytesOf 44:=Nat.le_of_ble_eq_true (by kernel_rfl)
theorem by35_:1≤Tryz.prog.bytesOf 35:=Nat.le_of_ble_eq_true (by kernel_rfl)
theorem o26:OpenR Tryz.prog paA (fun _=>True) 26:=by
 intro H enc W fuel cs d ps h hw
 obtain ⟨xs,m,_,hx,hlen,hxl,hf⟩:=DataW.trod_array Tryz.underlying26 h
 rw [cl26] at hlen
 simp only [cl3] at hf
 have h0:=hf 0 (by decide)
 have h1:=hf 1 (by decide)
 rw [List.getElem?_eq_getElem (by omega)] at h0 h1
 obtain ⟨x0,e0,_⟩:=DataW.trod_int Tryz.underlying3 h0
 obtain ⟨x1,e1,_⟩:=DataW.trod_int Tryz.underlying3 h1
 have hh:=(TRL.piece (T:=LtB W.heap.size) (w:=W) (o:=0) (m:=1) (.val e0) (TRL.piece (o:=1) (m:=1) (.val e1) (TRL.done hlen)))
 exact ⟨(x0,x1),trivial,hh⟩
theorem o111:OpenR Tryz.prog cfA (fun x=>-9223372036854775808≤x.n∧x.n≤9223372036854775807) 111:=by
 intro H enc W fuel cs d ps h hw
 obtain ⟨n,hlen,hf⟩:=open_struct Tryz.underlying111 h hw
 rw [cl111] at hlen
 obtain ⟨_,_,h0,w0⟩:=hf 0 _ rfl
 obtain ⟨x0,r0,e0⟩:=(openR_int Tryz.underlying3) enc W _ _ _ _ h0 w0
 change TRL _ _ _ (List.take (Tryz.prog.cellsOf 3) (List.drop 0 cs)) at e0
 rw [cl3] at e0
 obtain ⟨_,_,h1,w1⟩:=hf 1 _ rfl
 obtain ⟨x1,r1,e1⟩:=(openR_int Tryz.underlying2) enc W _ _ _ _ h1 w1
 change TRL _ _ _ (List.take (Tryz.prog.cellsOf 2) (List.drop 1 cs)) at e1
 rw [cl2] at e1
 refine ⟨⟨x0,x1⟩,r1,?_⟩
 have hh:=(TRL.piece (o:=0) (m:=1) e0 (TRL.piece (o:=1) (m:=1) e1 (TRL.done hlen)))
 exact hh
theorem o77:OpenR Tryz.prog (fun l:List PCoef=>[.tree 2 (l.map cfA)]) (fun l=>l.length≤140737488355328∧∀ a∈l,-9223372036854775808≤a.n∧a.n≤9223372036854775807) 77:=OpenR.slice (o111) Tryz.underlying77 cl111 (fun _=>rfl) (by decide) by111_
theorem o79:OpenR Tryz.prog liA (fun f=>f.R∧f.cs.length≤140737488355328) 79:=by
 intro H enc W fuel cs d ps h hw
 obtain ⟨n,hlen,hf⟩:=open_struct Tryz.underlying79 h hw
 rw [cl79] at hlen
 obtain ⟨_,_,h0,w0⟩:=hf 0 _ rfl
 obtain ⟨x0,r0,e0⟩:=(openR_int Tryz.underlying2) enc W _ _ _ _ h0 w0
 change TRL _ _ _ (List.take (Tryz.prog.cellsOf 2) (List.drop 0 cs)) at e0
 rw [cl2] at e0
 obtain ⟨_,_,h1,w1⟩:=hf 1 _ rfl
 obtain ⟨x1,r1,e1⟩:=(o77) enc W _ _ _ _ h1 w1
 change TRL _ _ _ (List.take (Tryz.prog.cellsOf 77) (List.drop 1 cs)) at e1
 rw [cl77] at e1
 refine ⟨⟨x0,x1⟩,⟨⟨r0,r1.2⟩,r1.1⟩,?_⟩
 have hh:=(TRL.piece (o:=0) (m:=1) e0 (TRL.piece (o:=1) (m:=1) e1 (TRL.done hlen)))
 exact hh
theorem o81:OpenR Tryz.prog axA (fun x=>x.of_.R∧x.of_.cs.length≤140737488355328) 81:=by
 intro H enc W fuel cs d ps h hw
 obtain ⟨n,hlen,hf⟩:=open_struct Tryz.underlying81 h hw
 rw [cl81] at hlen
 obtain ⟨_,_,h0,w0⟩:=hf 0 _ rfl
 obtain ⟨x0,r0,e0⟩:=(o79) enc W _ _ _ _ h0 w0
 change TRL _ _ _ (List.take (Tryz.prog.cellsOf 79) (List.drop 0 cs)) at e0
 rw [cl79] at e0
 obtain ⟨_,_,h1,w1⟩:=hf 1 _ rfl
 obtain ⟨x1,r1,e1⟩:=(openR_int Tryz.underlying2) enc W _ _ _ _ h1 w1
 change TRL _ _ _ (List.take (Tryz.prog.cellsOf 2) (List.drop 2 cs)) at e1
 rw [cl2] at e1
 obtain ⟨_,_,h2,w2⟩:=hf 2 _ rfl
 obtain ⟨x2,r2,e2⟩:=(openR_int Tryz.underlying3) enc W _ _ _ _ h2 w2
 change TRL _ _ _ (List.take (Tryz.prog.cellsOf 3) (List.drop 3 cs)) at e2
 rw [cl3] at e2
 refine ⟨⟨x0,x1,x2⟩,r0,?_⟩
 have hh:=(TRL.piece (o:=0) (m:=2) e0 (TRL.piece (o:=2) (m:=1) e1 (TRL.piece (o:=3) (m:=1) e2 (TRL.done hlen))))
 exact hh
theorem o84:OpenR Tryz.prog cnA (fun x=>x.l.R∧x.l.cs.length≤140737488355328) 84:=by
 intro H enc W fuel cs d ps h hw
 obtain ⟨n,hlen,hf⟩:=open_struct Tryz.underlying84 h hw
 rw [cl84] at hlen
 obtain ⟨_,_,h0,w0⟩:=hf 0 _ rfl
 obtain ⟨x0,r0,e0⟩:=(o79) enc W _ _ _ _ h0 w0
 change TRL _ _ _ (List.take (Tryz.prog.cellsOf 79) (List.drop 0 cs)) at e0
 rw [cl79] at e0
 obtain ⟨_,_,h1,w1⟩:=hf 1 _ rfl
 obtain ⟨x1,r1,e1⟩:=(openR_bool Tryz.underlying4) enc W _ _ _ _ h1 w1
 change TRL _ _ _ (List.take (Tryz.prog.cellsOf 4) (List.drop 2 cs)) at e1
 rw [cl4] at e1
 refine ⟨⟨x0,x1⟩,r0,?_⟩
 have hh:=(TRL.piece (o:=0) (m:=2) e0 (TRL.piece (o:=2) (m:=1) e1 (TRL.done hlen)))
 exact hh
theorem o52:OpenR Tryz.prog teA (fun x=>x.s.size≤140737488355328) 52:=by
 intro H enc W fuel cs d ps h hw
 obtain ⟨n,hlen,hf⟩:=open_struct Tryz.underlying52 h hw
 rw [cl52] at hlen
 obtain ⟨_,_,h0,w0⟩:=hf 0 _ rfl
 obtain ⟨x0,r0,e0⟩:=(openR_int Tryz.underlying3) enc W _ _ _ _ h0 w0
 change TRL _ _ _ (List.take (Tryz.prog.cellsOf 3) (List.drop 0 cs)) at e0
 rw [cl3] at e0
 obtain ⟨_,_,h1,w1⟩:=hf 1 _ rfl
 obtain ⟨x1,r1,e1⟩:=(openR_int Tryz.underlying3) enc W _ _ _ _ h1 w1
 change TRL _ _ _ (List.take (Tryz.prog.cellsOf 3) (List.drop 1 cs)) at e1
 rw [cl3] at e1
 obtain ⟨_,_,h2,w2⟩:=hf 2 _ rfl
 obtain ⟨x2,r2,e2⟩:=(openR_bool Tryz.underlying4) enc W _ _ _ _ h2 w2
 change TRL _ _ _ (List.take (Tryz.prog.cellsOf 4) (List.drop 2 cs)) at e2
 rw [cl4] at e2
 obtain ⟨_,_,h3,w3⟩:=hf 3 _ rfl
 obtain ⟨x3,r3,e3⟩:=(openR_str Tryz.underlying9) enc W _ _ _ _ h3 w3
 change TRL _ _ _ (List.take (Tryz.prog.cellsOf 9) (List.drop 3 cs)) at e3
 rw [cl9] at e3
 refine ⟨⟨x0,x1,x2,x3⟩,r3,?_⟩
 have hh:=(TRL.piece (o:=0) (m:=1) e0 (TRL.piece (o:=1) (m:=1) e1 (TRL.piece (o:=2) (m:=1) e2 (TRL.piece (o:=3) (m:=1) e3 (TRL.done hlen)))))
 exact hh
theorem o44:OpenR Tryz.prog vA (fun _=>True) 44:=by
 intro H enc W fuel cs d ps h hw
 obtain ⟨n,hlen,hf⟩:=open_struct Tryz.underlying44 h hw
 rw [cl44] at hlen
 obtain ⟨_,_,h0,w0⟩:=hf 0 _ rfl
 obtain ⟨x0,r0,e0⟩:=(openR_int Tryz.underlying3) enc W _ _ _ _ h0 w0
 change TRL _ _ _ (List.take (Tryz.prog.cellsOf 3) (List.drop 0 cs)) at e0
 rw [cl3] at e0
 obtain ⟨_,_,h1,w1⟩:=hf 1 _ rfl
 obtain ⟨x1,r1,e1⟩:=(openR_int Tryz.underlying2) enc W _ _ _ _ h1 w1
 change TRL _ _ _ (List.take (Tryz.prog.cellsOf 2) (List.drop 1 cs)) at e1
 rw [cl2] at e1
 obtain ⟨_,_,h2,w2⟩:=hf 2 _ rfl
 obtain ⟨x2,r2,e2⟩:=(openR_int Tryz.underlying2) enc W _ _ _ _ h2 w2
 change TRL _ _ _ (List.take (Tryz.prog.cellsOf 2) (List.drop 2 cs)) at e2
 rw [cl2] at e2
 obtain ⟨_,_,h3,w3⟩:=hf 3 _ rfl
 obtain ⟨x3,r3,e3⟩:=(openR_int Tryz.underlying3) enc W _ _ _ _ h3 w3
 change TRL _ _ _ (List.take (Tryz.prog.cellsOf 3) (List.drop 3 cs)) at e3
 rw [cl3] at e3
 obtain ⟨_,_,h4,w4⟩:=hf 4 _ rfl
 obtain ⟨x4,r4,e4⟩:=(openR_bool Tryz.underlying4) enc W _ _ _ _ h4 w4
 change TRL _ _ _ (List.take (Tryz.prog.cellsOf 4) (List.drop 4 cs)) at e4
 rw [cl4] at e4
 refine ⟨⟨x0,x1,x2,x3,x4⟩,trivial,?_⟩
 have hh:=(TRL.piece (o:=0) (m:=1) e0 (TRL.piece (o:=1) (m:=1) e1 (TRL.piece (o:=2) (m:=1) e2 (TRL.piece (o:=3) (m:=1) e3 (TRL.piece (o:=4) (m:=1) e4 (TRL.done hlen))))))
 exact hh
theorem o29:OpenR Tryz.prog (fun l:List Int=>[.tree 1 (l.map iA)]) (fun l=>l.length≤140737488355328∧∀ a∈l,-9223372036854775808≤a∧a≤9223372036854775807) 29:=OpenR.slice (openR_int Tryz.underlying3) Tryz.underlying29 cl3 (fun _=>rfl) (by decide) by3_
theorem o30:OpenR Tryz.prog (fun l:List PAux=>[.tree 4 (l.map axA)]) (fun l=>l.length≤140737488355328∧∀ a∈l,a.of_.R∧a.of_.cs.length≤140737488355328) 30:=OpenR.slice (o81) Tryz.underlying30 cl81 (fun _=>rfl) (by decide) by81_
theorem o31:OpenR Tryz.prog (fun l:List PCon=>[.tree 3 (l.map cnA)]) (fun l=>l.length≤140737488355328∧∀ a∈l,a.l.R∧a.l.cs.length≤140737488355328) 31:=OpenR.slice (o84) Tryz.underlying31 cl84 (fun _=>rfl) (by decide) by84_
theorem o32:OpenR Tryz.prog (fun l:List PTest=>[.tree 4 (l.map teA)]) (fun l=>l.length≤140737488355328∧∀ a∈l,a.s.size≤140737488355328) 32:=OpenR.slice (o52) Tryz.underlying32 cl52 (fun _=>rfl) (by decide) by52_
theorem o33:OpenR Tryz.prog (fun l:List (Int×Int)=>[.tree 2 (l.map paA)]) (fun l=>l.length≤140737488355328∧∀ a∈l,True) 33:=OpenR.slice (o26) Tryz.underlying33 cl26 (fun _=>rfl) (by decide) by26_
theorem o22:OpenR Tryz.prog (fun l:List PVar=>[.tree 5 (l.map vA)]) (fun l=>l.length≤140737488355328∧∀ a∈l,True) 22:=OpenR.slice (o44) Tryz.underlying22 cl44 (fun _=>rfl) (by decide) by44_
theorem o35:OpenR Tryz.prog clA (fun c=>c.Fits∧c.R) 35:=by
 intro H enc W fuel cs d ps h hw
 obtain ⟨n,hlen,hf⟩:=open_struct Tryz.underlying35 h hw
 rw [cl35] at hlen
 obtain ⟨_,_,h0,w0⟩:=hf 0 _ rfl
 obtain ⟨x0,r0,e0⟩:=(o29) enc W _ _ _ _ h0 w0
 change TRL _ _ _ (List.take (Tryz.prog.cellsOf 29) (List.drop 0 cs)) at e0
 rw [cl29] at e0
 obtain ⟨_,_,h1,w1⟩:=hf 1 _ rfl
 obtain ⟨x1,r1,e1⟩:=(o29) enc W _ _ _ _ h1 w1
 change TRL _ _ _ (List.take (Tryz.prog.cellsOf 29) (List.drop 1 cs)) at e1
 rw [cl29] at e1
 obtain ⟨_,_,h2,w2⟩:=hf 2 _ rfl
 obtain ⟨x2,r2,e2⟩:=(o30) enc W _ _ _ _ h2 w2
 change TRL _ _ _ (List.take (Tryz.prog.cellsOf 30) (List.drop 2 cs)) at e2
 rw [cl30] at e2
 obtain ⟨_,_,h3,w3⟩:=hf 3 _ rfl
 obtain ⟨x3,r3,e3⟩:=(o31) enc W _ _ _ _ h3 w3
 change TRL _ _ _ (List.take (Tryz.prog.cellsOf 31) (List.drop 3 cs)) at e3
 rw [cl31] at e3
 obtain ⟨_,_,h4,w4⟩:=hf 4 _ rfl
 obtain ⟨x4,r4,e4⟩:=(o32) enc W _ _ _ _ h4 w4
 change TRL _ _ _ (List.take (Tryz.prog.cellsOf 32) (List.drop 4 cs)) at e4
 rw [cl32] at e4
 obtain ⟨_,_,h5,w5⟩:=hf 5 _ rfl
 obtain ⟨x5,r5,e5⟩:=(o33) enc W _ _ _ _ h5 w5
 change TRL _ _ _ (List.take (Tryz.prog.cellsOf 33) (List.drop 5 cs)) at e5
 rw [cl33] at e5
 obtain ⟨_,_,h6,w6⟩:=hf 6 _ rfl
 obtain ⟨x6,r6,e6⟩:=(o33) enc W _ _ _ _ h6 w6
 change TRL _ _ _ (List.take (Tryz.prog.cellsOf 33) (List.drop 6 cs)) at e6
 rw [cl33] at e6
 refine ⟨⟨x0,x1,x2,x3,x4,x5,x6⟩,⟨⟨r0.1,r1.1,r2.1,r3.1,r4.1,r5.1,r6.1,fun a h=>(r2.2 a h).2,fun a h=>(r3.2 a h).2,r4.2⟩,⟨fun a h=>(r2.2 a h).1,fun a h=>(r3.2 a h).1⟩⟩,?_⟩
 have hh:=(TRL.piece (o:=0) (m:=1) e0 (TRL.piece (o:=1) (m:=1) e1 (TRL.piece (o:=2) (m:=1) e2 (TRL.piece (o:=3) (m:=1) e3 (TRL.piece (o:=4) (m:=1) e4 (TRL.piece (o:=5) (m:=1) e5 (TRL.piece (o:=6) (m:=1) e6 (TRL.done hlen))))))))
 exact hh
theorem o23:OpenR Tryz.prog (fun l:List PCl=>[.tree 7 (l.map clA)]) (fun l=>l.length≤140737488355328∧∀ a∈l,a.Fits∧a.R) 23:=OpenR.slice (o35) Tryz.underlying23 cl35 (fun _=>rfl) (by decide) by35_
theorem o25:OpenR Tryz.prog prA (fun p=>p.Fits∧p.R) 25:=by
 intro H enc W fuel cs d ps h hw
 obtain ⟨n,hlen,hf⟩:=open_struct Tryz.underlying25 h hw
 rw [cl25] at hlen
 obtain ⟨_,_,h0,w0⟩:=hf 0 _ rfl
 obtain ⟨x0,r0,e0⟩:=(openR_int Tryz.underlying3) enc W _ _ _ _ h0 w0
 change TRL _ _ _ (List.take (Tryz.prog.cellsOf 3) (List.drop 0 cs)) at e0
 rw [cl3] at e0
 obtain ⟨_,_,h1,w1⟩:=hf 1 _ rfl
 obtain ⟨x1,r1,e1⟩:=(openR_int Tryz.underlying3) enc W _ _ _ _ h1 w1
 change TRL _ _ _ (List.take (Tryz.prog.cellsOf 3) (List.drop 1 cs)) at e1
 rw [cl3] at e1
 obtain ⟨_,_,h2,w2⟩:=hf 2 _ rfl
 obtain ⟨x2,r2,e2⟩:=(o22) enc W _ _ _ _ h2 w2
 change TRL _ _ _ (List.take (Tryz.prog.cellsOf 22) (List.drop 2 cs)) at e2
 rw [cl22] at e2
 obtain ⟨_,_,h3,w3⟩:=hf 3 _ rfl
 obtain ⟨x3,r3,e3⟩:=(o23) enc W _ _ _ _ h3 w3
 change TRL _ _ _ (List.take (Tryz.prog.cellsOf 23) (List.drop 3 cs)) at e3
 rw [cl23] at e3
 refine ⟨⟨x0,x1,x2,x3⟩,⟨⟨r2.1,r3.1,fun a h=>(r3.2 a h).1⟩,⟨fun a h=>(r3.2 a h).2⟩⟩,?_⟩
 have hh:=(TRL.piece (o:=0) (m:=1) e0 (TRL.piece (o:=1) (m:=1) e1 (TRL.piece (o:=2) (m:=1) e2 (TRL.piece (o:=3) (m:=1) e3 (TRL.done hlen)))))
 exact hh
/-- A predicate that comes as an argument. -/
theorem open_pred {r:Reach} {b0:Nat} {H:Type} {enc:TypeId×Value→H} {W:World} {v:Value} {d:DataW H} {ps:List MemPlace} (hv:Value.okWide Tryz.prog W r b0 25 v)
  (h:DataW.Trod enc Tryz.prog W 0 (fun _=>true) true 25 v d ps) (hw:∀ m∈d.weights Tryz.prog 25,m≤140737488351232) :
  ∃ p:PPred,p.Fits∧p.R∧TR (LtB W.heap.size) W (.agg (prA p)) v:=by
 obtain ⟨cs,rfl,hsz⟩:=okWide_struct Tryz.underlying25 hv
 obtain ⟨fuel,hf⟩:=h
 obtain ⟨p,⟨h1,h2⟩,h3⟩:=o25 enc W fuel _ d ps hf hw
 refine ⟨p,h1,h2,.agg ?_ (fun i hi hi'=>?_)⟩
 ·have:=h3.1
  simpa [Value.cells] using this
 ·have:=h3.2 i hi (by simpa [Value.cells] using hi')
  simpa [Value.cells] using this
theorem okWide_array {P:Program} {w:World} {r:Reach} {base:Nat} {v:Value} {t:TypeId} {n e:Nat} (ht:P.underlying t=some (.array n e)) (h:Value.okWide P w r base t v):∃ cs,v=.agg cs∧cs.size=P.cellsOf t:=by
 simp only [Value.okWide,ht] at h
 obtain ⟨cs,h1,h2,_⟩:=h
 exact ⟨cs,h1,h2⟩
/-- Two numbers that come as an argument. -/
theorem open_two {r:Reach} {b0:Nat} {H:Type} {enc:TypeId×Value→H} {W:World} {v:Value} {d:DataW H} {ps:List MemPlace} (hv:Value.okWide Tryz.prog W r b0 26 v)
  (h:DataW.Trod enc Tryz.prog W 0 (fun _=>true) true 26 v d ps) (hw:∀ m∈d.weights Tryz.prog 26,m≤140737488351232) :
  ∃ p:Int×Int,TR (LtB W.heap.size) W (.agg (paA p)) v:=by
 obtain ⟨cs,rfl,hsz⟩:=okWide_array Tryz.underlying26 hv
 obtain ⟨fuel,hf⟩:=h
 obtain ⟨p,_,h3⟩:=o26 enc W fuel _ d ps hf hw
 refine ⟨p,.agg ?_ (fun i hi hi'=>?_)⟩
 ·have:=h3.1
  simpa [Value.cells] using this
 ·have:=h3.2 i hi (by simpa [Value.cells] using hi')
  simpa [Value.cells] using this
end Go.Proofs.YtgknefkobpnjaaaGreatDoor
