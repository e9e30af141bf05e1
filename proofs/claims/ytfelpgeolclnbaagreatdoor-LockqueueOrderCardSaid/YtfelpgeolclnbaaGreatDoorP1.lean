/- Texts of the claim. -/
import Derived.Test.YtfelpgeolclnbaaGreatDoorV3
namespace Go.Proofs.YtfelpgeolclnbaaGreatDoor
set_option linter.unusedVariables false
set_option linter.unusedSimpArgs false
open Go.RowKit
def eqVB (x y:PVar):Bool:=x.t==y.t&&(x.lo==y.lo&&(x.hi==y.hi&&(x.mx==y.mx&&x.nl==y.nl)))
theorem if_res {a b:Bool} {w:World}:(if a=false then Result.ok false w else Result.ok b w)=Result.ok (a&&b) w:=by cases a <;> rfl
theorem fo80:Tryz.prog.underlying 80=some (.struct (Tryz.prog.fieldsOf 80)):=by kernel_rfl
theorem si80:Tryz.prog.stoodInHeld 80=false:=by kernel_rfl
theorem fo95:Tryz.prog.underlying 95=some (.struct (Tryz.prog.fieldsOf 95)):=by kernel_rfl
theorem si95:Tryz.prog.stoodInHeld 95=false:=by kernel_rfl
theorem fo109:Tryz.prog.underlying 109=some (.struct (Tryz.prog.fieldsOf 109)):=by kernel_rfl
theorem si109:Tryz.prog.stoodInHeld 109=false:=by kernel_rfl
theorem eg80:Tryz.prog.eqGuardType Tryz.prog.depth 80=false:=by kernel_rfl
theorem eg95:Tryz.prog.eqGuardType Tryz.prog.depth 95=false:=by kernel_rfl
theorem eg109:Tryz.prog.eqGuardType Tryz.prog.depth 109=false:=by kernel_rfl
theorem eg128:Tryz.prog.eqGuardType Tryz.prog.depth 128=false:=by kernel_rfl
set_option maxRecDepth 100000 in
theorem eq44_run (x y:PVar) (w:World):(Op.equalIn 10000 80 (.agg #[.int .i64 x.t,.int .i64 x.lo,.int .i64 x.hi,.int .i64 x.mx,.bool x.nl]) (.agg #[.int .i64 y.t,.int .i64 y.lo,.int .i64 y.hi,.int .i64 y.mx,.bool y.nl])).run Tryz.prog w=.ok (eqVB x y) w:=by
 rw [run_equalIn_agg w 9999 80 _ _ fo80 si80]
 simp only [Program.fieldsOf,Tryz.underlying80]
 simp [Op.eqFields,part,run_equalIn_int _ 9998 3 _ _ _ _ Tryz.underlying3,run_equalIn_int _ 9998 2 _ _ _ _ Tryz.underlying2,run_equalIn_bool' _ 9998 4 _ _ Tryz.underlying4,if_res,eqVB]
set_option maxRecDepth 100000 in
theorem eq111_run (x y:PCoef) (w:World):(Op.equalIn 10000 95 (.agg #[.int .i64 x.v,.int .i64 x.n]) (.agg #[.int .i64 y.v,.int .i64 y.n])).run Tryz.prog w=.ok (x.v==y.v&&x.n==y.n) w:=by
 rw [run_equalIn_agg w 9999 95 _ _ fo95 si95]
 simp only [Program.fieldsOf,Tryz.underlying95]
 simp [Op.eqFields,part,run_equalIn_int _ 9998 3 _ _ _ _ Tryz.underlying3,run_equalIn_int _ 9998 2 _ _ _ _ Tryz.underlying2,if_res]
set_option maxRecDepth 100000 in
theorem eq52_run (x:PTest) (w:World):(Op.equalIn 10000 109 (.agg #[.int .i64 x.v,.int .i64 x.kd,.bool x.ng,.string x.s]) (.agg #[.int .i64 x.v,.int .i64 x.kd,.bool x.ng,.string x.s])).run Tryz.prog w=.ok true w:=by
 rw [run_equalIn_agg w 9999 109 _ _ fo109 si109]
 simp only [Program.fieldsOf,Tryz.underlying109]
 simp [Op.eqFields,part,run_equalIn_int _ 9998 3 _ _ _ _ Tryz.underlying3,run_equalIn_bool' _ 9998 4 _ _ Tryz.underlying4,run_equalIn_string _ 9998 9 _ _ Tryz.underlying9,if_res]
section
variable {P:Program} {τ:Nat→AV} {η:Heap} {d:Option Tmp} {ty:TypeId} {pos:String} {af:Array Edge} {g:Option (Nat×Bool)}
theorem LOp.neSame {t t':Nat} {x y:Operand} {k:IntKind} {m:Int} (hx:aev τ x=.v (.int k m)) (hy:aev τ y=.v (.int k m)) :
  LOp P ⟨d,.binOp .neq t x y t',ty,pos,af,g⟩ τ η [] [] (.v (.bool false)) :=
 .look [] fun C a _ hxs _=>by
  have e1:=hxs x (by simp [Op.operands])
  have e2:=hxs y (by simp [Op.operands])
  rw [hx] at e1
  rw [hy] at e2
  refine ⟨.bool false,?_,VR.v C _⟩
  have h2:(eqGuard .neq t x y (.int k m) (.int k m))=pure ():=rfl
  simp only [execOp,e1.v_inv,e2.v_inv,h2]
  simp [binOp,Op.intCmp]
theorem LOp.neSameB {t t':Nat} {x y:Operand} {p:Bool} (hx:aev τ x=.v (.bool p)) (hy:aev τ y=.v (.bool p)) (hu:P.underlying t=some .bool) :
  LOp P ⟨d,.binOp .neq t x y t',ty,pos,af,g⟩ τ η [] [] (.v (.bool false)):=by
 have:=LOp.neB (P:=P) (τ:=τ) (η:=η) (d:=d) (ty:=ty) (pos:=pos) (af:=af) (g:=g) (t:=t) (t':=t') hx hy hu
 simpa using this
/-- Two structs held against each other. -/
theorem LOp.neAgg {t t':Nat} {x y:Operand} {xs ys:List AV} {lx ly:List Value} {r:Bool} (hx:aev τ x=.agg xs) (hy:aev τ y=.agg ys) (hxs:valsE xs=some lx) (hys:valsE ys=some ly) (hm:P.eqGuardType P.depth t=false)
  (h:∀ w,(Op.equalIn 10000 t (.agg lx.toArray) (.agg ly.toArray)).run P w=.ok r w):LOp P ⟨d,.binOp .neq t x y t',ty,pos,af,g⟩ τ η [] [] (.v (.bool (!r))) :=
 .look [] fun C a _ hq _=>by
  have e1:=hq x (by simp [Op.operands])
  have e2:=hq y (by simp [Op.operands])
  rw [hx] at e1
  rw [hy] at e2
  have f1:=toVE_ok (y:=.agg lx.toArray) e1 (by simp [toVE,hxs])
  have f2:=toVE_ok (y:=.agg ly.toArray) e2 (by simp [toVE,hys])
  refine ⟨.bool (!r),?_,VR.v C _⟩
  simp only [execOp,f1,f2,Sem.run_bind,run_eqGuard_agg C.w .neq t x y _ _ hm,Result.andThen_ok,run_neq_struct,h C.w,Sem.run_pure]
end
theorem eq26_run (p:Int×Int) (w:World):(Op.equalIn 10000 128 (.agg #[.int .i64 p.1,.int .i64 p.2]) (.agg #[.int .i64 p.1,.int .i64 p.2])).run Tryz.prog w=.ok true w:=by
 have h3:∀ w,(Op.equalIn 9999 3 (.int .i64 p.1) (.int .i64 p.1)).run Tryz.prog w=.ok true w:=fun w=>by rw [run_equalIn_int w 9998 3 _ _ _ _ Tryz.underlying3]; simp
 have h4:∀ w,(Op.equalIn 9999 3 (.int .i64 p.2) (.int .i64 p.2)).run Tryz.prog w=.ok true w:=fun w=>by rw [run_equalIn_int w 9998 3 _ _ _ _ Tryz.underlying3]; simp
 have hz:∀ w,(Go.sizeOf 3).run Tryz.prog w=.ok 1 w:=Tryz.sizeOf3
 have ha:∀ w,(isAgg 3).run Tryz.prog w=.ok false w:=Tryz.isAgg3
 show (Op.equalIn (9999+1) 128 _ _).run Tryz.prog w=_
 unfold Op.equalIn
 simp only [Sem.run_bind,run_underlying Tryz.underlying128,Result.andThen_ok,hz]
 simp [Std.Legacy.Range.forIn_eq_forIn_range',Std.Legacy.Range.size,List.range',part,ha,h3,h4]
theorem bod60:bodied Tryz.prog 60=true:=by kernel_rfl
theorem bod61:bodied Tryz.prog 61=true:=by kernel_rfl
theorem bod62:bodied Tryz.prog 62=true:=by kernel_rfl
theorem fi100_1:fieldInfo Tryz.prog 100 1=some (2,1):=by kernel_rfl
theorem row4:rowOf Tryz.prog 4=some none:=by kernel_rfl
set_option maxRecDepth 100000 in
set_option maxHeartbeats 4000000 in
theorem ints_p (l:List Int) (hl:l.length≤1000):PCall Tryz.prog 60 [isA l,isA l] (.v (.bool true)):=by
 refine pB Tryz.func60 rfl Tryz.ntmps60 (Nat.le_of_ble_eq_true rfl) ?_
 refine wS (wR ?_)
 refine oL (lA (a:=.v _) rfl) rfl rfl ?_
 refine oN (aN (wS (wS (wR ?_))))
 refine oL (lM (a:=.tree _ _) rfl) rfl rfl ?_
 refine oL (lT rfl Tryz.underlying70 rfl) rfl rfl ?_
 refine oL (lM (a:=.tree _ _) rfl) rfl rfl ?_
 refine oL (lT rfl Tryz.underlying70 rfl) rfl rfl ?_
 refine oL (LOp.neSame rfl rfl) rfl rfl ?_
 refine oN (aN ?_)
 refine AWP.condF rfl ?_
 refine wK (aN (wS (wS (wR ?_))))
 refine oL (lA (a:=.v _) rfl) rfl rfl ?_
 refine oN (aN (wB ?_))
 refine wL (fun n s=>∃ k:Nat,n=(l.length - k)∧s=⟨fL [(0,isA l),(1,isA l),(5,.v (.int .i64 ((k:Nat):Int)))],hLz [],0⟩∧(k≤l.length∧∀ j,j < k→(fun _=>true) j=true)) (n:=(l.length - 0)) (s1:=⟨fL [(0,isA l),(1,isA l),(5,.v (.int .i64 ((0:Nat):Int)))],hLz [],0⟩) (cO (.cons rfl rfl (.cons rfl rfl (.cons rfl rfl .nil))) .nil) ⟨0,rfl,rfl,⟨Nat.zero_le _,fun j h=>absurd h (Nat.not_lt_zero j)⟩⟩ ?_
 rintro n s ⟨k,rfl,rfl,hinv⟩
 obtain ⟨hk,hj⟩:=hinv
 refine wS (wS (wR ?_))
 refine oL (lM (a:=.v _) rfl) rfl rfl ?_
 refine oL (lM (a:=.tree _ _) rfl) rfl rfl ?_
 refine oL (lT rfl Tryz.underlying70 rfl) rfl rfl ?_
 refine oL (lP rfl (fun _ _=>nofun) (fun _=>rfl)) rfl rfl ?_
 refine oN (aN ?_)
 refine wC rfl (fun hc14=>?_) (fun hc14=>?_)
 ·skip
  have hlt:k < l.length:=Int.ofNat_lt.1 (of_decide_eq_true hc14)
  refine wK (aN (wS (wB (wS (AWP.regD mixed ?_)))))
  refine qL (lM (a:=.tree _ _) rfl) rfl rfl ?_
  refine qL (lM (a:=.v _) rfl) rfl rfl ?_
  refine qL (lI Tryz.underlying70 sz3 rfl rfl (by first | assumption | omega)) rfl rfl ?_
  refine qL (lE row3 rfl rfl) rfl rfl ?_
  refine qL (lM (a:=.tree _ _) rfl) rfl rfl ?_
  refine qL (lM (a:=.v _) rfl) rfl rfl ?_
  refine qL (lI Tryz.underlying70 sz3 rfl rfl (by first | assumption | omega)) rfl rfl ?_
  refine qL (lE row3 rfl rfl) rfl rfl ?_
  refine qL (LOp.neSame rfl rfl) rfl rfl ?_
  refine SeqC.nil ⟨by kernel_rfl,?_⟩
  refine aN ?_
  refine AWP.condF rfl ?_
  refine wK (bN (aN (wR ?_)))
  refine oL (lM (a:=.v _) rfl) rfl rfl ?_
  refine oL (lJ rfl rfl (by omega) (by omega)) rfl rfl ?_
  refine oL (lA (a:=.v _) rfl) rfl rfl ?_
  refine oN (aN ?_)
  refine ⟨(l.length - (k+1)),⟨fL [(0,isA l),(1,isA l),(5,.v (.int .i64 (((k+1):Nat):Int)))],hLz [],0⟩,by omega,(cO (.cons rfl rfl (.cons rfl rfl (.cons rfl rfl .nil))) .nil),(k+1),rfl,rfl,?_⟩
  refine ⟨by omega,fun j h=>?_⟩
  rcases Nat.lt_succ_iff_lt_or_eq.1 h with h | rfl
  ·exact hj j h
  ·rfl
 ·skip
  have hge:¬ k < l.length:=fun h=>of_decide_eq_false hc14 (Int.ofNat_lt.2 h)
  refine AWP.exit (aE (aE (bE ?_)))
  refine aN (wS (wR ?_))
  refine oL (lA (a:=.v _) rfl) rfl rfl ?_
  refine oN (aN ?_)
  refine wT (?_)
  refine ⟨.inr rfl,oV Tryz.results60 rfl rfl ?_⟩
  rfl
set_option maxRecDepth 100000 in
set_option maxHeartbeats 4000000 in
theorem pairs_p (l:List (Int×Int)) (hl:l.length≤1000):PCall Tryz.prog 61 [psA l,psA l] (.v (.bool true)):=by
 refine pB Tryz.func61 rfl Tryz.ntmps61 (Nat.le_of_ble_eq_true rfl) ?_
 refine wS (wR ?_)
 refine oL (lA (a:=.v _) rfl) rfl rfl ?_
 refine oN (aN (wS (wS (wR ?_))))
 refine oL (lM (a:=.tree _ _) rfl) rfl rfl ?_
 refine oL (lT rfl Tryz.underlying74 rfl) rfl rfl ?_
 refine oL (lM (a:=.tree _ _) rfl) rfl rfl ?_
 refine oL (lT rfl Tryz.underlying74 rfl) rfl rfl ?_
 refine oL (LOp.neSame rfl rfl) rfl rfl ?_
 refine oN (aN ?_)
 refine AWP.condF rfl ?_
 refine wK (aN (wS (wS (wR ?_))))
 refine oL (lA (a:=.v _) rfl) rfl rfl ?_
 refine oN (aN (wB ?_))
 refine wL (fun n s=>∃ k:Nat,n=(l.length - k)∧s=⟨fL [(0,psA l),(1,psA l),(5,.v (.int .i64 ((k:Nat):Int)))],hLz [],0⟩∧(k≤l.length∧∀ j,j < k→(fun _=>true) j=true)) (n:=(l.length - 0)) (s1:=⟨fL [(0,psA l),(1,psA l),(5,.v (.int .i64 ((0:Nat):Int)))],hLz [],0⟩) (cO (.cons rfl rfl (.cons rfl rfl (.cons rfl rfl .nil))) .nil) ⟨0,rfl,rfl,⟨Nat.zero_le _,fun j h=>absurd h (Nat.not_lt_zero j)⟩⟩ ?_
 rintro n s ⟨k,rfl,rfl,hinv⟩
 obtain ⟨hk,hj⟩:=hinv
 refine wS (wS (wR ?_))
 refine oL (lM (a:=.v _) rfl) rfl rfl ?_
 refine oL (lM (a:=.tree _ _) rfl) rfl rfl ?_
 refine oL (lT rfl Tryz.underlying74 rfl) rfl rfl ?_
 refine oL (lP rfl (fun _ _=>nofun) (fun _=>rfl)) rfl rfl ?_
 refine oN (aN ?_)
 refine wC rfl (fun hc14=>?_) (fun hc14=>?_)
 ·skip
  have hlt:k < l.length:=Int.ofNat_lt.1 (of_decide_eq_true hc14)
  refine wK (aN (wS (wB (wS (AWP.regD mixed ?_)))))
  refine qL (lM (a:=.tree _ _) rfl) rfl rfl ?_
  refine qL (lM (a:=.v _) rfl) rfl rfl ?_
  refine qL (lI Tryz.underlying74 sz128 rfl rfl (by first | assumption | omega)) rfl rfl ?_
  refine qL (LOp.ldTN row128 rfl rfl) rfl rfl ?_
  refine qL (lM (a:=.tree _ _) rfl) rfl rfl ?_
  refine qL (lM (a:=.v _) rfl) rfl rfl ?_
  refine qL (lI Tryz.underlying74 sz128 rfl rfl (by first | assumption | omega)) rfl rfl ?_
  refine qL (LOp.ldTN row128 rfl rfl) rfl rfl ?_
  refine qL (LOp.neAgg (r:=true) (lx:=[_,_]) (ly:=[_,_]) rfl rfl rfl rfl eg128 (eq26_run l[k])) rfl rfl ?_
  refine SeqC.nil ⟨by kernel_rfl,?_⟩
  refine aN ?_
  refine AWP.condF rfl ?_
  refine wK (bN (aN (wR ?_)))
  refine oL (lM (a:=.v _) rfl) rfl rfl ?_
  refine oL (lJ rfl rfl (by omega) (by omega)) rfl rfl ?_
  refine oL (lA (a:=.v _) rfl) rfl rfl ?_
  refine oN (aN ?_)
  refine ⟨(l.length - (k+1)),⟨fL [(0,psA l),(1,psA l),(5,.v (.int .i64 (((k+1):Nat):Int)))],hLz [],0⟩,by omega,(cO (.cons rfl rfl (.cons rfl rfl (.cons rfl rfl .nil))) .nil),(k+1),rfl,rfl,?_⟩
  refine ⟨by omega,fun j h=>?_⟩
  rcases Nat.lt_succ_iff_lt_or_eq.1 h with h | rfl
  ·exact hj j h
  ·rfl
 ·skip
  have hge:¬ k < l.length:=fun h=>of_decide_eq_false hc14 (Int.ofNat_lt.2 h)
  refine AWP.exit (aE (aE (bE ?_)))
  refine aN (wS (wR ?_))
  refine oL (lA (a:=.v _) rfl) rfl rfl ?_
  refine oN (aN ?_)
  refine wT (?_)
  refine ⟨.inr rfl,oV Tryz.results61 rfl rfl ?_⟩
  rfl
set_option maxRecDepth 100000 in
set_option maxHeartbeats 4000000 in
theorem samev_p (l:List PVar) (hl:l.length≤1000):PCall Tryz.prog 29 [vsA l,vsA l] (.v (.bool true)):=by
 refine pB Tryz.func29 rfl Tryz.ntmps29 (Nat.le_of_ble_eq_true rfl) ?_
 refine wS (wR ?_)
 refine oL (lA (a:=.v _) rfl) rfl rfl ?_
 refine oN (aN (wS (wS (wR ?_))))
 refine oL (lM (a:=.tree _ _) rfl) rfl rfl ?_
 refine oL (lT rfl Tryz.underlying34 rfl) rfl rfl ?_
 refine oL (lM (a:=.tree _ _) rfl) rfl rfl ?_
 refine oL (lT rfl Tryz.underlying34 rfl) rfl rfl ?_
 refine oL (LOp.neSame rfl rfl) rfl rfl ?_
 refine oN (aN ?_)
 refine AWP.condF rfl ?_
 refine wK (aN (wS (wS (wR ?_))))
 refine oL (lA (a:=.v _) rfl) rfl rfl ?_
 refine oN (aN (wB ?_))
 refine wL (fun n s=>∃ k:Nat,n=(l.length - k)∧s=⟨fL [(0,vsA l),(1,vsA l),(5,.v (.int .i64 ((k:Nat):Int)))],hLz [],0⟩∧(k≤l.length∧∀ j,j < k→(fun _=>true) j=true)) (n:=(l.length - 0)) (s1:=⟨fL [(0,vsA l),(1,vsA l),(5,.v (.int .i64 ((0:Nat):Int)))],hLz [],0⟩) (cO (.cons rfl rfl (.cons rfl rfl (.cons rfl rfl .nil))) .nil) ⟨0,rfl,rfl,⟨Nat.zero_le _,fun j h=>absurd h (Nat.not_lt_zero j)⟩⟩ ?_
 rintro n s ⟨k,rfl,rfl,hinv⟩
 obtain ⟨hk,hj⟩:=hinv
 refine wS (wS (wR ?_))
 refine oL (lM (a:=.v _) rfl) rfl rfl ?_
 refine oL (lM (a:=.tree _ _) rfl) rfl rfl ?_
 refine oL (lT rfl Tryz.underlying34 rfl) rfl rfl ?_
 refine oL (lP rfl (fun _ _=>nofun) (fun _=>rfl)) rfl rfl ?_
 refine oN (aN ?_)
 refine wC rfl (fun hc14=>?_) (fun hc14=>?_)
 ·skip
  have hlt:k < l.length:=Int.ofNat_lt.1 (of_decide_eq_true hc14)
  refine wK (aN (wS (wB (wS (AWP.regD mixed ?_)))))
  refine qL (lM (a:=.tree _ _) rfl) rfl rfl ?_
  refine qL (lM (a:=.v _) rfl) rfl rfl ?_
  refine qL (lI Tryz.underlying34 sz80 rfl rfl (by first | assumption | omega)) rfl rfl ?_
  refine qL (LOp.ldTN row80 rfl rfl) rfl rfl ?_
  refine qL (lM (a:=.tree _ _) rfl) rfl rfl ?_
  refine qL (lM (a:=.v _) rfl) rfl rfl ?_
  refine qL (lI Tryz.underlying34 sz80 rfl rfl (by first | assumption | omega)) rfl rfl ?_
  refine qL (LOp.ldTN row80 rfl rfl) rfl rfl ?_
  refine qL (LOp.neAgg (r:=true) rfl rfl rfl rfl eg80 (fun w=>by rw [show true=eqVB l[k] l[k] by simp [eqVB]]; exact eq44_run l[k] l[k] w)) rfl rfl ?_
  refine SeqC.nil ⟨by kernel_rfl,?_⟩
  refine aN ?_
  refine AWP.condF rfl ?_
  refine wK (bN (aN (wR ?_)))
  refine oL (lM (a:=.v _) rfl) rfl rfl ?_
  refine oL (lJ rfl rfl (by omega) (by omega)) rfl rfl ?_
  refine oL (lA (a:=.v _) rfl) rfl rfl ?_
  refine oN (aN ?_)
  refine ⟨(l.length - (k+1)),⟨fL [(0,vsA l),(1,vsA l),(5,.v (.int .i64 (((k+1):Nat):Int)))],hLz [],0⟩,by omega,(cO (.cons rfl rfl (.cons rfl rfl (.cons rfl rfl .nil))) .nil),(k+1),rfl,rfl,?_⟩
  refine ⟨by omega,fun j h=>?_⟩
  rcases Nat.lt_succ_iff_lt_or_eq.1 h with h | rfl
  ·exact hj j h
  ·rfl
 ·skip
  have hge:¬ k < l.length:=fun h=>of_decide_eq_false hc14 (Int.ofNat_lt.2 h)
  refine AWP.exit (aE (aE (bE ?_)))
  refine aN (wS (wR ?_))
  refine oL (lA (a:=.v _) rfl) rfl rfl ?_
  refine oN (aN ?_)
  refine wT (?_)
  refine ⟨.inr rfl,oV Tryz.results29 rfl rfl ?_⟩
  rfl
set_option maxRecDepth 100000 in
set_option maxHeartbeats 4000000 in
theorem lin_p (f:PLin) (hl:f.cs.length≤1000):PCall Tryz.prog 62 [.agg (liA f),.agg (liA f)] (.v (.bool true)):=by
 refine pB Tryz.func62 rfl Tryz.ntmps62 (Nat.le_of_ble_eq_true rfl) ?_
 refine wS (wR ?_)
 refine oW (LOp.bx rfl) rfl rfl 1 rfl ?_
 refine oW (LOp.bx rfl) rfl rfl 2 rfl ?_
 refine oL (lA (a:=.v _) rfl) rfl rfl ?_
 refine oN (aN (wS (wS (wR ?_))))
 refine oL (lF fi98_0 rfl rfl rfl rfl rfl) rfl rfl ?_
 refine oL (lD row2 rfl rfl rfl rfl rfl) rfl rfl ?_
 refine oL (lF fi98_0 rfl rfl rfl rfl rfl) rfl rfl ?_
 refine oL (lD row2 rfl rfl rfl rfl rfl) rfl rfl ?_
 refine oL (LOp.neSame rfl rfl) rfl rfl ?_
 refine oL (lM (a:=.v _) rfl) rfl rfl ?_
 refine oL (lF fi98_1 rfl rfl rfl rfl rfl) rfl rfl ?_
 refine oL (lD row96 rfl rfl rfl rfl rfl) rfl rfl ?_
 refine oL (lT rfl Tryz.underlying96 rfl) rfl rfl ?_
 refine oL (lF fi98_1 rfl rfl rfl rfl rfl) rfl rfl ?_
 refine oL (lD row96 rfl rfl rfl rfl rfl) rfl rfl ?_
 refine oL (lT rfl Tryz.underlying96 rfl) rfl rfl ?_
 refine oL (LOp.neSame rfl rfl) rfl rfl ?_
 refine oL (lK rfl rfl rfl) rfl rfl ?_
 refine oN (aN ?_)
 refine AWP.condF rfl ?_
 refine wK (aN (wS (wS (wR ?_))))
 refine oL (lA (a:=.v _) rfl) rfl rfl ?_
 refine oN (aN (wB ?_))
 refine wL (fun n s=>∃ k:Nat,n=(f.cs.length - k)∧s=⟨fL [(2,.ptr 0 0 0),(3,.ptr 1 0 0),(5,.v (.int .i64 ((k:Nat):Int)))],hLz [(0,⟨0,liA f,0,false⟩),(1,⟨0,liA f,0,false⟩)],2⟩∧(k≤f.cs.length∧∀ j,j < k→(fun _=>true) j=true)) (n:=(f.cs.length - 0)) (s1:=⟨fL [(2,.ptr 0 0 0),(3,.ptr 1 0 0),(5,.v (.int .i64 ((0:Nat):Int)))],hLz [(0,⟨0,liA f,0,false⟩),(1,⟨0,liA f,0,false⟩)],2⟩) (cO (.cons rfl rfl (.cons rfl rfl (.cons rfl rfl .nil))) (.cons rfl rfl rfl (.cons rfl rfl rfl .nil))) ⟨0,rfl,rfl,⟨Nat.zero_le _,fun j h=>absurd h (Nat.not_lt_zero j)⟩⟩ ?_
 rintro n s ⟨k,rfl,rfl,hinv⟩
 obtain ⟨hk,hj⟩:=hinv
 refine wS (wS (wR ?_))
 refine oL (lM (a:=.v _) rfl) rfl rfl ?_
 refine oL (lF fi98_1 rfl rfl rfl rfl rfl) rfl rfl ?_
 refine oL (lD row96 rfl rfl rfl rfl rfl) rfl rfl ?_
 refine oL (lT rfl Tryz.underlying96 rfl) rfl rfl ?_
 refine oL (lP rfl (fun _ _=>nofun) (fun _=>rfl)) rfl rfl ?_
 refine oN (aN ?_)
 refine wC rfl (fun hc24=>?_) (fun hc24=>?_)
 ·skip
  have hlt:k < f.cs.length:=Int.ofNat_lt.1 (of_decide_eq_true hc24)
  refine wK (aN (wS (wB (wS (AWP.regD mixed ?_)))))
  refine qL (lF fi98_1 rfl rfl rfl rfl rfl) rfl rfl ?_
  refine qL (lD row96 rfl rfl rfl rfl rfl) rfl rfl ?_
  refine qL (lM (a:=.v _) rfl) rfl rfl ?_
  refine qL (lI Tryz.underlying96 sz95 rfl rfl (by first | assumption | omega)) rfl rfl ?_
  refine qL (LOp.ldTN row95 rfl rfl) rfl rfl ?_
  refine qL (lF fi98_1 rfl rfl rfl rfl rfl) rfl rfl ?_
  refine qL (lD row96 rfl rfl rfl rfl rfl) rfl rfl ?_
  refine qL (lM (a:=.v _) rfl) rfl rfl ?_
  refine qL (lI Tryz.underlying96 sz95 rfl rfl (by first | assumption | omega)) rfl rfl ?_
  refine qL (LOp.ldTN row95 rfl rfl) rfl rfl ?_
  refine qL (LOp.neAgg (r:=true) rfl rfl rfl rfl eg95 (fun w=>by rw [show true=(f.cs[k].v==f.cs[k].v&&f.cs[k].n==f.cs[k].n) by simp]; exact eq111_run f.cs[k] f.cs[k] w)) rfl rfl ?_
  refine SeqC.nil ⟨by kernel_rfl,?_⟩
  refine aN ?_
  refine AWP.condF rfl ?_
  refine wK (bN (aN (wR ?_)))
  refine oL (lM (a:=.v _) rfl) rfl rfl ?_
  refine oL (lJ rfl rfl (by omega) (by omega)) rfl rfl ?_
  refine oL (lA (a:=.v _) rfl) rfl rfl ?_
  refine oN (aN ?_)
  refine ⟨(f.cs.length - (k+1)),⟨fL [(2,.ptr 0 0 0),(3,.ptr 1 0 0),(5,.v (.int .i64 (((k+1):Nat):Int)))],hLz [(0,⟨0,liA f,0,false⟩),(1,⟨0,liA f,0,false⟩)],2⟩,by omega,(cO (.cons rfl rfl (.cons rfl rfl (.cons rfl rfl .nil))) (.cons rfl rfl rfl (.cons rfl rfl rfl .nil))),(k+1),rfl,rfl,?_⟩
  refine ⟨by omega,fun j h=>?_⟩
  rcases Nat.lt_succ_iff_lt_or_eq.1 h with h | rfl
  ·exact hj j h
  ·rfl
 ·skip
  have hge:¬ k < f.cs.length:=fun h=>of_decide_eq_false hc24 (Int.ofNat_lt.2 h)
  refine AWP.exit (aE (aE (bE ?_)))
  refine aN (wS (wR ?_))
  refine oL (lA (a:=.v _) rfl) rfl rfl ?_
  refine oN (aN ?_)
  refine wT (?_)
  refine ⟨.inr rfl,oV Tryz.results62 rfl rfl ?_⟩
  rfl
set_option maxRecDepth 100000 in
set_option maxHeartbeats 4000000 in
theorem samecl_p (c:PCl) (hc:c.Ok):PCall Tryz.prog 30 [.agg (clA c),.agg (clA c)] (.v (.bool true)):=by
 have q1:=hc.aux
 have q2:=hc.ints
 have q3:=hc.tests
 refine pB Tryz.func30 rfl Tryz.ntmps30 (Nat.le_of_ble_eq_true rfl) ?_
 refine wS (wR ?_)
 refine oW (LOp.bx rfl) rfl rfl 1 rfl ?_
 refine oW (LOp.bx rfl) rfl rfl 2 rfl ?_
 refine oL (lA (a:=.v _) rfl) rfl rfl ?_
 refine oN (aN (wS (wS (wR ?_))))
 refine oL (lF fi76_0 rfl rfl rfl rfl rfl) rfl rfl ?_
 refine oL (lD row70 rfl rfl rfl rfl rfl) rfl rfl ?_
 refine oL (lF fi76_0 rfl rfl rfl rfl rfl) rfl rfl ?_
 refine oL (lD row70 rfl rfl rfl rfl rfl) rfl rfl ?_
 refine oL (LOp.call bod60 rfl (ints_p c.nul hc.nul)) rfl rfl ?_
 refine oL (lP rfl (fun _ _=>nofun) (fun _=>rfl)) rfl rfl ?_
 refine oL (lM (a:=.v _) rfl) rfl rfl ?_
 refine oL (lF fi76_1 rfl rfl rfl rfl rfl) rfl rfl ?_
 refine oL (lD row70 rfl rfl rfl rfl rfl) rfl rfl ?_
 refine oL (lF fi76_1 rfl rfl rfl rfl rfl) rfl rfl ?_
 refine oL (lD row70 rfl rfl rfl rfl rfl) rfl rfl ?_
 refine oL (LOp.call bod60 rfl (ints_p c.nn hc.nn)) rfl rfl ?_
 refine oL (lP rfl (fun _ _=>nofun) (fun _=>rfl)) rfl rfl ?_
 refine oL (lK rfl rfl rfl) rfl rfl ?_
 refine oL (lM (a:=.v _) rfl) rfl rfl ?_
 refine oL (lF fi76_2 rfl rfl rfl rfl rfl) rfl rfl ?_
 refine oL (lD row71 rfl rfl rfl rfl rfl) rfl rfl ?_
 refine oL (lT rfl Tryz.underlying71 rfl) rfl rfl ?_
 refine oL (lF fi76_2 rfl rfl rfl rfl rfl) rfl rfl ?_
 refine oL (lD row71 rfl rfl rfl rfl rfl) rfl rfl ?_
 refine oL (lT rfl Tryz.underlying71 rfl) rfl rfl ?_
 refine oL (LOp.neSame rfl rfl) rfl rfl ?_
 refine oL (lK rfl rfl rfl) rfl rfl ?_
 refine oL (lM (a:=.v _) rfl) rfl rfl ?_
 refine oL (lF fi76_3 rfl rfl rfl rfl rfl) rfl rfl ?_
 refine oL (lD row72 rfl rfl rfl rfl rfl) rfl rfl ?_
 refine oL (lT rfl Tryz.underlying72 rfl) rfl rfl ?_
 refine oL (lF fi76_3 rfl rfl rfl rfl rfl) rfl rfl ?_
 refine oL (lD row72 rfl rfl rfl rfl rfl) rfl rfl ?_
 refine oL (lT rfl Tryz.underlying72 rfl) rfl rfl ?_
 refine oL (LOp.neSame rfl rfl) rfl rfl ?_
 refine oL (lK rfl rfl rfl) rfl rfl ?_
 refine oL (lM (a:=.v _) rfl) rfl rfl ?_
 refine oL (lF fi76_4 rfl rfl rfl rfl rfl) rfl rfl ?_
 refine oL (lD row73 rfl rfl rfl rfl rfl) rfl rfl ?_
 refine oL (lT rfl Tryz.underlying73 rfl) rfl rfl ?_
 refine oL (lF fi76_4 rfl rfl rfl rfl rfl) rfl rfl ?_
 refine oL (lD row73 rfl rfl rfl rfl rfl) rfl rfl ?_
 refine oL (lT rfl Tryz.underlying73 rfl) rfl rfl ?_
 refine oL (LOp.neSame rfl rfl) rfl rfl ?_
 refine oL (lK rfl rfl rfl) rfl rfl ?_
 refine oL (lM (a:=.v _) rfl) rfl rfl ?_
 refine oL (lF fi76_5 rfl rfl rfl rfl rfl) rfl rfl ?_
 refine oL (lD row74 rfl rfl rfl rfl rfl) rfl rfl ?_
 refine oL (lF fi76_5 rfl rfl rfl rfl rfl) rfl rfl ?_
 refine oL (lD row74 rfl rfl rfl rfl rfl) rfl rfl ?_
 refine oL (LOp.call bod61 rfl (pairs_p c.same hc.same)) rfl rfl ?_
 refine oL (lP rfl (fun _ _=>nofun) (fun _=>rfl)) rfl rfl ?_
 refine oL (lK rfl rfl rfl) rfl rfl ?_
 refine oL (lM (a:=.v _) rfl) rfl rfl ?_
 refine oL (lF fi76_6 rfl rfl rfl rfl rfl) rfl rfl ?_
 refine oL (lD row74 rfl rfl rfl rfl rfl) rfl rfl ?_
 refine oL (lF fi76_6 rfl rfl rfl rfl rfl) rfl rfl ?_
 refine oL (lD row74 rfl rfl rfl rfl rfl) rfl rfl ?_
 refine oL (LOp.call bod61 rfl (pairs_p c.diff hc.diff)) rfl rfl ?_
 refine oL (lP rfl (fun _ _=>nofun) (fun _=>rfl)) rfl rfl ?_
 refine oL (lK rfl rfl rfl) rfl rfl ?_
 refine oN (aN ?_)
 refine AWP.condF rfl ?_
 refine wK (aN (wS (wS (wR ?_))))
 refine oL (lA (a:=.v _) rfl) rfl rfl ?_
 refine oN (aN (wB ?_))
 refine wL (fun n s=>∃ k:Nat,n=(c.aux.length - k)∧s=⟨fL [(2,.ptr 0 0 0),(3,.ptr 1 0 0),(5,.v (.int .i64 ((k:Nat):Int)))],hLz [(0,⟨0,clA c,0,false⟩),(1,⟨0,clA c,0,false⟩)],2⟩∧(k≤c.aux.length∧∀ j,j < k→(fun _=>true) j=true)) (n:=(c.aux.length - 0)) (s1:=⟨fL [(2,.ptr 0 0 0),(3,.ptr 1 0 0),(5,.v (.int .i64 ((0:Nat):Int)))],hLz [(0,⟨0,clA c,0,false⟩),(1,⟨0,clA c,0,false⟩)],2⟩) (cO (.cons rfl rfl (.cons rfl rfl (.cons rfl rfl .nil))) (.cons rfl rfl rfl (.cons rfl rfl rfl .nil))) ⟨0,rfl,rfl,⟨Nat.zero_le _,fun j h=>absurd h (Nat.not_lt_zero j)⟩⟩ ?_
 rintro n s ⟨k,rfl,rfl,hinv⟩
 obtain ⟨hk,hj⟩:=hinv
 refine wS (wS (wR ?_))
 refine oL (lM (a:=.v _) rfl) rfl rfl ?_
 refine oL (lF fi76_2 rfl rfl rfl rfl rfl) rfl rfl ?_
 refine oL (lD row71 rfl rfl rfl rfl rfl) rfl rfl ?_
 refine oL (lT rfl Tryz.underlying71 rfl) rfl rfl ?_
 refine oL (lP rfl (fun _ _=>nofun) (fun _=>rfl)) rfl rfl ?_
 refine oN (aN ?_)
 refine wC rfl (fun hc71=>?_) (fun hc71=>?_)
 ·skip
  have hlt:k < c.aux.length:=Int.ofNat_lt.1 (of_decide_eq_true hc71)
  refine wK (aN (wS (wB (wS (AWP.regD mixed ?_)))))
  refine qL (lF fi76_2 rfl rfl rfl rfl rfl) rfl rfl ?_
  refine qL (lD row71 rfl rfl rfl rfl rfl) rfl rfl ?_
  refine qL (lM (a:=.v _) rfl) rfl rfl ?_
  refine qL (lI Tryz.underlying71 sz107 rfl rfl (by first | assumption | omega)) rfl rfl ?_
  refine qL (LOp.ldTN row107 rfl rfl) rfl rfl ?_
  refine qL (lF fi76_2 rfl rfl rfl rfl rfl) rfl rfl ?_
  refine qL (lD row71 rfl rfl rfl rfl rfl) rfl rfl ?_
  refine qL (lM (a:=.v _) rfl) rfl rfl ?_
  refine qL (lI Tryz.underlying71 sz107 rfl rfl (by first | assumption | omega)) rfl rfl ?_
  refine qL (LOp.ldTN row107 rfl rfl) rfl rfl ?_
  refine SeqC.nw (LOp.al zr107 rfl) rfl rfl 3 rfl ?_
  refine SeqC.nw (LOp.al zr107 rfl) rfl rfl 4 rfl ?_
  refine SeqC.wr (LOp.st sz107 rfl rfl rfl rfl rfl rfl rfl rfl) rfl rfl rfl ?_
  refine SeqC.wr (LOp.st sz107 rfl rfl rfl rfl rfl rfl rfl rfl) rfl rfl rfl ?_
  refine SeqC.nil ⟨by kernel_rfl,?_⟩
  refine aN (wS (wR ?_))
  refine oL (lF fi107_1 rfl rfl rfl rfl rfl) rfl rfl ?_
  refine oL (lD row2 rfl rfl rfl rfl rfl) rfl rfl ?_
  refine oL (lF fi107_1 rfl rfl rfl rfl rfl) rfl rfl ?_
  refine oL (lD row2 rfl rfl rfl rfl rfl) rfl rfl ?_
  refine oL (LOp.neSame rfl rfl) rfl rfl ?_
  refine oL (lM (a:=.v _) rfl) rfl rfl ?_
  refine oL (lF fi107_2 rfl rfl rfl rfl rfl) rfl rfl ?_
  refine oL (lD row3 rfl rfl rfl rfl rfl) rfl rfl ?_
  refine oL (lF fi107_2 rfl rfl rfl rfl rfl) rfl rfl ?_
  refine oL (lD row3 rfl rfl rfl rfl rfl) rfl rfl ?_
  refine oL (LOp.neSame rfl rfl) rfl rfl ?_
  refine oL (lK rfl rfl rfl) rfl rfl ?_
  refine oL (lM (a:=.v _) rfl) rfl rfl ?_
  refine oL (lF fi107_0 rfl rfl rfl rfl rfl) rfl rfl ?_
  refine oL (LOp.ldN row98 rfl rfl rfl rfl rfl) rfl rfl ?_
  refine oL (lF fi107_0 rfl rfl rfl rfl rfl) rfl rfl ?_
  refine oL (LOp.ldN row98 rfl rfl rfl rfl rfl) rfl rfl ?_
  refine oL (LOp.call bod62 rfl (lin_p c.aux[k].of_ (hc.auxc _ (List.getElem_mem _)))) rfl rfl ?_
  refine oL (lP rfl (fun _ _=>nofun) (fun _=>rfl)) rfl rfl ?_
  refine oL (lK rfl rfl rfl) rfl rfl ?_
  refine oN (aN ?_)
  refine AWP.condF rfl ?_
  refine wK (bN (aN (wR ?_)))
  refine oL (lM (a:=.v _) rfl) rfl rfl ?_
  refine oL (lJ rfl rfl (by omega) (by omega)) rfl rfl ?_
  refine oL (lA (a:=.v _) rfl) rfl rfl ?_
  refine oN (aN ?_)
  refine ⟨(c.aux.length - (k+1)),⟨fL [(2,.ptr 0 0 0),(3,.ptr 1 0 0),(5,.v (.int .i64 (((k+1):Nat):Int)))],hLz [(0,⟨0,clA c,0,false⟩),(1,⟨0,clA c,0,false⟩)],2⟩,by omega,(cO (.cons rfl rfl (.cons rfl rfl (.cons rfl rfl .nil))) (.cons rfl rfl rfl (.cons rfl rfl rfl .nil))),(k+1),rfl,rfl,?_⟩
  refine ⟨by omega,fun j h=>?_⟩
  rcases Nat.lt_succ_iff_lt_or_eq.1 h with h | rfl
  ·exact hj j h
  ·rfl
 ·skip
  refine AWP.exit (aE (aE (bE ?_)))
  refine aN (wS (wS (wR ?_)))
  refine oL (lA (a:=.v _) rfl) rfl rfl ?_
  refine oN (aN (wB ?_))
  refine wL (fun n s=>∃ k2:Nat,n=(c.ints.length - k2)∧s=⟨fL [(2,.ptr 0 0 0),(3,.ptr 1 0 0),(8,.v (.int .i64 ((k2:Nat):Int)))],hLz [(0,⟨0,clA c,0,false⟩),(1,⟨0,clA c,0,false⟩)],2⟩∧(k2≤c.ints.length∧∀ j,j < k2→(fun _=>true) j=true)) (n:=(c.ints.length - 0)) (s1:=⟨fL [(2,.ptr 0 0 0),(3,.ptr 1 0 0),(8,.v (.int .i64 ((0:Nat):Int)))],hLz [(0,⟨0,clA c,0,false⟩),(1,⟨0,clA c,0,false⟩)],2⟩) (cO (.cons rfl rfl (.cons rfl rfl (.cons rfl rfl .nil))) (.cons rfl rfl rfl (.cons rfl rfl rfl .nil))) ⟨0,rfl,rfl,⟨Nat.zero_le _,fun j h=>absurd h (Nat.not_lt_zero j)⟩⟩ ?_
  rintro n s ⟨k2,rfl,rfl,hinv⟩
  obtain ⟨hk,hj⟩:=hinv
  refine wS (wS (wR ?_))
  refine oL (lM (a:=.v _) rfl) rfl rfl ?_
  refine oL (lF fi76_3 rfl rfl rfl rfl rfl) rfl rfl ?_
  refine oL (lD row72 rfl rfl rfl rfl rfl) rfl rfl ?_
  refine oL (lT rfl Tryz.underlying72 rfl) rfl rfl ?_
  refine oL (lP rfl (fun _ _=>nofun) (fun _=>rfl)) rfl rfl ?_
  refine oN (aN ?_)
  refine wC rfl (fun hc108=>?_) (fun hc108=>?_)
  ·skip
   have hlt:k2 < c.ints.length:=Int.ofNat_lt.1 (of_decide_eq_true hc108)
   refine wK (aN (wS (wB (wS (AWP.regD mixed ?_)))))
   refine qL (lF fi76_3 rfl rfl rfl rfl rfl) rfl rfl ?_
   refine qL (lD row72 rfl rfl rfl rfl rfl) rfl rfl ?_
   refine qL (lM (a:=.v _) rfl) rfl rfl ?_
   refine qL (lI Tryz.underlying72 sz100 rfl rfl (by first | assumption | omega)) rfl rfl ?_
   refine qL (LOp.fieldAddrT fi100_1 rfl rfl) rfl rfl ?_
   refine qL (lE row4 rfl rfl) rfl rfl ?_
   refine qL (lF fi76_3 rfl rfl rfl rfl rfl) rfl rfl ?_
   refine qL (lD row72 rfl rfl rfl rfl rfl) rfl rfl ?_
   refine qL (lM (a:=.v _) rfl) rfl rfl ?_
   refine qL (lI Tryz.underlying72 sz100 rfl rfl (by first | assumption | omega)) rfl rfl ?_
   refine qL (LOp.fieldAddrT fi100_1 rfl rfl) rfl rfl ?_
   refine qL (lE row4 rfl rfl) rfl rfl ?_
   refine qL (LOp.neSameB rfl rfl Tryz.underlying4) rfl rfl ?_
   refine qL (lM (a:=.v _) rfl) rfl rfl ?_
   refine qL (lF fi76_3 rfl rfl rfl rfl rfl) rfl rfl ?_
   refine qL (lD row72 rfl rfl rfl rfl rfl) rfl rfl ?_
   refine qL (lM (a:=.v _) rfl) rfl rfl ?_
   refine qL (lI Tryz.underlying72 sz100 rfl rfl (by first | assumption | omega)) rfl rfl ?_
   refine qL (LOp.fieldAddrT fi100_0 rfl rfl) rfl rfl ?_
   refine qL (LOp.ldTN row98 rfl rfl) rfl rfl ?_
   refine qL (lF fi76_3 rfl rfl rfl rfl rfl) rfl rfl ?_
   refine qL (lD row72 rfl rfl rfl rfl rfl) rfl rfl ?_
   refine qL (lM (a:=.v _) rfl) rfl rfl ?_
   refine qL (lI Tryz.underlying72 sz100 rfl rfl (by first | assumption | omega)) rfl rfl ?_
   refine qL (LOp.fieldAddrT fi100_0 rfl rfl) rfl rfl ?_
   refine qL (LOp.ldTN row98 rfl rfl) rfl rfl ?_
   refine qL (LOp.call bod62 rfl (lin_p c.ints[k2].l (hc.intc _ (List.getElem_mem _)))) rfl rfl ?_
   refine qL (lP rfl (fun _ _=>nofun) (fun _=>rfl)) rfl rfl ?_
   refine qL (lK rfl rfl rfl) rfl rfl ?_
   refine SeqC.nil ⟨by kernel_rfl,?_⟩
   refine aN ?_
   refine AWP.condF rfl ?_
   refine wK (bN (aN (wR ?_)))
   refine oL (lM (a:=.v _) rfl) rfl rfl ?_
   refine oL (lJ rfl rfl (by omega) (by omega)) rfl rfl ?_
   refine oL (lA (a:=.v _) rfl) rfl rfl ?_
   refine oN (aN ?_)
   refine ⟨(c.ints.length - (k2+1)),⟨fL [(2,.ptr 0 0 0),(3,.ptr 1 0 0),(8,.v (.int .i64 (((k2+1):Nat):Int)))],hLz [(0,⟨0,clA c,0,false⟩),(1,⟨0,clA c,0,false⟩)],2⟩,by omega,(cO (.cons rfl rfl (.cons rfl rfl (.cons rfl rfl .nil))) (.cons rfl rfl rfl (.cons rfl rfl rfl .nil))),(k2+1),rfl,rfl,?_⟩
   refine ⟨by omega,fun j h=>?_⟩
   rcases Nat.lt_succ_iff_lt_or_eq.1 h with h | rfl
   ·exact hj j h
   ·rfl
  ·skip
   refine AWP.exit (aE (aE (bE ?_)))
   refine aN (wS (wS (wR ?_)))
   refine oL (lA (a:=.v _) rfl) rfl rfl ?_
   refine oN (aN (wB ?_))
   refine wL (fun n s=>∃ k3:Nat,n=(c.tests.length - k3)∧s=⟨fL [(2,.ptr 0 0 0),(3,.ptr 1 0 0),(9,.v (.int .i64 ((k3:Nat):Int)))],hLz [(0,⟨0,clA c,0,false⟩),(1,⟨0,clA c,0,false⟩)],2⟩∧(k3≤c.tests.length∧∀ j,j < k3→(fun _=>true) j=true)) (n:=(c.tests.length - 0)) (s1:=⟨fL [(2,.ptr 0 0 0),(3,.ptr 1 0 0),(9,.v (.int .i64 ((0:Nat):Int)))],hLz [(0,⟨0,clA c,0,false⟩),(1,⟨0,clA c,0,false⟩)],2⟩) (cO (.cons rfl rfl (.cons rfl rfl (.cons rfl rfl .nil))) (.cons rfl rfl rfl (.cons rfl rfl rfl .nil))) ⟨0,rfl,rfl,⟨Nat.zero_le _,fun j h=>absurd h (Nat.not_lt_zero j)⟩⟩ ?_
   rintro n s ⟨k3,rfl,rfl,hinv⟩
   obtain ⟨hk,hj⟩:=hinv
   refine wS (wS (wR ?_))
   refine oL (lM (a:=.v _) rfl) rfl rfl ?_
   refine oL (lF fi76_4 rfl rfl rfl rfl rfl) rfl rfl ?_
   refine oL (lD row73 rfl rfl rfl rfl rfl) rfl rfl ?_
   refine oL (lT rfl Tryz.underlying73 rfl) rfl rfl ?_
   refine oL (lP rfl (fun _ _=>nofun) (fun _=>rfl)) rfl rfl ?_
   refine oN (aN ?_)
   refine wC rfl (fun hc144=>?_) (fun hc144=>?_)
   ·skip
    have hlt:k3 < c.tests.length:=Int.ofNat_lt.1 (of_decide_eq_true hc144)
    refine wK (aN (wS (wB (wS (AWP.regD mixed ?_)))))
    refine qL (lF fi76_4 rfl rfl rfl rfl rfl) rfl rfl ?_
    refine qL (lD row73 rfl rfl rfl rfl rfl) rfl rfl ?_
    refine qL (lM (a:=.v _) rfl) rfl rfl ?_
    refine qL (lI Tryz.underlying73 sz109 rfl rfl (by first | assumption | omega)) rfl rfl ?_
    refine qL (LOp.ldTN row109 rfl rfl) rfl rfl ?_
    refine qL (lF fi76_4 rfl rfl rfl rfl rfl) rfl rfl ?_
    refine qL (lD row73 rfl rfl rfl rfl rfl) rfl rfl ?_
    refine qL (lM (a:=.v _) rfl) rfl rfl ?_
    refine qL (lI Tryz.underlying73 sz109 rfl rfl (by first | assumption | omega)) rfl rfl ?_
    refine qL (LOp.ldTN row109 rfl rfl) rfl rfl ?_
    refine qL (LOp.neAgg (r:=true) rfl rfl rfl rfl eg109 (eq52_run c.tests[k3])) rfl rfl ?_
    refine SeqC.nil ⟨by kernel_rfl,?_⟩
    refine aN ?_
    refine AWP.condF rfl ?_
    refine wK (bN (aN (wR ?_)))
    refine oL (lM (a:=.v _) rfl) rfl rfl ?_
    refine oL (lJ rfl rfl (by omega) (by omega)) rfl rfl ?_
    refine oL (lA (a:=.v _) rfl) rfl rfl ?_
    refine oN (aN ?_)
    refine ⟨(c.tests.length - (k3+1)),⟨fL [(2,.ptr 0 0 0),(3,.ptr 1 0 0),(9,.v (.int .i64 (((k3+1):Nat):Int)))],hLz [(0,⟨0,clA c,0,false⟩),(1,⟨0,clA c,0,false⟩)],2⟩,by omega,(cO (.cons rfl rfl (.cons rfl rfl (.cons rfl rfl .nil))) (.cons rfl rfl rfl (.cons rfl rfl rfl .nil))),(k3+1),rfl,rfl,?_⟩
    refine ⟨by omega,fun j h=>?_⟩
    rcases Nat.lt_succ_iff_lt_or_eq.1 h with h | rfl
    ·exact hj j h
    ·rfl
   ·skip
    refine AWP.exit (aE (aE (bE ?_)))
    refine aN (wS (wR ?_))
    refine oL (lA (a:=.v _) rfl) rfl rfl ?_
    refine oN (aN ?_)
    refine wT (?_)
    refine ⟨.inr rfl,oV Tryz.results30 rfl rfl ?_⟩
    rfl
end Go.Proofs.YtfelpgeolclnbaaGreatDoor
namespace Go.Proofs.YtfelpgeolclnbaaGreatDoor
set_option linter.unusedVariables false
set_option linter.unusedSimpArgs false
open Go.RowKit
def fewP (p:PPred):Bool:=!(decide ((p.vars.length:Int) > 6)||decide ((p.cls.length:Int) > 6))&&allN p.cls.length (fun j=>fewB (p.cls.getD j default))
def sameP (p q:PPred) (j:Nat):Bool:=eqVB (p.vars.getD j default) (q.vars.getD j default)
def compB (p q:PPred):Bool:=fewP p&&fewP q&&refB p p.cols&&refB q q.cols&&(!(p.tab==q.tab)||(p.cols==q.cols&&allN p.cols.toNat (sameP p q)))
theorem fewP_ok {p:PPred} (h:fewP p=true):p.Ok∧p.vars.length≤6∧p.cls.length≤6:=by
 unfold fewP at h
 simp only [Bool.and_eq_true,Bool.not_eq_true',Bool.or_eq_false_iff,decide_eq_false_iff_not] at h
 refine ⟨⟨by omega,by omega,fun c hc=>?_⟩,by omega,by omega⟩
 obtain ⟨j,hj,rfl⟩:=List.getElem_of_mem hc
 have:=allN_iff.1 h.2 j hj
 simp only [getD_at hj] at this
 exact few_ok this
theorem ref_cols {p:PPred} {n:Int} (h:refB p n=true):p.cols=n∧1≤n∧n≤p.vars.length:=by
 unfold refB badP at h
 simp only [Bool.and_eq_true,Bool.not_eq_true',Bool.or_eq_false_iff,decide_eq_false_iff_not,bne_eq_false_iff_eq] at h
 omega
theorem bod21:bodied Tryz.prog 21=true:=by kernel_rfl
theorem bod7:bodied Tryz.prog 7=true:=by kernel_rfl
theorem bod6:bodied Tryz.prog 6=true:=by kernel_rfl
theorem row37:rowOf Tryz.prog 37=some (some 4):=by kernel_rfl
set_option maxRecDepth 100000 in
set_option maxHeartbeats 4000000 in
theorem fewp_p (p:PPred) (hp:p.Fits):PCall Tryz.prog 6 [.agg (prA p)] (.v (.bool (fewP p))):=by
 have q1:=hp.vars
 have q2:=hp.cls
 refine pB Tryz.func6 rfl Tryz.ntmps6 (Nat.le_of_ble_eq_true rfl) ?_
 refine wS (wR ?_)
 refine oW (LOp.bx rfl) rfl rfl 1 rfl ?_
 refine oL (lA (a:=.v _) rfl) rfl rfl ?_
 refine oN (aN (wS (wS (wR ?_))))
 refine oL (lF fi37_2 rfl rfl rfl rfl rfl) rfl rfl ?_
 refine oL (lD row34 rfl rfl rfl rfl rfl) rfl rfl ?_
 refine oL (lT rfl Tryz.underlying34 rfl) rfl rfl ?_
 refine oL (lP rfl (fun _ _=>nofun) (fun _=>rfl)) rfl rfl ?_
 refine oL (lM (a:=.v _) rfl) rfl rfl ?_
 refine oB 8 rfl (fun hg8=>?_) (fun hg8=>?_)
 ·skip
  refine oS rfl rfl ?_
  refine oS rfl rfl ?_
  refine oS rfl rfl ?_
  refine oS rfl rfl ?_
  refine oL (LOp.pkT (a:=.v _) rfl (by first | rfl | assumption) rfl) rfl rfl ?_
  refine oN (aN ?_)
  refine AWP.condT rfl ?_
  refine wS (wR ?_)
  refine oL (lA (a:=.v _) rfl) rfl rfl ?_
  refine oN (aN ?_)
  refine wT (aR (?_))
  refine ⟨.inr rfl,oV Tryz.results6 rfl rfl ?_⟩
  (refine vb_eq ?_; unfold fewP; simp_all; done)
 ·skip
  refine oL (lF fi37_3 rfl rfl rfl rfl rfl) rfl rfl ?_
  refine oL (lD row35 rfl rfl rfl rfl rfl) rfl rfl ?_
  refine oL (lT rfl Tryz.underlying35 rfl) rfl rfl ?_
  refine oL (lP rfl (fun _ _=>nofun) (fun _=>rfl)) rfl rfl ?_
  refine oL (lK rfl rfl rfl) rfl rfl ?_
  refine oN (aN ?_)
  refine wC rfl (fun hc13=>?_) (fun hc13=>?_)
  ·skip
   refine wS (wR ?_)
   refine oL (lA (a:=.v _) rfl) rfl rfl ?_
   refine oN (aN ?_)
   refine wT (aR (?_))
   refine ⟨.inr rfl,oV Tryz.results6 rfl rfl ?_⟩
   (refine vb_eq ?_; unfold fewP; simp_all; done)
  ·skip
   refine wK (aN (wS (wS (wR ?_))))
   refine oL (lA (a:=.v _) rfl) rfl rfl ?_
   refine oN (aN (wB ?_))
   refine wL (fun n s=>∃ k:Nat,n=(p.cls.length - k)∧s=⟨fL [(1,.ptr 0 0 0),(3,.v (.int .i64 ((k:Nat):Int)))],hLz [(0,⟨0,prA p,0,false⟩)],1⟩∧(k≤p.cls.length∧∀ j,j < k→(fun j=>fewB (p.cls.getD j default)) j=true)) (n:=(p.cls.length - 0)) (s1:=⟨fL [(1,.ptr 0 0 0),(3,.v (.int .i64 ((0:Nat):Int)))],hLz [(0,⟨0,prA p,0,false⟩)],1⟩) (cO (.cons rfl rfl (.cons rfl rfl .nil)) (.cons rfl rfl rfl .nil)) ⟨0,rfl,rfl,⟨Nat.zero_le _,fun j h=>absurd h (Nat.not_lt_zero j)⟩⟩ ?_
   rintro n s ⟨k,rfl,rfl,hinv⟩
   obtain ⟨hk,hj⟩:=hinv
   refine wS (wS (wR ?_))
   refine oL (lM (a:=.v _) rfl) rfl rfl ?_
   refine oL (lF fi37_3 rfl rfl rfl rfl rfl) rfl rfl ?_
   refine oL (lD row35 rfl rfl rfl rfl rfl) rfl rfl ?_
   refine oL (lT rfl Tryz.underlying35 rfl) rfl rfl ?_
   refine oL (lP rfl (fun _ _=>nofun) (fun _=>rfl)) rfl rfl ?_
   refine oN (aN ?_)
   refine wC rfl (fun hc18=>?_) (fun hc18=>?_)
   ·skip
    have hlt:k < p.cls.length:=Int.ofNat_lt.1 (of_decide_eq_true hc18)
    refine wK (aN (wS (wB (wS (wR ?_)))))
    refine oL (lF fi37_3 rfl rfl rfl rfl rfl) rfl rfl ?_
    refine oL (lD row35 rfl rfl rfl rfl rfl) rfl rfl ?_
    refine oL (lM (a:=.v _) rfl) rfl rfl ?_
    refine oL (lI Tryz.underlying35 sz76 rfl rfl (by first | assumption | omega)) rfl rfl ?_
    refine oL (LOp.ldTN row76 rfl rfl) rfl rfl ?_
    refine oL (LOp.call bod21 rfl (few_p p.cls[k] (hp.each _ (List.getElem_mem _)))) rfl rfl ?_
    refine oL (lP rfl (fun _ _=>nofun) (fun _=>rfl)) rfl rfl ?_
    refine oN (aN ?_)
    refine wC rfl (fun hc27=>?_) (fun hc27=>?_)
    ·skip
     refine wS (wR ?_)
     refine oL (lA (a:=.v _) rfl) rfl rfl ?_
     refine oN (aN ?_)
     refine wT (bR (aR (aR (bR (aR (?_))))))
     refine ⟨.inr rfl,oV Tryz.results6 rfl rfl ?_⟩
     (refine vb_eq ?_; unfold fewP; rw [allN_hit hlt (by show fewB (p.cls.getD _ default)=false; rw [getD_at hlt]; simpa using hc27)]; simp; done)
    ·skip
     refine wK (bN (aN (wR ?_)))
     refine oL (lM (a:=.v _) rfl) rfl rfl ?_
     refine oL (lJ rfl rfl (by omega) (by omega)) rfl rfl ?_
     refine oL (lA (a:=.v _) rfl) rfl rfl ?_
     refine oN (aN ?_)
     refine ⟨(p.cls.length - (k+1)),⟨fL [(1,.ptr 0 0 0),(3,.v (.int .i64 (((k+1):Nat):Int)))],hLz [(0,⟨0,prA p,0,false⟩)],1⟩,by omega,(cO (.cons rfl rfl (.cons rfl rfl .nil)) (.cons rfl rfl rfl .nil)),(k+1),rfl,rfl,?_⟩
     refine ⟨by omega,fun j h=>?_⟩
     rcases Nat.lt_succ_iff_lt_or_eq.1 h with h | rfl
     ·exact hj j h
     ·show fewB (p.cls.getD _ default)=true
      rw [getD_at hlt]; simpa using hc27
   ·skip
    have hge:¬ k < p.cls.length:=fun h=>of_decide_eq_false hc18 (Int.ofNat_lt.2 h)
    refine AWP.exit (aE (aE (bE ?_)))
    refine aN (wS (wR ?_))
    refine oL (lA (a:=.v _) rfl) rfl rfl ?_
    refine oN (aN ?_)
    refine wT (?_)
    refine ⟨.inr rfl,oV Tryz.results6 rfl rfl ?_⟩
    (refine vb_eq ?_; unfold fewP; rw [allN_end hk hge hj]; simp_all; done)
set_option maxRecDepth 100000 in
set_option maxHeartbeats 4000000 in
theorem comp_p (p q:PPred) (hp:p.Fits) (hq:q.Fits):PCall Tryz.prog 8 [.agg (prA p),.agg (prA q)] (.v (.bool (compB p q))):=by
 refine pB Tryz.func8 rfl Tryz.ntmps8 (Nat.le_of_ble_eq_true rfl) ?_
 refine wS (wR ?_)
 refine oW (LOp.bx rfl) rfl rfl 1 rfl ?_
 refine oW (LOp.bx rfl) rfl rfl 2 rfl ?_
 refine oL (lA (a:=.v _) rfl) rfl rfl ?_
 refine oN (aN (wS (wS (wR ?_))))
 refine oL (LOp.ldN row37 rfl rfl rfl rfl rfl) rfl rfl ?_
 refine oL (LOp.call bod6 rfl (fewp_p p hp)) rfl rfl ?_
 refine oL (lP rfl (fun _ _=>nofun) (fun _=>rfl)) rfl rfl ?_
 refine oL (lM (a:=.v _) rfl) rfl rfl ?_
 refine oB 9 rfl (fun hg9=>?_) (fun hg9=>?_)
 ·skip
  refine oS rfl rfl ?_
  refine oS rfl rfl ?_
  refine oS rfl rfl ?_
  refine oL (LOp.pkT (a:=.v _) rfl (by first | rfl | assumption) rfl) rfl rfl ?_
  refine oL (lM (a:=.v _) rfl) rfl rfl ?_
  refine oS rfl rfl ?_
  refine oS rfl rfl ?_
  refine oS rfl rfl ?_
  refine oS rfl rfl ?_
  refine oS rfl rfl ?_
  refine oL (LOp.pkT (a:=.v _) rfl (by first | rfl | assumption) rfl) rfl rfl ?_
  refine oL (lM (a:=.v _) rfl) rfl rfl ?_
  refine oS rfl rfl ?_
  refine oS rfl rfl ?_
  refine oS rfl rfl ?_
  refine oS rfl rfl ?_
  refine oS rfl rfl ?_
  refine oL (LOp.pkT (a:=.v _) rfl (by first | rfl | assumption) rfl) rfl rfl ?_
  refine oN (aN ?_)
  refine AWP.condT rfl ?_
  refine wS (wR ?_)
  refine oL (lA (a:=.v _) rfl) rfl rfl ?_
  refine oN (aN ?_)
  refine wT (aR (?_))
  refine ⟨.inr rfl,oV Tryz.results8 rfl rfl ?_⟩
  (refine vb_eq ?_; unfold compB; simp_all; done)
 ·skip
  have hokp:=(fewP_ok (p:=p) (by simpa using hg9))
  refine oL (LOp.ldN row37 rfl rfl rfl rfl rfl) rfl rfl ?_
  refine oL (LOp.call bod6 rfl (fewp_p q hq)) rfl rfl ?_
  refine oL (lP rfl (fun _ _=>nofun) (fun _=>rfl)) rfl rfl ?_
  refine oL (lK rfl rfl rfl) rfl rfl ?_
  refine oL (lM (a:=.v _) rfl) rfl rfl ?_
  refine oB 14 rfl (fun hg14=>?_) (fun hg14=>?_)
  ·skip
   refine oS rfl rfl ?_
   refine oS rfl rfl ?_
   refine oS rfl rfl ?_
   refine oS rfl rfl ?_
   refine oS rfl rfl ?_
   refine oL (LOp.pkT (a:=.v _) rfl (by first | rfl | assumption) rfl) rfl rfl ?_
   refine oL (lM (a:=.v _) rfl) rfl rfl ?_
   refine oS rfl rfl ?_
   refine oS rfl rfl ?_
   refine oS rfl rfl ?_
   refine oS rfl rfl ?_
   refine oS rfl rfl ?_
   refine oL (LOp.pkT (a:=.v _) rfl (by first | rfl | assumption) rfl) rfl rfl ?_
   refine oN (aN ?_)
   refine AWP.condT rfl ?_
   refine wS (wR ?_)
   refine oL (lA (a:=.v _) rfl) rfl rfl ?_
   refine oN (aN ?_)
   refine wT (aR (?_))
   refine ⟨.inr rfl,oV Tryz.results8 rfl rfl ?_⟩
   (refine vb_eq ?_; unfold compB; simp_all; done)
  ·skip
   have hokq:=(fewP_ok (p:=q) (by simpa using hg14))
   refine oL (LOp.ldN row37 rfl rfl rfl rfl rfl) rfl rfl ?_
   refine oL (lF fi37_1 rfl rfl rfl rfl rfl) rfl rfl ?_
   refine oL (lD row3 rfl rfl rfl rfl rfl) rfl rfl ?_
   refine oL (LOp.call bod7 rfl (ref_p p p.cols hokp.1)) rfl rfl ?_
   refine oL (lP rfl (fun _ _=>nofun) (fun _=>rfl)) rfl rfl ?_
   refine oL (lK rfl rfl rfl) rfl rfl ?_
   refine oL (lM (a:=.v _) rfl) rfl rfl ?_
   refine oB 21 rfl (fun hg21=>?_) (fun hg21=>?_)
   ·skip
    refine oS rfl rfl ?_
    refine oS rfl rfl ?_
    refine oS rfl rfl ?_
    refine oS rfl rfl ?_
    refine oS rfl rfl ?_
    refine oL (LOp.pkT (a:=.v _) rfl (by first | rfl | assumption) rfl) rfl rfl ?_
    refine oN (aN ?_)
    refine AWP.condT rfl ?_
    refine wS (wR ?_)
    refine oL (lA (a:=.v _) rfl) rfl rfl ?_
    refine oN (aN ?_)
    refine wT (aR (?_))
    refine ⟨.inr rfl,oV Tryz.results8 rfl rfl ?_⟩
    (refine vb_eq ?_; unfold compB; simp_all; done)
   ·skip
    have hrp:refB p p.cols=true:=by simpa using hg21
    refine oL (LOp.ldN row37 rfl rfl rfl rfl rfl) rfl rfl ?_
    refine oL (lF fi37_1 rfl rfl rfl rfl rfl) rfl rfl ?_
    refine oL (lD row3 rfl rfl rfl rfl rfl) rfl rfl ?_
    refine oL (LOp.call bod7 rfl (ref_p q q.cols hokq.1)) rfl rfl ?_
    refine oL (lP rfl (fun _ _=>nofun) (fun _=>rfl)) rfl rfl ?_
    refine oL (lK rfl rfl rfl) rfl rfl ?_
    refine oN (aN ?_)
    refine wC rfl (fun hc27=>?_) (fun hc27=>?_)
    ·skip
     refine wS (wR ?_)
     refine oL (lA (a:=.v _) rfl) rfl rfl ?_
     refine oN (aN ?_)
     refine wT (aR (?_))
     refine ⟨.inr rfl,oV Tryz.results8 rfl rfl ?_⟩
     (refine vb_eq ?_; unfold compB; simp_all; done)
    ·skip
     have hrq:refB q q.cols=true:=by simpa using hc27
     obtain ⟨_,hp1,hp2⟩:=ref_cols hrp
     obtain ⟨_,hq1,hq2⟩:=ref_cols hrq
     refine wK (aN (wS (wS (wR ?_))))
     refine oL (lF fi37_0 rfl rfl rfl rfl rfl) rfl rfl ?_
     refine oL (lD row3 rfl rfl rfl rfl rfl) rfl rfl ?_
     refine oL (lF fi37_0 rfl rfl rfl rfl rfl) rfl rfl ?_
     refine oL (lD row3 rfl rfl rfl rfl rfl) rfl rfl ?_
     refine oL (lP rfl (fun _ _=>nofun) (fun _=>rfl)) rfl rfl ?_
     refine oN (aN ?_)
     refine wC rfl (fun hc32=>?_) (fun hc32=>?_)
     ·skip
      refine wS (wR ?_)
      refine oL (lA (a:=.v _) rfl) rfl rfl ?_
      refine oN (aN ?_)
      refine wT (aR (?_))
      refine ⟨.inr rfl,oV Tryz.results8 rfl rfl ?_⟩
      (refine vb_eq ?_; unfold compB; simp_all; done)
     ·skip
      refine wK (aN (wS (wS (wR ?_))))
      refine oL (lF fi37_1 rfl rfl rfl rfl rfl) rfl rfl ?_
      refine oL (lD row3 rfl rfl rfl rfl rfl) rfl rfl ?_
      refine oL (lF fi37_1 rfl rfl rfl rfl rfl) rfl rfl ?_
      refine oL (lD row3 rfl rfl rfl rfl rfl) rfl rfl ?_
      refine oL (lP rfl (fun _ _=>nofun) (fun _=>rfl)) rfl rfl ?_
      refine oN (aN ?_)
      refine wC rfl (fun hc37=>?_) (fun hc37=>?_)
      ·skip
       refine wS (wR ?_)
       refine oL (lA (a:=.v _) rfl) rfl rfl ?_
       refine oN (aN ?_)
       refine wT (aR (?_))
       refine ⟨.inr rfl,oV Tryz.results8 rfl rfl ?_⟩
       (refine vb_eq ?_; unfold compB; simp_all; done)
      ·skip
       have hcq:p.cols=q.cols:=by simpa using hc37
       obtain ⟨m,hm⟩:∃ m:Nat,p.cols=((m:Nat):Int):=⟨p.cols.toNat,by omega⟩
       have hmp:m≤p.vars.length:=by omega
       have hmq:m≤q.vars.length:=by omega
       refine wK (aN (wS (wS (wR ?_))))
       refine oL (lA (a:=.v _) rfl) rfl rfl ?_
       refine oN (aN (wB ?_))
       refine wL (fun n s=>∃ k:Nat,n=(m - k)∧s=⟨fL [(2,.ptr 0 0 0),(3,.ptr 1 0 0),(5,.v (.int .i64 ((k:Nat):Int)))],hLz [(0,⟨0,prA p,0,false⟩),(1,⟨0,prA q,0,false⟩)],2⟩∧(k≤m∧∀ j,j < k→(sameP p q) j=true)) (n:=(m - 0)) (s1:=⟨fL [(2,.ptr 0 0 0),(3,.ptr 1 0 0),(5,.v (.int .i64 ((0:Nat):Int)))],hLz [(0,⟨0,prA p,0,false⟩),(1,⟨0,prA q,0,false⟩)],2⟩) (cO (.cons rfl rfl (.cons rfl rfl (.cons rfl rfl .nil))) (.cons rfl rfl rfl (.cons rfl rfl rfl .nil))) ⟨0,rfl,rfl,⟨Nat.zero_le _,fun j h=>absurd h (Nat.not_lt_zero j)⟩⟩ ?_
       rintro n s ⟨k,rfl,rfl,hinv⟩
       obtain ⟨hk,hj⟩:=hinv
       refine wS (wS (wR ?_))
       refine oL (lM (a:=.v _) rfl) rfl rfl ?_
       refine oL (lF fi37_1 rfl rfl rfl rfl rfl) rfl rfl ?_
       refine oL (lD row3 rfl rfl rfl rfl rfl) rfl rfl ?_
       refine oL (lP rfl (fun _ _=>nofun) (fun _=>rfl)) rfl rfl ?_
       refine oN (aN ?_)
       refine wC rfl (fun hc41=>?_) (fun hc41=>?_)
       ·skip
        have hlt:k < m:=by have:=of_decide_eq_true hc41; omega
        have hlp:k < p.vars.length:=by omega
        have hlq:k < q.vars.length:=by omega
        refine wK (aN (wS (wB (wS (AWP.regD mixed ?_)))))
        refine qL (lF fi37_2 rfl rfl rfl rfl rfl) rfl rfl ?_
        refine qL (lD row34 rfl rfl rfl rfl rfl) rfl rfl ?_
        refine qL (lM (a:=.v _) rfl) rfl rfl ?_
        refine qL (lI Tryz.underlying34 sz80 rfl rfl (by first | assumption | omega)) rfl rfl ?_
        refine qL (LOp.ldTN row80 rfl rfl) rfl rfl ?_
        refine qL (lF fi37_2 rfl rfl rfl rfl rfl) rfl rfl ?_
        refine qL (lD row34 rfl rfl rfl rfl rfl) rfl rfl ?_
        refine qL (lM (a:=.v _) rfl) rfl rfl ?_
        refine qL (lI Tryz.underlying34 sz80 rfl rfl (by first | assumption | omega)) rfl rfl ?_
        refine qL (LOp.ldTN row80 rfl rfl) rfl rfl ?_
        refine qL (LOp.neAgg (r:=eqVB p.vars[k] q.vars[k]) rfl rfl rfl rfl eg80 (fun w=>eq44_run p.vars[k] q.vars[k] w)) rfl rfl ?_
        refine SeqC.nil ⟨by kernel_rfl,?_⟩
        refine aN ?_
        refine wC rfl (fun hc54=>?_) (fun hc54=>?_)
        ·skip
         refine wS (wR ?_)
         refine oL (lA (a:=.v _) rfl) rfl rfl ?_
         refine oN (aN ?_)
         refine wT (bR (aR (aR (bR (aR (?_))))))
         refine ⟨.inr rfl,oV Tryz.results8 rfl rfl ?_⟩
         (refine vb_eq ?_; unfold compB; rw [hm,Int.toNat_natCast,allN_hit hlt (by unfold sameP; rw [getD_at hlp,getD_at hlq]; simpa using hc54)]; simp_all; done)
        ·skip
         refine wK (bN (aN (wR ?_)))
         refine oL (lM (a:=.v _) rfl) rfl rfl ?_
         refine oL (lJ rfl rfl (by omega) (by omega)) rfl rfl ?_
         refine oL (lA (a:=.v _) rfl) rfl rfl ?_
         refine oN (aN ?_)
         refine ⟨(m - (k+1)),⟨fL [(2,.ptr 0 0 0),(3,.ptr 1 0 0),(5,.v (.int .i64 (((k+1):Nat):Int)))],hLz [(0,⟨0,prA p,0,false⟩),(1,⟨0,prA q,0,false⟩)],2⟩,by omega,(cO (.cons rfl rfl (.cons rfl rfl (.cons rfl rfl .nil))) (.cons rfl rfl rfl (.cons rfl rfl rfl .nil))),(k+1),rfl,rfl,?_⟩
         refine ⟨by omega,fun j h=>?_⟩
         rcases Nat.lt_succ_iff_lt_or_eq.1 h with h | rfl
         ·exact hj j h
         ·show sameP p q _=true
          unfold sameP
          rw [getD_at hlp,getD_at hlq]; simpa using hc54
       ·skip
        have hge:¬ k < m:=by have:=of_decide_eq_false hc41; omega
        refine AWP.exit (aE (aE (bE ?_)))
        refine aN (wS (wR ?_))
        refine oL (lA (a:=.v _) rfl) rfl rfl ?_
        refine oN (aN ?_)
        refine wT (?_)
        refine ⟨.inr rfl,oV Tryz.results8 rfl rfl ?_⟩
        (refine vb_eq ?_; unfold compB; rw [hm,Int.toNat_natCast,allN_end hk hge hj]; simp_all; done)
end Go.Proofs.YtfelpgeolclnbaaGreatDoor
