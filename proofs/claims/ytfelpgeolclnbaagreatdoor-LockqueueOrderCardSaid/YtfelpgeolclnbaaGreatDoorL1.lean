/- Texts of the claim. -/
import Derived.Test.YtfelpgeolclnbaaGreatDoorQ1
import Derived.Test.YtfelpgeolclnbaaGreatDoorV3
namespace Go.Proofs
open Go.Shelf
def Tryz.cloAccess_ren:Go.Shelf.Ren:=⟨fun | 41=>51 | n=>n,fun | 22=>31 | 23=>39 | 4=>4 | n=>n,fun | n=>n⟩
theorem Tryz.cloAccess:Go.Proofs.SlLaysE0.n41 Tryz.prog Tryz.cloAccess_ren:={
 mixed:=by kernel_rfl
 f41:=⟨Tryz.f51.name,by decide,Tryz.func51.trans (congrArg some (by kernel_rfl))⟩
 t4:=Tryz.underlying4
 a4:=Tryz.isAgg4
 z4:=Tryz.sizeOf4
 v4:=Tryz.zeroValue4
 t22:=Tryz.underlying31
 a22:=Tryz.isAgg31
 z22:=Tryz.sizeOf31
 v22:=Tryz.zeroValue31 }
def Tryz.cloVariable_ren:Go.Shelf.Ren:=⟨fun | 41=>52 | n=>n,fun | 22=>34 | 23=>80 | 4=>4 | n=>n,fun | n=>n⟩
theorem Tryz.cloVariable:Go.Proofs.SlLaysE0.n41 Tryz.prog Tryz.cloVariable_ren:={
 mixed:=by kernel_rfl
 f41:=⟨Tryz.f52.name,by decide,Tryz.func52.trans (congrArg some (by kernel_rfl))⟩
 t4:=Tryz.underlying4
 a4:=Tryz.isAgg4
 z4:=Tryz.sizeOf4
 v4:=Tryz.zeroValue4
 t22:=Tryz.underlying34
 a22:=Tryz.isAgg34
 z22:=Tryz.sizeOf34
 v22:=Tryz.zeroValue34 }
def Tryz.cloClause_ren:Go.Shelf.Ren:=⟨fun | 41=>53 | n=>n,fun | 22=>35 | 23=>76 | 4=>4 | n=>n,fun | n=>n⟩
theorem Tryz.cloClause:Go.Proofs.SlLaysE0.n41 Tryz.prog Tryz.cloClause_ren:={
 mixed:=by kernel_rfl
 f41:=⟨Tryz.f53.name,by decide,Tryz.func53.trans (congrArg some (by kernel_rfl))⟩
 t4:=Tryz.underlying4
 a4:=Tryz.isAgg4
 z4:=Tryz.sizeOf4
 v4:=Tryz.zeroValue4
 t22:=Tryz.underlying35
 a22:=Tryz.isAgg35
 z22:=Tryz.sizeOf35
 v22:=Tryz.zeroValue35 }
def Tryz.cloInt_ren:Go.Shelf.Ren:=⟨fun | 41=>54 | n=>n,fun | 22=>70 | 23=>3 | 4=>4 | n=>n,fun | n=>n⟩
theorem Tryz.cloInt:Go.Proofs.SlLaysE0.n41 Tryz.prog Tryz.cloInt_ren:={
 mixed:=by kernel_rfl
 f41:=⟨Tryz.f54.name,by decide,Tryz.func54.trans (congrArg some (by kernel_rfl))⟩
 t4:=Tryz.underlying4
 a4:=Tryz.isAgg4
 z4:=Tryz.sizeOf4
 v4:=Tryz.zeroValue4
 t22:=Tryz.underlying70
 a22:=Tryz.isAgg70
 z22:=Tryz.sizeOf70
 v22:=Tryz.zeroValue70 }
def Tryz.cloTest_ren:Go.Shelf.Ren:=⟨fun | 41=>55 | n=>n,fun | 22=>73 | 23=>109 | 4=>4 | n=>n,fun | n=>n⟩
theorem Tryz.cloTest:Go.Proofs.SlLaysE0.n41 Tryz.prog Tryz.cloTest_ren:={
 mixed:=by kernel_rfl
 f41:=⟨Tryz.f55.name,by decide,Tryz.func55.trans (congrArg some (by kernel_rfl))⟩
 t4:=Tryz.underlying4
 a4:=Tryz.isAgg4
 z4:=Tryz.sizeOf4
 v4:=Tryz.zeroValue4
 t22:=Tryz.underlying73
 a22:=Tryz.isAgg73
 z22:=Tryz.sizeOf73
 v22:=Tryz.zeroValue73 }
def Tryz.cloPair_ren:Go.Shelf.Ren:=⟨fun | 41=>56 | n=>n,fun | 22=>74 | 23=>128 | 4=>4 | n=>n,fun | n=>n⟩
theorem Tryz.cloPair:Go.Proofs.SlLaysE0.n41 Tryz.prog Tryz.cloPair_ren:={
 mixed:=by kernel_rfl
 f41:=⟨Tryz.f56.name,by decide,Tryz.func56.trans (congrArg some (by kernel_rfl))⟩
 t4:=Tryz.underlying4
 a4:=Tryz.isAgg4
 z4:=Tryz.sizeOf4
 v4:=Tryz.zeroValue4
 t22:=Tryz.underlying74
 a22:=Tryz.isAgg74
 z22:=Tryz.sizeOf74
 v22:=Tryz.zeroValue74 }
def Tryz.cloAux_ren:Go.Shelf.Ren:=⟨fun | 41=>57 | n=>n,fun | 22=>71 | 23=>107 | 4=>4 | n=>n,fun | n=>n⟩
theorem Tryz.cloAux:Go.Proofs.SlLaysE0.n41 Tryz.prog Tryz.cloAux_ren:={
 mixed:=by kernel_rfl
 f41:=⟨Tryz.f57.name,by decide,Tryz.func57.trans (congrArg some (by kernel_rfl))⟩
 t4:=Tryz.underlying4
 a4:=Tryz.isAgg4
 z4:=Tryz.sizeOf4
 v4:=Tryz.zeroValue4
 t22:=Tryz.underlying71
 a22:=Tryz.isAgg71
 z22:=Tryz.sizeOf71
 v22:=Tryz.zeroValue71 }
def Tryz.cloCon_ren:Go.Shelf.Ren:=⟨fun | 41=>58 | n=>n,fun | 22=>72 | 23=>100 | 4=>4 | n=>n,fun | n=>n⟩
theorem Tryz.cloCon:Go.Proofs.SlLaysE0.n41 Tryz.prog Tryz.cloCon_ren:={
 mixed:=by kernel_rfl
 f41:=⟨Tryz.f58.name,by decide,Tryz.func58.trans (congrArg some (by kernel_rfl))⟩
 t4:=Tryz.underlying4
 a4:=Tryz.isAgg4
 z4:=Tryz.sizeOf4
 v4:=Tryz.zeroValue4
 t22:=Tryz.underlying72
 a22:=Tryz.isAgg72
 z22:=Tryz.sizeOf72
 v22:=Tryz.zeroValue72 }
def Tryz.cloCoef_ren:Go.Shelf.Ren:=⟨fun | 41=>59 | n=>n,fun | 22=>96 | 23=>95 | 4=>4 | n=>n,fun | n=>n⟩
theorem Tryz.cloCoef:Go.Proofs.SlLaysE0.n41 Tryz.prog Tryz.cloCoef_ren:={
 mixed:=by kernel_rfl
 f41:=⟨Tryz.f59.name,by decide,Tryz.func59.trans (congrArg some (by kernel_rfl))⟩
 t4:=Tryz.underlying4
 a4:=Tryz.isAgg4
 z4:=Tryz.sizeOf4
 v4:=Tryz.zeroValue4
 t22:=Tryz.underlying96
 a22:=Tryz.isAgg96
 z22:=Tryz.sizeOf96
 v22:=Tryz.zeroValue96 }
end Go.Proofs
namespace Go.Proofs.YtfelpgeolclnbaaGreatDoor
open Go.Shelf
theorem cl_Access:CloneL Tryz.prog 51 5:=⟨⟨Tryz.cloAccess_ren,Tryz.t39,_,_,rfl,Tryz.cloAccess,by kernel_rfl,rfl,rfl,rfl,rfl,Tryz.sizeOf39,by decide⟩,by decide⟩
theorem cl_Variable:CloneL Tryz.prog 52 5:=⟨⟨Tryz.cloVariable_ren,Tryz.t80,_,_,rfl,Tryz.cloVariable,by kernel_rfl,rfl,rfl,rfl,rfl,Tryz.sizeOf80,by decide⟩,by decide⟩
theorem cl_Clause:CloneL Tryz.prog 53 7:=⟨⟨Tryz.cloClause_ren,Tryz.t76,_,_,rfl,Tryz.cloClause,by kernel_rfl,rfl,rfl,rfl,rfl,Tryz.sizeOf76,by decide⟩,by decide⟩
theorem cl_Int:CloneL Tryz.prog 54 1:=⟨⟨Tryz.cloInt_ren,Tryz.t3,_,_,rfl,Tryz.cloInt,by kernel_rfl,rfl,rfl,rfl,rfl,Tryz.sizeOf3,by decide⟩,by decide⟩
theorem cl_Test:CloneL Tryz.prog 55 4:=⟨⟨Tryz.cloTest_ren,Tryz.t109,_,_,rfl,Tryz.cloTest,by kernel_rfl,rfl,rfl,rfl,rfl,Tryz.sizeOf109,by decide⟩,by decide⟩
theorem cl_Pair:CloneL Tryz.prog 56 2:=⟨⟨Tryz.cloPair_ren,Tryz.t128,_,_,rfl,Tryz.cloPair,by kernel_rfl,rfl,rfl,rfl,rfl,Tryz.sizeOf128,by decide⟩,by decide⟩
theorem cl_Aux:CloneL Tryz.prog 57 4:=⟨⟨Tryz.cloAux_ren,Tryz.t107,_,_,rfl,Tryz.cloAux,by kernel_rfl,rfl,rfl,rfl,rfl,Tryz.sizeOf107,by decide⟩,by decide⟩
theorem cl_Con:CloneL Tryz.prog 58 3:=⟨⟨Tryz.cloCon_ren,Tryz.t100,_,_,rfl,Tryz.cloCon,by kernel_rfl,rfl,rfl,rfl,rfl,Tryz.sizeOf100,by decide⟩,by decide⟩
theorem cl_Coef:CloneL Tryz.prog 59 2:=⟨⟨Tryz.cloCoef_ren,Tryz.t95,_,_,rfl,Tryz.cloCoef,by kernel_rfl,rfl,rfl,rfl,rfl,Tryz.sizeOf95,by decide⟩,by decide⟩
end Go.Proofs.YtfelpgeolclnbaaGreatDoor
namespace Go.Proofs.YtfelpgeolclnbaaGreatDoor
set_option linter.unusedVariables false
set_option linter.unusedSimpArgs false
open Go.RowKit
structure PAcc where
 wr:Bool
 p:PPred
abbrev acA (a:PAcc):List AV:=[.v (.bool a.wr),.v (.int .i64 a.p.tab),.v (.int .i64 a.p.cols),vsA a.p.vars,.tree 7 (a.p.cls.map clA)]
theorem rowAc:RowF acA 5:=⟨fun _=>rfl,fun _=>rfl,fun _ _=>rfl,fun _ _=>rfl,fun _ _=>rfl,fun _=>rfl⟩
theorem rowCl:RowF clA 7:=⟨fun _=>rfl,fun _=>rfl,fun _ _=>rfl,fun _ _=>rfl,fun _ _=>rfl,fun _=>rfl⟩
theorem rowAx:RowF axA 4:=⟨fun _=>rfl,fun _=>rfl,fun _ _=>rfl,fun _ _=>rfl,fun _ _=>rfl,fun _=>rfl⟩
theorem rowCn:RowF cnA 3:=⟨fun _=>rfl,fun _=>rfl,fun _ _=>rfl,fun _ _=>rfl,fun _ _=>rfl,fun _=>rfl⟩
theorem none_or {α:Type} (l:List α):l=[]∨0 < l.length:=by
 cases l with
 | nil=>exact .inl rfl
 | cons a r=>exact .inr (by simp)
theorem none_or2 {α β:Type} (l:List α) (r:List β):(l=[]∧r=[])∨(l=[]∧0 < r.length)∨(0 < l.length∧r=[])∨(0 < l.length∧0 < r.length):=by
 rcases none_or l with h | h <;> rcases none_or r with h' | h' <;> simp_all
theorem put_ac {l:List PAcc} {i:Nat} (h:i < l.length):(Blk.mk 0 (rF acA l) 5 false)=⟨0,rF acA (l.take i)++(acA l[i]++rF acA (l.drop (i+1))),5,false⟩:=by rw [← rF_at h]
theorem low_zip {α:Type} {f:α→List AV} {q:Nat} (hf:RowF f q) {u:Nat} {a b:List α} {c:List AV} (h:lowL u c=true):lowL u (rF f a++(c++rF f b))=true:=by rw [lowL_app,lowL_app,rF_low hf,rF_low hf,h]; rfl
theorem put_cl {l:List PCl} {i:Nat} (h:i < l.length):(Blk.mk 0 (rF clA l) 7 false)=⟨0,rF clA (l.take i)++(clA l[i]++rF clA (l.drop (i+1))),7,false⟩:=by rw [← rF_at h]
theorem put_ax {l:List PAux} {i:Nat} (h:i < l.length):(Blk.mk 0 (rF axA l) 4 false)=⟨0,rF axA (l.take i)++(axA l[i]++rF axA (l.drop (i+1))),4,false⟩:=by rw [← rF_at h]
theorem put_cn {l:List PCon} {i:Nat} (h:i < l.length):(Blk.mk 0 (rF cnA l) 3 false)=⟨0,rF cnA (l.take i)++(cnA l[i]++rF cnA (l.drop (i+1))),3,false⟩:=by rw [← rF_at h]
theorem bod51:bodied Tryz.prog 51=true:=by kernel_rfl
theorem bod52:bodied Tryz.prog 52=true:=by kernel_rfl
theorem bod53:bodied Tryz.prog 53=true:=by kernel_rfl
theorem bod54:bodied Tryz.prog 54=true:=by kernel_rfl
theorem bod55:bodied Tryz.prog 55=true:=by kernel_rfl
theorem bod56:bodied Tryz.prog 56=true:=by kernel_rfl
theorem bod57:bodied Tryz.prog 57=true:=by kernel_rfl
theorem bod58:bodied Tryz.prog 58=true:=by kernel_rfl
theorem bod59:bodied Tryz.prog 59=true:=by kernel_rfl
theorem fi39_1:fieldInfo Tryz.prog 39 1=some (1,4):=by kernel_rfl
theorem sz34:sizeInfo Tryz.prog 34=some 1:=by kernel_rfl
theorem sz35:sizeInfo Tryz.prog 35=some 1:=by kernel_rfl
theorem sz39:sizeInfo Tryz.prog 39=some 5:=by kernel_rfl
theorem sz70:sizeInfo Tryz.prog 70=some 1:=by kernel_rfl
theorem sz71:sizeInfo Tryz.prog 71=some 1:=by kernel_rfl
theorem sz72:sizeInfo Tryz.prog 72=some 1:=by kernel_rfl
theorem sz73:sizeInfo Tryz.prog 73=some 1:=by kernel_rfl
theorem sz96:sizeInfo Tryz.prog 96=some 1:=by kernel_rfl
set_option maxRecDepth 100000 in
set_option maxHeartbeats 4000000 in
theorem clone_n (l:List PAcc) (h0:0 < l.length) (hl:l.length≤1000) (hok:∀ a∈l,a.p.Ok):PCall Tryz.prog 27 [.tree 5 (l.map acA)] (.tree 5 (l.map acA)):=by
 refine pB Tryz.func27 rfl Tryz.ntmps27 (Nat.le_of_ble_eq_true rfl) ?_
 refine wS (wR ?_)
 refine oL (lA (a:=.v _) rfl) rfl rfl ?_
 refine oN (aN (wS (wR ?_)))
 refine oL (lM (a:=.tree _ _) rfl) rfl rfl ?_
 refine AOps.gv (LOp.callH [(0,0)] bod51 (CloneL.own cl_Access rowAc l h0 (by omega)) rfl rfl rfl rfl trivial trivial ⟨rF_in rowAc _ _,trivial⟩ rfl rfl rfl rfl (delta_own rowAc rfl) rfl) rfl rfl 1 rfl rfl ?_
 refine oL (lA (a:=.sl _ _ _ _) rfl) rfl rfl ?_
 refine oN (aN (wS (wS (wR ?_))))
 refine oL (lM (a:=.sl _ _ _ _) rfl) rfl rfl ?_
 refine oL (LOp.lenS rfl Tryz.underlying31 rfl rfl rfl) rfl rfl ?_
 refine oL (lM (a:=.v _) rfl) rfl rfl ?_
 refine oN (aN (wB ?_))
 refine wL (fun n s=>∃ k:Nat,n=(l.length - k)∧s=⟨fL [(0,.sl 0 0 0 l.length),(12,.v (.int .i64 ((l.length:Nat):Int))),(13,.v (.int .i64 ((k:Nat):Int)))],hLz [(0,⟨0,rF acA l,5,false⟩)],1⟩∧(k≤l.length∧∀ j,j < k→(fun _=>true) j=true)) (n:=(l.length - 0)) (s1:=⟨fL [(0,.sl 0 0 0 l.length),(12,.v (.int .i64 ((l.length:Nat):Int))),(13,.v (.int .i64 ((0:Nat):Int)))],hLz [(0,⟨0,rF acA l,5,false⟩)],1⟩) (cO (.cons rfl rfl (.cons rfl rfl (.cons rfl rfl .nil))) (.cons rfl rfl (rF_low rowAc _ _) .nil)) ⟨0,rfl,rfl,⟨Nat.zero_le _,fun j h=>absurd h (Nat.not_lt_zero j)⟩⟩ ?_
 rintro n s ⟨k,rfl,rfl,hinv⟩
 obtain ⟨hk,hj⟩:=hinv
 refine wS (wR ?_)
 refine oL (lP rfl (fun _ _=>nofun) (fun _=>rfl)) rfl rfl ?_
 refine oN (aN (wS ?_))
 refine wC rfl (fun hc14=>?_) (fun hc14=>?_)
 ·skip
  have hlt:k < l.length:=Int.ofNat_lt.1 (of_decide_eq_true hc14)
  have hpk:=hok _ (List.getElem_mem hlt)
  have hv1:=hpk.vars
  have hc1:=hpk.cls
  refine wK (aN (wS (wB (wS ?_))))
  refine AWP.reb 0 ⟨0,rF acA (l.take k)++([.v (.bool l[k].wr),.v (.int .i64 l[k].p.tab),.v (.int .i64 l[k].p.cols),vsA l[k].p.vars,.tree 7 (l[k].p.cls.map clA)]++rF acA (l.drop (k+1))),5,false⟩ rfl (put_ac hlt) ?_
  refine wR ?_
  refine oL (lM (a:=.v _) rfl) rfl rfl ?_
  refine oL (lA (a:=.v _) rfl) rfl rfl ?_
  refine oN (aN (wS (wR ?_)))
  refine oL (lM (a:=.sl _ _ _ _) rfl) rfl rfl ?_
  refine oL (lM (a:=.v _) rfl) rfl rfl ?_
  refine oL (LOp.indexS Tryz.underlying31 sz39 rfl rfl (by first | assumption | omega) rfl rfl rfl rfl) rfl rfl ?_
  refine oL (lF fi39_1 rfl rfl rfl rfl rfl) rfl rfl ?_
  refine oL (lA (a:=.ptr _ _ _) rfl) rfl rfl ?_
  refine oN (aN (wS (wR ?_)))
  refine oL (lM (a:=.ptr _ _ _) rfl) rfl rfl ?_
  refine oL (lM (a:=.ptr _ _ _) rfl) rfl rfl ?_
  refine oL (lN rfl rfl rfl) rfl rfl ?_
  refine oL (lF fi37_2 rfl rfl rfl rfl rfl) rfl rfl ?_
  refine oL (lZ (j:=3) row34 rfl rfl (by rw [rF_pre rowAc hlt]; omega) rfl) rfl rfl ?_
  refine oL (LOp.call bod52 rfl (CloneL.tree cl_Variable (fun _=>rfl) l[k].p.vars (by omega))) rfl rfl ?_
  refine oL (lN rfl rfl rfl) rfl rfl ?_
  refine oL (lF fi37_2 rfl rfl rfl rfl rfl) rfl rfl ?_
  refine AOps.wr (lY (j:=3) (ds:=[.v (.bool l[k].wr),.v (.int .i64 l[k].p.tab),.v (.int .i64 l[k].p.cols),vsA l[k].p.vars,.tree 7 (l[k].p.cls.map clA)]++rF acA (l.drop (k+1))) sz34 rfl rfl (by rw [rF_pre rowAc hlt]; omega) rfl rfl rfl (put_app rfl)) rfl rfl rfl ?_
  refine oN (aN (wS ?_))
  rcases none_or l[k].p.cls with hcl | hcl
  ·skip
   refine wR ?_
   refine oL (lM (a:=.ptr _ _ _) rfl) rfl rfl ?_
   refine oL (lM (a:=.ptr _ _ _) rfl) rfl rfl ?_
   refine oL (lN rfl rfl rfl) rfl rfl ?_
   refine oL (lF fi37_3 rfl rfl rfl rfl rfl) rfl rfl ?_
   refine oL (lZ (j:=4) row35 rfl rfl (by rw [rF_pre rowAc hlt]; omega) rfl) rfl rfl ?_
   refine oL (LOp.call bod53 rfl (CloneL.tree cl_Clause (fun _=>rfl) l[k].p.cls (by omega))) rfl rfl ?_
   refine oL (lN rfl rfl rfl) rfl rfl ?_
   refine oL (lF fi37_3 rfl rfl rfl rfl rfl) rfl rfl ?_
   refine AOps.wr (lY (j:=4) (ds:=[.v (.bool l[k].wr),.v (.int .i64 l[k].p.tab),.v (.int .i64 l[k].p.cols),vsA l[k].p.vars,.tree 7 (l[k].p.cls.map clA)]++rF acA (l.drop (k+1))) sz35 rfl rfl (by rw [rF_pre rowAc hlt]; omega) rfl rfl rfl (put_app rfl)) rfl rfl rfl ?_
   refine oN (aN (wS (wR ?_)))
   refine oL (lM (a:=.ptr _ _ _) rfl) rfl rfl ?_
   refine oL (lN rfl rfl rfl) rfl rfl ?_
   refine oL (lF fi37_3 rfl rfl rfl rfl rfl) rfl rfl ?_
   refine oL (lZ (j:=4) row35 rfl rfl (by rw [rF_pre rowAc hlt]; omega) rfl) rfl rfl ?_
   refine oL (lT rfl Tryz.underlying35 rfl) rfl rfl ?_
   refine oL (lM (a:=.v _) rfl) rfl rfl ?_
   refine oN (aN (wB ?_))
   refine AWP.loopExit ?_
   refine wS (wR ?_)
   refine oL (lP rfl (fun _ _=>nofun) (fun _=>rfl)) rfl rfl ?_
   refine oN (aN (wS ?_))
   refine wC rfl (fun hc42=>?_) (fun hc42=>?_)
   ·skip
    have hx42:=of_decide_eq_true hc42; rw [hcl] at hx42; exact absurd hx42 (by simp)
   ·skip
    refine AWP.exit (aE (aE (bE ?_)))
    refine bN (aN ?_)
    refine AWP.reb 0 ⟨0,rF acA l,5,false⟩ rfl (put_ac hlt).symm ?_
    refine wR ?_
    refine oL (lJ rfl rfl (by omega) (by omega)) rfl rfl ?_
    refine oL (lM (a:=.v _) rfl) rfl rfl ?_
    refine oN (aN ?_)
    refine ⟨(l.length - (k+1)),⟨fL [(0,.sl 0 0 0 l.length),(12,.v (.int .i64 ((l.length:Nat):Int))),(13,.v (.int .i64 (((k+1):Nat):Int)))],hLz [(0,⟨0,rF acA l,5,false⟩)],1⟩,by omega,(cO (.cons rfl rfl (.cons rfl rfl (.cons rfl rfl .nil))) (.cons rfl rfl (rF_low rowAc _ _) .nil)),(k+1),rfl,rfl,?_⟩
    exact ⟨by omega,fun j h=>rfl⟩
  ·skip
   refine wR ?_
   refine oL (lM (a:=.ptr _ _ _) rfl) rfl rfl ?_
   refine oL (lM (a:=.ptr _ _ _) rfl) rfl rfl ?_
   refine oL (lN rfl rfl rfl) rfl rfl ?_
   refine oL (lF fi37_3 rfl rfl rfl rfl rfl) rfl rfl ?_
   refine oL (lZ (j:=4) row35 rfl rfl (by rw [rF_pre rowAc hlt]; omega) rfl) rfl rfl ?_
   refine AOps.gv (LOp.callH [(0,1)] bod53 (CloneL.own cl_Clause rowCl l[k].p.cls hcl (by omega)) rfl rfl rfl rfl trivial trivial ⟨rF_in rowCl _ _,trivial⟩ rfl rfl rfl rfl (delta_own rowCl rfl) rfl) rfl rfl 2 rfl rfl ?_
   refine oL (lN rfl rfl rfl) rfl rfl ?_
   refine oL (lF fi37_3 rfl rfl rfl rfl rfl) rfl rfl ?_
   refine AOps.wr (lY (j:=4) (ds:=[.v (.bool l[k].wr),.v (.int .i64 l[k].p.tab),.v (.int .i64 l[k].p.cols),vsA l[k].p.vars,.sl 1 0 0 l[k].p.cls.length]++rF acA (l.drop (k+1))) sz35 rfl rfl (by rw [rF_pre rowAc hlt]; omega) rfl rfl rfl (put_app rfl)) rfl rfl rfl ?_
   refine oN (aN (wS (wR ?_)))
   refine oL (lM (a:=.ptr _ _ _) rfl) rfl rfl ?_
   refine oL (lN rfl rfl rfl) rfl rfl ?_
   refine oL (lF fi37_3 rfl rfl rfl rfl rfl) rfl rfl ?_
   refine oL (lZ (j:=4) row35 rfl rfl (by rw [rF_pre rowAc hlt]; omega) rfl) rfl rfl ?_
   refine oL (LOp.lenS rfl Tryz.underlying35 rfl rfl rfl) rfl rfl ?_
   refine oL (lM (a:=.v _) rfl) rfl rfl ?_
   refine oN (aN (wB ?_))
   refine wL (fun n s=>∃ k2:Nat,n=(l[k].p.cls.length - k2)∧s=⟨fL [(0,.sl 0 0 0 l.length),(4,.ptr 0 0 (0+k * 5+1)),(12,.v (.int .i64 ((l.length:Nat):Int))),(13,.v (.int .i64 ((k:Nat):Int))),(40,.v (.int .i64 ((l[k].p.cls.length:Nat):Int))),(41,.v (.int .i64 ((k2:Nat):Int)))],hLz [(0,⟨0,rF acA (l.take k)++([.v (.bool l[k].wr),.v (.int .i64 l[k].p.tab),.v (.int .i64 l[k].p.cols),vsA l[k].p.vars,.sl 1 0 0 l[k].p.cls.length]++rF acA (l.drop (k+1))),5,false⟩),(1,⟨0,rF clA l[k].p.cls,7,false⟩)],2⟩∧(k2≤l[k].p.cls.length∧∀ j,j < k2→(fun _=>true) j=true)) (n:=(l[k].p.cls.length - 0)) (s1:=⟨fL [(0,.sl 0 0 0 l.length),(4,.ptr 0 0 (0+k * 5+1)),(12,.v (.int .i64 ((l.length:Nat):Int))),(13,.v (.int .i64 ((k:Nat):Int))),(40,.v (.int .i64 ((l[k].p.cls.length:Nat):Int))),(41,.v (.int .i64 ((0:Nat):Int)))],hLz [(0,⟨0,rF acA (l.take k)++([.v (.bool l[k].wr),.v (.int .i64 l[k].p.tab),.v (.int .i64 l[k].p.cols),vsA l[k].p.vars,.sl 1 0 0 l[k].p.cls.length]++rF acA (l.drop (k+1))),5,false⟩),(1,⟨0,rF clA l[k].p.cls,7,false⟩)],2⟩) (cO (.cons rfl rfl (.cons rfl rfl (.cons rfl rfl (.cons rfl rfl (.cons rfl rfl (.cons rfl rfl .nil)))))) (.cons rfl rfl (low_zip rowAc rfl) (.cons rfl rfl (rF_low rowCl _ _) .nil))) ⟨0,rfl,rfl,⟨Nat.zero_le _,fun j h=>absurd h (Nat.not_lt_zero j)⟩⟩ ?_
   rintro n s ⟨k2,rfl,rfl,hinv⟩
   obtain ⟨hk,hj⟩:=hinv
   refine wS (wR ?_)
   refine oL (lP rfl (fun _ _=>nofun) (fun _=>rfl)) rfl rfl ?_
   refine oN (aN (wS ?_))
   refine wC rfl (fun hc42=>?_) (fun hc42=>?_)
   ·skip
    have hlt2:k2 < l[k].p.cls.length:=Int.ofNat_lt.1 (of_decide_eq_true hc42)
    have hck:=hpk.each _ (List.getElem_mem hlt2)
    have q1:=hck.nul
    have q2:=hck.nn
    have q3:=hck.aux
    have q4:=hck.ints
    have q5:=hck.tests
    have q6:=hck.same
    have q7:=hck.diff
    refine wK (aN (wS (wB (wS ?_))))
    refine AWP.reb 1 ⟨0,rF clA (l[k].p.cls.take k2)++([isA l[k].p.cls[k2].nul,isA l[k].p.cls[k2].nn,.tree 4 (l[k].p.cls[k2].aux.map axA),.tree 3 (l[k].p.cls[k2].ints.map cnA),.tree 4 (l[k].p.cls[k2].tests.map teA),psA l[k].p.cls[k2].same,psA l[k].p.cls[k2].diff]++rF clA (l[k].p.cls.drop (k2+1))),7,false⟩ rfl (put_cl hlt2) ?_
    refine wR ?_
    refine oL (lM (a:=.v _) rfl) rfl rfl ?_
    refine oL (lA (a:=.v _) rfl) rfl rfl ?_
    refine oN (aN (wS (wR ?_)))
    refine oL (lM (a:=.ptr _ _ _) rfl) rfl rfl ?_
    refine oL (lN rfl rfl rfl) rfl rfl ?_
    refine oL (lF fi37_3 rfl rfl rfl rfl rfl) rfl rfl ?_
    refine oL (lZ (j:=4) row35 rfl rfl (by rw [rF_pre rowAc hlt]; omega) rfl) rfl rfl ?_
    refine oL (lM (a:=.v _) rfl) rfl rfl ?_
    refine oL (LOp.indexS Tryz.underlying35 sz76 rfl rfl (by first | assumption | omega) rfl rfl rfl rfl) rfl rfl ?_
    refine oL (lA (a:=.ptr _ _ _) rfl) rfl rfl ?_
    refine oN (aN (wS (AWP.regD mixed ?_)))
    refine qL (lM (a:=.ptr _ _ _) rfl) rfl rfl ?_
    refine qL (lM (a:=.ptr _ _ _) rfl) rfl rfl ?_
    refine qL (lM (a:=.ptr _ _ _) rfl) rfl rfl ?_
    refine qL (lN rfl rfl rfl) rfl rfl ?_
    refine qL (lF fi76_0 rfl rfl rfl rfl rfl) rfl rfl ?_
    refine qL (lZ (j:=0) row70 rfl rfl (by rw [rF_pre rowCl hlt2]; omega) rfl) rfl rfl ?_
    refine qL (LOp.call bod54 rfl (CloneL.tree cl_Int (fun _=>rfl) l[k].p.cls[k2].nul (by omega))) rfl rfl ?_
    refine qL (lM (a:=.ptr _ _ _) rfl) rfl rfl ?_
    refine qL (lN rfl rfl rfl) rfl rfl ?_
    refine qL (lF fi76_1 rfl rfl rfl rfl rfl) rfl rfl ?_
    refine qL (lZ (j:=1) row70 rfl rfl (by rw [rF_pre rowCl hlt2]; omega) rfl) rfl rfl ?_
    refine qL (LOp.call bod54 rfl (CloneL.tree cl_Int (fun _=>rfl) l[k].p.cls[k2].nn (by omega))) rfl rfl ?_
    refine qL (lN rfl rfl rfl) rfl rfl ?_
    refine qL (lF fi76_0 rfl rfl rfl rfl rfl) rfl rfl ?_
    refine SeqC.wr (lY (j:=0) (ds:=[isA l[k].p.cls[k2].nul,isA l[k].p.cls[k2].nn,.tree 4 (l[k].p.cls[k2].aux.map axA),.tree 3 (l[k].p.cls[k2].ints.map cnA),.tree 4 (l[k].p.cls[k2].tests.map teA),psA l[k].p.cls[k2].same,psA l[k].p.cls[k2].diff]++rF clA (l[k].p.cls.drop (k2+1))) sz70 rfl rfl (by rw [rF_pre rowCl hlt2]; omega) rfl rfl rfl (put_app rfl)) rfl rfl rfl ?_
    refine qL (lN rfl rfl rfl) rfl rfl ?_
    refine qL (lF fi76_1 rfl rfl rfl rfl rfl) rfl rfl ?_
    refine SeqC.wr (lY (j:=1) (ds:=[isA l[k].p.cls[k2].nul,isA l[k].p.cls[k2].nn,.tree 4 (l[k].p.cls[k2].aux.map axA),.tree 3 (l[k].p.cls[k2].ints.map cnA),.tree 4 (l[k].p.cls[k2].tests.map teA),psA l[k].p.cls[k2].same,psA l[k].p.cls[k2].diff]++rF clA (l[k].p.cls.drop (k2+1))) sz70 rfl rfl (by rw [rF_pre rowCl hlt2]; omega) rfl rfl rfl (put_app rfl)) rfl rfl rfl ?_
    refine SeqC.nil ⟨by kernel_rfl,?_⟩
    refine aN (wS (AWP.regD mixed ?_))
    refine qL (lM (a:=.ptr _ _ _) rfl) rfl rfl ?_
    refine qL (lM (a:=.ptr _ _ _) rfl) rfl rfl ?_
    refine qL (lM (a:=.ptr _ _ _) rfl) rfl rfl ?_
    refine qL (lM (a:=.ptr _ _ _) rfl) rfl rfl ?_
    refine qL (lN rfl rfl rfl) rfl rfl ?_
    refine qL (lF fi76_4 rfl rfl rfl rfl rfl) rfl rfl ?_
    refine qL (lZ (j:=4) row73 rfl rfl (by rw [rF_pre rowCl hlt2]; omega) rfl) rfl rfl ?_
    refine qL (LOp.call bod55 rfl (CloneL.tree cl_Test (fun _=>rfl) l[k].p.cls[k2].tests (by omega))) rfl rfl ?_
    refine qL (lM (a:=.ptr _ _ _) rfl) rfl rfl ?_
    refine qL (lN rfl rfl rfl) rfl rfl ?_
    refine qL (lF fi76_5 rfl rfl rfl rfl rfl) rfl rfl ?_
    refine qL (lZ (j:=5) row74 rfl rfl (by rw [rF_pre rowCl hlt2]; omega) rfl) rfl rfl ?_
    refine qL (LOp.call bod56 rfl (CloneL.tree cl_Pair (fun _=>rfl) l[k].p.cls[k2].same (by omega))) rfl rfl ?_
    refine qL (lM (a:=.ptr _ _ _) rfl) rfl rfl ?_
    refine qL (lN rfl rfl rfl) rfl rfl ?_
    refine qL (lF fi76_6 rfl rfl rfl rfl rfl) rfl rfl ?_
    refine qL (lZ (j:=6) row74 rfl rfl (by rw [rF_pre rowCl hlt2]; omega) rfl) rfl rfl ?_
    refine qL (LOp.call bod56 rfl (CloneL.tree cl_Pair (fun _=>rfl) l[k].p.cls[k2].diff (by omega))) rfl rfl ?_
    refine qL (lN rfl rfl rfl) rfl rfl ?_
    refine qL (lF fi76_4 rfl rfl rfl rfl rfl) rfl rfl ?_
    refine SeqC.wr (lY (j:=4) (ds:=[isA l[k].p.cls[k2].nul,isA l[k].p.cls[k2].nn,.tree 4 (l[k].p.cls[k2].aux.map axA),.tree 3 (l[k].p.cls[k2].ints.map cnA),.tree 4 (l[k].p.cls[k2].tests.map teA),psA l[k].p.cls[k2].same,psA l[k].p.cls[k2].diff]++rF clA (l[k].p.cls.drop (k2+1))) sz73 rfl rfl (by rw [rF_pre rowCl hlt2]; omega) rfl rfl rfl (put_app rfl)) rfl rfl rfl ?_
    refine qL (lN rfl rfl rfl) rfl rfl ?_
    refine qL (lF fi76_5 rfl rfl rfl rfl rfl) rfl rfl ?_
    refine SeqC.wr (lY (j:=5) (ds:=[isA l[k].p.cls[k2].nul,isA l[k].p.cls[k2].nn,.tree 4 (l[k].p.cls[k2].aux.map axA),.tree 3 (l[k].p.cls[k2].ints.map cnA),.tree 4 (l[k].p.cls[k2].tests.map teA),psA l[k].p.cls[k2].same,psA l[k].p.cls[k2].diff]++rF clA (l[k].p.cls.drop (k2+1))) sz74 rfl rfl (by rw [rF_pre rowCl hlt2]; omega) rfl rfl rfl (put_app rfl)) rfl rfl rfl ?_
    refine qL (lN rfl rfl rfl) rfl rfl ?_
    refine qL (lF fi76_6 rfl rfl rfl rfl rfl) rfl rfl ?_
    refine SeqC.wr (lY (j:=6) (ds:=[isA l[k].p.cls[k2].nul,isA l[k].p.cls[k2].nn,.tree 4 (l[k].p.cls[k2].aux.map axA),.tree 3 (l[k].p.cls[k2].ints.map cnA),.tree 4 (l[k].p.cls[k2].tests.map teA),psA l[k].p.cls[k2].same,psA l[k].p.cls[k2].diff]++rF clA (l[k].p.cls.drop (k2+1))) sz74 rfl rfl (by rw [rF_pre rowCl hlt2]; omega) rfl rfl rfl (put_app rfl)) rfl rfl rfl ?_
    refine SeqC.nil ⟨by kernel_rfl,?_⟩
    refine aN (wS ?_)
    rcases none_or2 l[k].p.cls[k2].aux l[k].p.cls[k2].ints with ⟨ha,hi⟩ | ⟨ha,hi⟩ | ⟨ha,hi⟩ | ⟨ha,hi⟩
    ·skip
     refine AWP.regD mixed ?_
     refine qL (lM (a:=.ptr _ _ _) rfl) rfl rfl ?_
     refine qL (lM (a:=.ptr _ _ _) rfl) rfl rfl ?_
     refine qL (lM (a:=.ptr _ _ _) rfl) rfl rfl ?_
     refine qL (lN rfl rfl rfl) rfl rfl ?_
     refine qL (lF fi76_2 rfl rfl rfl rfl rfl) rfl rfl ?_
     refine qL (lZ (j:=2) row71 rfl rfl (by rw [rF_pre rowCl hlt2]; omega) rfl) rfl rfl ?_
     refine qL (LOp.call bod57 rfl (CloneL.tree cl_Aux (fun _=>rfl) l[k].p.cls[k2].aux (by omega))) rfl rfl ?_
     refine qL (lM (a:=.ptr _ _ _) rfl) rfl rfl ?_
     refine qL (lN rfl rfl rfl) rfl rfl ?_
     refine qL (lF fi76_3 rfl rfl rfl rfl rfl) rfl rfl ?_
     refine qL (lZ (j:=3) row72 rfl rfl (by rw [rF_pre rowCl hlt2]; omega) rfl) rfl rfl ?_
     refine qL (LOp.call bod58 rfl (CloneL.tree cl_Con (fun _=>rfl) l[k].p.cls[k2].ints (by omega))) rfl rfl ?_
     refine qL (lN rfl rfl rfl) rfl rfl ?_
     refine qL (lF fi76_2 rfl rfl rfl rfl rfl) rfl rfl ?_
     refine SeqC.wr (lY (j:=2) (ds:=[isA l[k].p.cls[k2].nul,isA l[k].p.cls[k2].nn,.tree 4 (l[k].p.cls[k2].aux.map axA),.tree 3 (l[k].p.cls[k2].ints.map cnA),.tree 4 (l[k].p.cls[k2].tests.map teA),psA l[k].p.cls[k2].same,psA l[k].p.cls[k2].diff]++rF clA (l[k].p.cls.drop (k2+1))) sz71 rfl rfl (by rw [rF_pre rowCl hlt2]; omega) rfl rfl rfl (put_app rfl)) rfl rfl rfl ?_
     refine qL (lN rfl rfl rfl) rfl rfl ?_
     refine qL (lF fi76_3 rfl rfl rfl rfl rfl) rfl rfl ?_
     refine SeqC.wr (lY (j:=3) (ds:=[isA l[k].p.cls[k2].nul,isA l[k].p.cls[k2].nn,.tree 4 (l[k].p.cls[k2].aux.map axA),.tree 3 (l[k].p.cls[k2].ints.map cnA),.tree 4 (l[k].p.cls[k2].tests.map teA),psA l[k].p.cls[k2].same,psA l[k].p.cls[k2].diff]++rF clA (l[k].p.cls.drop (k2+1))) sz72 rfl rfl (by rw [rF_pre rowCl hlt2]; omega) rfl rfl rfl (put_app rfl)) rfl rfl rfl ?_
     refine SeqC.nil ⟨by kernel_rfl,?_⟩
     refine aN (wS (wS (wR ?_)))
     refine oL (lM (a:=.ptr _ _ _) rfl) rfl rfl ?_
     refine oL (lN rfl rfl rfl) rfl rfl ?_
     refine oL (lF fi76_2 rfl rfl rfl rfl rfl) rfl rfl ?_
     refine oL (lZ (j:=2) row71 rfl rfl (by rw [rF_pre rowCl hlt2]; omega) rfl) rfl rfl ?_
     refine oL (lT rfl Tryz.underlying71 rfl) rfl rfl ?_
     refine oL (lM (a:=.v _) rfl) rfl rfl ?_
     refine oN (aN (wB ?_))
     refine AWP.loopExit ?_
     refine wS (wR ?_)
     refine oL (lP rfl (fun _ _=>nofun) (fun _=>rfl)) rfl rfl ?_
     refine oN (aN (wS ?_))
     refine wC rfl (fun hc112=>?_) (fun hc112=>?_)
     ·skip
      have hx112:=of_decide_eq_true hc112; rw [ha] at hx112; exact absurd hx112 (by simp)
     ·skip
      refine AWP.exit (aE (aE (bE ?_)))
      refine aN (wS (wR ?_))
      refine oL (lM (a:=.ptr _ _ _) rfl) rfl rfl ?_
      refine oL (lN rfl rfl rfl) rfl rfl ?_
      refine oL (lF fi76_3 rfl rfl rfl rfl rfl) rfl rfl ?_
      refine oL (lZ (j:=3) row72 rfl rfl (by rw [rF_pre rowCl hlt2]; omega) rfl) rfl rfl ?_
      refine oL (lT rfl Tryz.underlying72 rfl) rfl rfl ?_
      refine oL (lM (a:=.v _) rfl) rfl rfl ?_
      refine oN (aN (wB ?_))
      refine AWP.loopExit ?_
      refine wS (wR ?_)
      refine oL (lP rfl (fun _ _=>nofun) (fun _=>rfl)) rfl rfl ?_
      refine oN (aN (wS ?_))
      refine wC rfl (fun hc139=>?_) (fun hc139=>?_)
      ·skip
       have hx139:=of_decide_eq_true hc139; rw [hi] at hx139; exact absurd hx139 (by simp)
      ·skip
       refine AWP.exit (aE (aE (bE ?_)))
       refine bN (aN ?_)
       refine AWP.reb 1 ⟨0,rF clA l[k].p.cls,7,false⟩ rfl (put_cl hlt2).symm ?_
       refine wR ?_
       refine oL (lJ rfl rfl (by omega) (by omega)) rfl rfl ?_
       refine oL (lM (a:=.v _) rfl) rfl rfl ?_
       refine oN (aN ?_)
       refine ⟨(l[k].p.cls.length - (k2+1)),⟨fL [(0,.sl 0 0 0 l.length),(4,.ptr 0 0 (0+k * 5+1)),(12,.v (.int .i64 ((l.length:Nat):Int))),(13,.v (.int .i64 ((k:Nat):Int))),(40,.v (.int .i64 ((l[k].p.cls.length:Nat):Int))),(41,.v (.int .i64 (((k2+1):Nat):Int)))],hLz [(0,⟨0,rF acA (l.take k)++([.v (.bool l[k].wr),.v (.int .i64 l[k].p.tab),.v (.int .i64 l[k].p.cols),vsA l[k].p.vars,.sl 1 0 0 l[k].p.cls.length]++rF acA (l.drop (k+1))),5,false⟩),(1,⟨0,rF clA l[k].p.cls,7,false⟩)],2⟩,by omega,(cO (.cons rfl rfl (.cons rfl rfl (.cons rfl rfl (.cons rfl rfl (.cons rfl rfl (.cons rfl rfl .nil)))))) (.cons rfl rfl (low_zip rowAc rfl) (.cons rfl rfl (rF_low rowCl _ _) .nil))),(k2+1),rfl,rfl,?_⟩
       exact ⟨by omega,fun j h=>rfl⟩
    ·skip
     refine AWP.regD mixed ?_
     refine qL (lM (a:=.ptr _ _ _) rfl) rfl rfl ?_
     refine qL (lM (a:=.ptr _ _ _) rfl) rfl rfl ?_
     refine qL (lM (a:=.ptr _ _ _) rfl) rfl rfl ?_
     refine qL (lN rfl rfl rfl) rfl rfl ?_
     refine qL (lF fi76_2 rfl rfl rfl rfl rfl) rfl rfl ?_
     refine qL (lZ (j:=2) row71 rfl rfl (by rw [rF_pre rowCl hlt2]; omega) rfl) rfl rfl ?_
     refine qL (LOp.call bod57 rfl (CloneL.tree cl_Aux (fun _=>rfl) l[k].p.cls[k2].aux (by omega))) rfl rfl ?_
     refine qL (lM (a:=.ptr _ _ _) rfl) rfl rfl ?_
     refine qL (lN rfl rfl rfl) rfl rfl ?_
     refine qL (lF fi76_3 rfl rfl rfl rfl rfl) rfl rfl ?_
     refine qL (lZ (j:=3) row72 rfl rfl (by rw [rF_pre rowCl hlt2]; omega) rfl) rfl rfl ?_
     refine SeqC.gv (LOp.callH [(0,2)] bod58 (CloneL.own cl_Con rowCn l[k].p.cls[k2].ints hi (by omega)) rfl rfl rfl rfl trivial trivial ⟨rF_in rowCn _ _,trivial⟩ rfl rfl rfl rfl (delta_own rowCn rfl) rfl) rfl rfl 3 rfl rfl ?_
     refine qL (lN rfl rfl rfl) rfl rfl ?_
     refine qL (lF fi76_2 rfl rfl rfl rfl rfl) rfl rfl ?_
     refine SeqC.wr (lY (j:=2) (ds:=[isA l[k].p.cls[k2].nul,isA l[k].p.cls[k2].nn,.tree 4 (l[k].p.cls[k2].aux.map axA),.tree 3 (l[k].p.cls[k2].ints.map cnA),.tree 4 (l[k].p.cls[k2].tests.map teA),psA l[k].p.cls[k2].same,psA l[k].p.cls[k2].diff]++rF clA (l[k].p.cls.drop (k2+1))) sz71 rfl rfl (by rw [rF_pre rowCl hlt2]; omega) rfl rfl rfl (put_app rfl)) rfl rfl rfl ?_
     refine qL (lN rfl rfl rfl) rfl rfl ?_
     refine qL (lF fi76_3 rfl rfl rfl rfl rfl) rfl rfl ?_
     refine SeqC.wr (lY (j:=3) (ds:=[isA l[k].p.cls[k2].nul,isA l[k].p.cls[k2].nn,.tree 4 (l[k].p.cls[k2].aux.map axA),.sl 2 0 0 l[k].p.cls[k2].ints.length,.tree 4 (l[k].p.cls[k2].tests.map teA),psA l[k].p.cls[k2].same,psA l[k].p.cls[k2].diff]++rF clA (l[k].p.cls.drop (k2+1))) sz72 rfl rfl (by rw [rF_pre rowCl hlt2]; omega) rfl rfl rfl (put_app rfl)) rfl rfl rfl ?_
     refine SeqC.nil ⟨by kernel_rfl,?_⟩
     refine aN (wS (wS (wR ?_)))
     refine oL (lM (a:=.ptr _ _ _) rfl) rfl rfl ?_
     refine oL (lN rfl rfl rfl) rfl rfl ?_
     refine oL (lF fi76_2 rfl rfl rfl rfl rfl) rfl rfl ?_
     refine oL (lZ (j:=2) row71 rfl rfl (by rw [rF_pre rowCl hlt2]; omega) rfl) rfl rfl ?_
     refine oL (lT rfl Tryz.underlying71 rfl) rfl rfl ?_
     refine oL (lM (a:=.v _) rfl) rfl rfl ?_
     refine oN (aN (wB ?_))
     refine AWP.loopExit ?_
     refine wS (wR ?_)
     refine oL (lP rfl (fun _ _=>nofun) (fun _=>rfl)) rfl rfl ?_
     refine oN (aN (wS ?_))
     refine wC rfl (fun hc112=>?_) (fun hc112=>?_)
     ·skip
      have hx112:=of_decide_eq_true hc112; rw [ha] at hx112; exact absurd hx112 (by simp)
     ·skip
      refine AWP.exit (aE (aE (bE ?_)))
      refine aN (wS (wR ?_))
      refine oL (lM (a:=.ptr _ _ _) rfl) rfl rfl ?_
      refine oL (lN rfl rfl rfl) rfl rfl ?_
      refine oL (lF fi76_3 rfl rfl rfl rfl rfl) rfl rfl ?_
      refine oL (lZ (j:=3) row72 rfl rfl (by rw [rF_pre rowCl hlt2]; omega) rfl) rfl rfl ?_
      refine oL (LOp.lenS rfl Tryz.underlying72 rfl rfl rfl) rfl rfl ?_
      refine oL (lM (a:=.v _) rfl) rfl rfl ?_
      refine oN (aN (wB ?_))
      refine wL (fun n s=>∃ k4:Nat,n=(l[k].p.cls[k2].ints.length - k4)∧s=⟨fL [(0,.sl 0 0 0 l.length),(4,.ptr 0 0 (0+k * 5+1)),(6,.ptr 1 0 (0+k2 * 7)),(12,.v (.int .i64 ((l.length:Nat):Int))),(13,.v (.int .i64 ((k:Nat):Int))),(40,.v (.int .i64 ((l[k].p.cls.length:Nat):Int))),(41,.v (.int .i64 ((k2:Nat):Int))),(137,.v (.int .i64 ((l[k].p.cls[k2].ints.length:Nat):Int))),(138,.v (.int .i64 ((k4:Nat):Int)))],hLz [(0,⟨0,rF acA (l.take k)++([.v (.bool l[k].wr),.v (.int .i64 l[k].p.tab),.v (.int .i64 l[k].p.cols),vsA l[k].p.vars,.sl 1 0 0 l[k].p.cls.length]++rF acA (l.drop (k+1))),5,false⟩),(1,⟨0,rF clA (l[k].p.cls.take k2)++([isA l[k].p.cls[k2].nul,isA l[k].p.cls[k2].nn,.tree 4 (l[k].p.cls[k2].aux.map axA),.sl 2 0 0 l[k].p.cls[k2].ints.length,.tree 4 (l[k].p.cls[k2].tests.map teA),psA l[k].p.cls[k2].same,psA l[k].p.cls[k2].diff]++rF clA (l[k].p.cls.drop (k2+1))),7,false⟩),(2,⟨0,rF cnA l[k].p.cls[k2].ints,3,false⟩)],3⟩∧(k4≤l[k].p.cls[k2].ints.length∧∀ j,j < k4→(fun _=>true) j=true)) (n:=(l[k].p.cls[k2].ints.length - 0)) (s1:=⟨fL [(0,.sl 0 0 0 l.length),(4,.ptr 0 0 (0+k * 5+1)),(6,.ptr 1 0 (0+k2 * 7)),(12,.v (.int .i64 ((l.length:Nat):Int))),(13,.v (.int .i64 ((k:Nat):Int))),(40,.v (.int .i64 ((l[k].p.cls.length:Nat):Int))),(41,.v (.int .i64 ((k2:Nat):Int))),(137,.v (.int .i64 ((l[k].p.cls[k2].ints.length:Nat):Int))),(138,.v (.int .i64 ((0:Nat):Int)))],hLz [(0,⟨0,rF acA (l.take k)++([.v (.bool l[k].wr),.v (.int .i64 l[k].p.tab),.v (.int .i64 l[k].p.cols),vsA l[k].p.vars,.sl 1 0 0 l[k].p.cls.length]++rF acA (l.drop (k+1))),5,false⟩),(1,⟨0,rF clA (l[k].p.cls.take k2)++([isA l[k].p.cls[k2].nul,isA l[k].p.cls[k2].nn,.tree 4 (l[k].p.cls[k2].aux.map axA),.sl 2 0 0 l[k].p.cls[k2].ints.length,.tree 4 (l[k].p.cls[k2].tests.map teA),psA l[k].p.cls[k2].same,psA l[k].p.cls[k2].diff]++rF clA (l[k].p.cls.drop (k2+1))),7,false⟩),(2,⟨0,rF cnA l[k].p.cls[k2].ints,3,false⟩)],3⟩) (cO (.cons rfl rfl (.cons rfl rfl (.cons rfl rfl (.cons rfl rfl (.cons rfl rfl (.cons rfl rfl (.cons rfl rfl (.cons rfl rfl (.cons rfl rfl .nil))))))))) (.cons rfl rfl (low_zip rowAc rfl) (.cons rfl rfl (low_zip rowCl rfl) (.cons rfl rfl (rF_low rowCn _ _) .nil)))) ⟨0,rfl,rfl,⟨Nat.zero_le _,fun j h=>absurd h (Nat.not_lt_zero j)⟩⟩ ?_
      rintro n s ⟨k4,rfl,rfl,hinv⟩
      obtain ⟨hk,hj⟩:=hinv
      refine wS (wR ?_)
      refine oL (lP rfl (fun _ _=>nofun) (fun _=>rfl)) rfl rfl ?_
      refine oN (aN (wS ?_))
      refine wC rfl (fun hc139=>?_) (fun hc139=>?_)
      ·skip
       have hlt4:k4 < l[k].p.cls[k2].ints.length:=Int.ofNat_lt.1 (of_decide_eq_true hc139)
       have hx:=hck.intc _ (List.getElem_mem hlt4)
       refine wK (aN (wS (wB (wS ?_))))
       refine AWP.reb 2 ⟨0,rF cnA (l[k].p.cls[k2].ints.take k4)++([.v (.int .i64 l[k].p.cls[k2].ints[k4].l.k),csA l[k].p.cls[k2].ints[k4].l.cs,.v (.bool l[k].p.cls[k2].ints[k4].eq)]++rF cnA (l[k].p.cls[k2].ints.drop (k4+1))),3,false⟩ rfl (put_cn hlt4) ?_
       refine wR ?_
       refine oL (lM (a:=.v _) rfl) rfl rfl ?_
       refine oL (lA (a:=.v _) rfl) rfl rfl ?_
       refine oN (aN (AWP.regD mixed ?_))
       refine qL (lM (a:=.ptr _ _ _) rfl) rfl rfl ?_
       refine qL (lN rfl rfl rfl) rfl rfl ?_
       refine qL (lF fi76_3 rfl rfl rfl rfl rfl) rfl rfl ?_
       refine qL (lZ (j:=3) row72 rfl rfl (by rw [rF_pre rowCl hlt2]; omega) rfl) rfl rfl ?_
       refine qL (lM (a:=.v _) rfl) rfl rfl ?_
       refine qL (lM (a:=.ptr _ _ _) rfl) rfl rfl ?_
       refine qL (lN rfl rfl rfl) rfl rfl ?_
       refine qL (lF fi76_3 rfl rfl rfl rfl rfl) rfl rfl ?_
       refine qL (lZ (j:=3) row72 rfl rfl (by rw [rF_pre rowCl hlt2]; omega) rfl) rfl rfl ?_
       refine qL (lM (a:=.v _) rfl) rfl rfl ?_
       refine qL (LOp.indexS Tryz.underlying72 sz100 rfl rfl (by first | assumption | omega) rfl rfl rfl rfl) rfl rfl ?_
       refine qL (lF fi100_0 rfl rfl rfl rfl rfl) rfl rfl ?_
       refine qL (lF fi98_1 rfl rfl rfl rfl rfl) rfl rfl ?_
       refine qL (lZ (j:=1) row96 rfl rfl (by rw [rF_pre rowCn hlt4]; omega) rfl) rfl rfl ?_
       refine qL (LOp.call bod59 rfl (CloneL.tree cl_Coef (fun _=>rfl) l[k].p.cls[k2].ints[k4].l.cs (by omega))) rfl rfl ?_
       refine qL (LOp.indexS Tryz.underlying72 sz100 rfl rfl (by first | assumption | omega) rfl rfl rfl rfl) rfl rfl ?_
       refine qL (lF fi100_0 rfl rfl rfl rfl rfl) rfl rfl ?_
       refine qL (lF fi98_1 rfl rfl rfl rfl rfl) rfl rfl ?_
       refine SeqC.wr (lY (j:=1) (ds:=[.v (.int .i64 l[k].p.cls[k2].ints[k4].l.k),csA l[k].p.cls[k2].ints[k4].l.cs,.v (.bool l[k].p.cls[k2].ints[k4].eq)]++rF cnA (l[k].p.cls[k2].ints.drop (k4+1))) sz96 rfl rfl (by rw [rF_pre rowCn hlt4]; omega) rfl rfl rfl (put_app rfl)) rfl rfl rfl ?_
       refine SeqC.nil ⟨by kernel_rfl,?_⟩
       refine bN (aN ?_)
       refine AWP.reb 2 ⟨0,rF cnA l[k].p.cls[k2].ints,3,false⟩ rfl (put_cn hlt4).symm ?_
       refine wR ?_
       refine oL (lJ rfl rfl (by omega) (by omega)) rfl rfl ?_
       refine oL (lM (a:=.v _) rfl) rfl rfl ?_
       refine oN (aN ?_)
       refine ⟨(l[k].p.cls[k2].ints.length - (k4+1)),⟨fL [(0,.sl 0 0 0 l.length),(4,.ptr 0 0 (0+k * 5+1)),(6,.ptr 1 0 (0+k2 * 7)),(12,.v (.int .i64 ((l.length:Nat):Int))),(13,.v (.int .i64 ((k:Nat):Int))),(40,.v (.int .i64 ((l[k].p.cls.length:Nat):Int))),(41,.v (.int .i64 ((k2:Nat):Int))),(137,.v (.int .i64 ((l[k].p.cls[k2].ints.length:Nat):Int))),(138,.v (.int .i64 (((k4+1):Nat):Int)))],hLz [(0,⟨0,rF acA (l.take k)++([.v (.bool l[k].wr),.v (.int .i64 l[k].p.tab),.v (.int .i64 l[k].p.cols),vsA l[k].p.vars,.sl 1 0 0 l[k].p.cls.length]++rF acA (l.drop (k+1))),5,false⟩),(1,⟨0,rF clA (l[k].p.cls.take k2)++([isA l[k].p.cls[k2].nul,isA l[k].p.cls[k2].nn,.tree 4 (l[k].p.cls[k2].aux.map axA),.sl 2 0 0 l[k].p.cls[k2].ints.length,.tree 4 (l[k].p.cls[k2].tests.map teA),psA l[k].p.cls[k2].same,psA l[k].p.cls[k2].diff]++rF clA (l[k].p.cls.drop (k2+1))),7,false⟩),(2,⟨0,rF cnA l[k].p.cls[k2].ints,3,false⟩)],3⟩,by omega,(cO (.cons rfl rfl (.cons rfl rfl (.cons rfl rfl (.cons rfl rfl (.cons rfl rfl (.cons rfl rfl (.cons rfl rfl (.cons rfl rfl (.cons rfl rfl .nil))))))))) (.cons rfl rfl (low_zip rowAc rfl) (.cons rfl rfl (low_zip rowCl rfl) (.cons rfl rfl (rF_low rowCn _ _) .nil)))),(k4+1),rfl,rfl,?_⟩
       exact ⟨by omega,fun j h=>rfl⟩
      ·skip
       have hge4:¬ k4 < l[k].p.cls[k2].ints.length:=fun h=>of_decide_eq_false hc139 (Int.ofNat_lt.2 h)
       refine AWP.exit (aE (aE (bE ?_)))
       refine bN (aN ?_)
       refine AWP.freezeB [2] 1 0 7 (rF clA (l[k].p.cls.take k2)++([isA l[k].p.cls[k2].nul,isA l[k].p.cls[k2].nn,.tree 4 (l[k].p.cls[k2].aux.map axA),.sl 2 0 0 l[k].p.cls[k2].ints.length,.tree 4 (l[k].p.cls[k2].tests.map teA),psA l[k].p.cls[k2].same,psA l[k].p.cls[k2].diff]++rF clA (l[k].p.cls.drop (k2+1)))) (rF clA (l[k].p.cls.take k2)++([isA l[k].p.cls[k2].nul,isA l[k].p.cls[k2].nn,.tree 4 (l[k].p.cls[k2].aux.map axA),.tree 3 (l[k].p.cls[k2].ints.map cnA),.tree 4 (l[k].p.cls[k2].tests.map teA),psA l[k].p.cls[k2].same,psA l[k].p.cls[k2].diff]++rF clA (l[k].p.cls.drop (k2+1)))) rfl rfl (FzLO.pre (.keep (.keep (.keep (.fz (FzP.rowsF rowCn (by simp) rfl) (.same _))))) _) rfl ?_
       refine AWP.reb 1 ⟨0,rF clA l[k].p.cls,7,false⟩ rfl (put_cl hlt2).symm ?_
       refine wR ?_
       refine oL (lJ rfl rfl (by omega) (by omega)) rfl rfl ?_
       refine oL (lM (a:=.v _) rfl) rfl rfl ?_
       refine oN (aN ?_)
       refine ⟨(l[k].p.cls.length - (k2+1)),⟨fL [(0,.sl 0 0 0 l.length),(4,.ptr 0 0 (0+k * 5+1)),(12,.v (.int .i64 ((l.length:Nat):Int))),(13,.v (.int .i64 ((k:Nat):Int))),(40,.v (.int .i64 ((l[k].p.cls.length:Nat):Int))),(41,.v (.int .i64 (((k2+1):Nat):Int)))],hLz [(0,⟨0,rF acA (l.take k)++([.v (.bool l[k].wr),.v (.int .i64 l[k].p.tab),.v (.int .i64 l[k].p.cols),vsA l[k].p.vars,.sl 1 0 0 l[k].p.cls.length]++rF acA (l.drop (k+1))),5,false⟩),(1,⟨0,rF clA l[k].p.cls,7,false⟩)],2⟩,by omega,(cO (.cons rfl rfl (.cons rfl rfl (.cons rfl rfl (.cons rfl rfl (.cons rfl rfl (.cons rfl rfl .nil)))))) (.cons rfl rfl (low_zip rowAc rfl) (.cons rfl rfl (rF_low rowCl _ _) .nil))),(k2+1),rfl,rfl,?_⟩
       exact ⟨by omega,fun j h=>rfl⟩
    ·skip
     refine AWP.regD mixed ?_
     refine qL (lM (a:=.ptr _ _ _) rfl) rfl rfl ?_
     refine qL (lM (a:=.ptr _ _ _) rfl) rfl rfl ?_
     refine qL (lM (a:=.ptr _ _ _) rfl) rfl rfl ?_
     refine qL (lN rfl rfl rfl) rfl rfl ?_
     refine qL (lF fi76_2 rfl rfl rfl rfl rfl) rfl rfl ?_
     refine qL (lZ (j:=2) row71 rfl rfl (by rw [rF_pre rowCl hlt2]; omega) rfl) rfl rfl ?_
     refine SeqC.gv (LOp.callH [(0,2)] bod57 (CloneL.own cl_Aux rowAx l[k].p.cls[k2].aux ha (by omega)) rfl rfl rfl rfl trivial trivial ⟨rF_in rowAx _ _,trivial⟩ rfl rfl rfl rfl (delta_own rowAx rfl) rfl) rfl rfl 3 rfl rfl ?_
     refine qL (lM (a:=.ptr _ _ _) rfl) rfl rfl ?_
     refine qL (lN rfl rfl rfl) rfl rfl ?_
     refine qL (lF fi76_3 rfl rfl rfl rfl rfl) rfl rfl ?_
     refine qL (lZ (j:=3) row72 rfl rfl (by rw [rF_pre rowCl hlt2]; omega) rfl) rfl rfl ?_
     refine qL (LOp.call bod58 rfl (CloneL.tree cl_Con (fun _=>rfl) l[k].p.cls[k2].ints (by omega))) rfl rfl ?_
     refine qL (lN rfl rfl rfl) rfl rfl ?_
     refine qL (lF fi76_2 rfl rfl rfl rfl rfl) rfl rfl ?_
     refine SeqC.wr (lY (j:=2) (ds:=[isA l[k].p.cls[k2].nul,isA l[k].p.cls[k2].nn,.sl 2 0 0 l[k].p.cls[k2].aux.length,.tree 3 (l[k].p.cls[k2].ints.map cnA),.tree 4 (l[k].p.cls[k2].tests.map teA),psA l[k].p.cls[k2].same,psA l[k].p.cls[k2].diff]++rF clA (l[k].p.cls.drop (k2+1))) sz71 rfl rfl (by rw [rF_pre rowCl hlt2]; omega) rfl rfl rfl (put_app rfl)) rfl rfl rfl ?_
     refine qL (lN rfl rfl rfl) rfl rfl ?_
     refine qL (lF fi76_3 rfl rfl rfl rfl rfl) rfl rfl ?_
     refine SeqC.wr (lY (j:=3) (ds:=[isA l[k].p.cls[k2].nul,isA l[k].p.cls[k2].nn,.sl 2 0 0 l[k].p.cls[k2].aux.length,.tree 3 (l[k].p.cls[k2].ints.map cnA),.tree 4 (l[k].p.cls[k2].tests.map teA),psA l[k].p.cls[k2].same,psA l[k].p.cls[k2].diff]++rF clA (l[k].p.cls.drop (k2+1))) sz72 rfl rfl (by rw [rF_pre rowCl hlt2]; omega) rfl rfl rfl (put_app rfl)) rfl rfl rfl ?_
     refine SeqC.nil ⟨by kernel_rfl,?_⟩
     refine aN (wS (wS (wR ?_)))
     refine oL (lM (a:=.ptr _ _ _) rfl) rfl rfl ?_
     refine oL (lN rfl rfl rfl) rfl rfl ?_
     refine oL (lF fi76_2 rfl rfl rfl rfl rfl) rfl rfl ?_
     refine oL (lZ (j:=2) row71 rfl rfl (by rw [rF_pre rowCl hlt2]; omega) rfl) rfl rfl ?_
     refine oL (LOp.lenS rfl Tryz.underlying71 rfl rfl rfl) rfl rfl ?_
     refine oL (lM (a:=.v _) rfl) rfl rfl ?_
     refine oN (aN (wB ?_))
     refine wL (fun n s=>∃ k3:Nat,n=(l[k].p.cls[k2].aux.length - k3)∧s=⟨fL [(0,.sl 0 0 0 l.length),(4,.ptr 0 0 (0+k * 5+1)),(6,.ptr 1 0 (0+k2 * 7)),(12,.v (.int .i64 ((l.length:Nat):Int))),(13,.v (.int .i64 ((k:Nat):Int))),(40,.v (.int .i64 ((l[k].p.cls.length:Nat):Int))),(41,.v (.int .i64 ((k2:Nat):Int))),(110,.v (.int .i64 ((l[k].p.cls[k2].aux.length:Nat):Int))),(111,.v (.int .i64 ((k3:Nat):Int)))],hLz [(0,⟨0,rF acA (l.take k)++([.v (.bool l[k].wr),.v (.int .i64 l[k].p.tab),.v (.int .i64 l[k].p.cols),vsA l[k].p.vars,.sl 1 0 0 l[k].p.cls.length]++rF acA (l.drop (k+1))),5,false⟩),(1,⟨0,rF clA (l[k].p.cls.take k2)++([isA l[k].p.cls[k2].nul,isA l[k].p.cls[k2].nn,.sl 2 0 0 l[k].p.cls[k2].aux.length,.tree 3 (l[k].p.cls[k2].ints.map cnA),.tree 4 (l[k].p.cls[k2].tests.map teA),psA l[k].p.cls[k2].same,psA l[k].p.cls[k2].diff]++rF clA (l[k].p.cls.drop (k2+1))),7,false⟩),(2,⟨0,rF axA l[k].p.cls[k2].aux,4,false⟩)],3⟩∧(k3≤l[k].p.cls[k2].aux.length∧∀ j,j < k3→(fun _=>true) j=true)) (n:=(l[k].p.cls[k2].aux.length - 0)) (s1:=⟨fL [(0,.sl 0 0 0 l.length),(4,.ptr 0 0 (0+k * 5+1)),(6,.ptr 1 0 (0+k2 * 7)),(12,.v (.int .i64 ((l.length:Nat):Int))),(13,.v (.int .i64 ((k:Nat):Int))),(40,.v (.int .i64 ((l[k].p.cls.length:Nat):Int))),(41,.v (.int .i64 ((k2:Nat):Int))),(110,.v (.int .i64 ((l[k].p.cls[k2].aux.length:Nat):Int))),(111,.v (.int .i64 ((0:Nat):Int)))],hLz [(0,⟨0,rF acA (l.take k)++([.v (.bool l[k].wr),.v (.int .i64 l[k].p.tab),.v (.int .i64 l[k].p.cols),vsA l[k].p.vars,.sl 1 0 0 l[k].p.cls.length]++rF acA (l.drop (k+1))),5,false⟩),(1,⟨0,rF clA (l[k].p.cls.take k2)++([isA l[k].p.cls[k2].nul,isA l[k].p.cls[k2].nn,.sl 2 0 0 l[k].p.cls[k2].aux.length,.tree 3 (l[k].p.cls[k2].ints.map cnA),.tree 4 (l[k].p.cls[k2].tests.map teA),psA l[k].p.cls[k2].same,psA l[k].p.cls[k2].diff]++rF clA (l[k].p.cls.drop (k2+1))),7,false⟩),(2,⟨0,rF axA l[k].p.cls[k2].aux,4,false⟩)],3⟩) (cO (.cons rfl rfl (.cons rfl rfl (.cons rfl rfl (.cons rfl rfl (.cons rfl rfl (.cons rfl rfl (.cons rfl rfl (.cons rfl rfl (.cons rfl rfl .nil))))))))) (.cons rfl rfl (low_zip rowAc rfl) (.cons rfl rfl (low_zip rowCl rfl) (.cons rfl rfl (rF_low rowAx _ _) .nil)))) ⟨0,rfl,rfl,⟨Nat.zero_le _,fun j h=>absurd h (Nat.not_lt_zero j)⟩⟩ ?_
     rintro n s ⟨k3,rfl,rfl,hinv⟩
     obtain ⟨hk,hj⟩:=hinv
     refine wS (wR ?_)
     refine oL (lP rfl (fun _ _=>nofun) (fun _=>rfl)) rfl rfl ?_
     refine oN (aN (wS ?_))
     refine wC rfl (fun hc112=>?_) (fun hc112=>?_)
     ·skip
      have hlt3:k3 < l[k].p.cls[k2].aux.length:=Int.ofNat_lt.1 (of_decide_eq_true hc112)
      have hx:=hck.auxc _ (List.getElem_mem hlt3)
      refine wK (aN (wS (wB (wS ?_))))
      refine AWP.reb 2 ⟨0,rF axA (l[k].p.cls[k2].aux.take k3)++([.v (.int .i64 l[k].p.cls[k2].aux[k3].of_.k),csA l[k].p.cls[k2].aux[k3].of_.cs,.v (.int .i64 l[k].p.cls[k2].aux[k3].by_),.v (.int .i64 l[k].p.cls[k2].aux[k3].tx)]++rF axA (l[k].p.cls[k2].aux.drop (k3+1))),4,false⟩ rfl (put_ax hlt3) ?_
      refine wR ?_
      refine oL (lM (a:=.v _) rfl) rfl rfl ?_
      refine oL (lA (a:=.v _) rfl) rfl rfl ?_
      refine oN (aN (AWP.regD mixed ?_))
      refine qL (lM (a:=.ptr _ _ _) rfl) rfl rfl ?_
      refine qL (lN rfl rfl rfl) rfl rfl ?_
      refine qL (lF fi76_2 rfl rfl rfl rfl rfl) rfl rfl ?_
      refine qL (lZ (j:=2) row71 rfl rfl (by rw [rF_pre rowCl hlt2]; omega) rfl) rfl rfl ?_
      refine qL (lM (a:=.v _) rfl) rfl rfl ?_
      refine qL (lM (a:=.ptr _ _ _) rfl) rfl rfl ?_
      refine qL (lN rfl rfl rfl) rfl rfl ?_
      refine qL (lF fi76_2 rfl rfl rfl rfl rfl) rfl rfl ?_
      refine qL (lZ (j:=2) row71 rfl rfl (by rw [rF_pre rowCl hlt2]; omega) rfl) rfl rfl ?_
      refine qL (lM (a:=.v _) rfl) rfl rfl ?_
      refine qL (LOp.indexS Tryz.underlying71 sz107 rfl rfl (by first | assumption | omega) rfl rfl rfl rfl) rfl rfl ?_
      refine qL (lF fi107_0 rfl rfl rfl rfl rfl) rfl rfl ?_
      refine qL (lF fi98_1 rfl rfl rfl rfl rfl) rfl rfl ?_
      refine qL (lZ (j:=1) row96 rfl rfl (by rw [rF_pre rowAx hlt3]; omega) rfl) rfl rfl ?_
      refine qL (LOp.call bod59 rfl (CloneL.tree cl_Coef (fun _=>rfl) l[k].p.cls[k2].aux[k3].of_.cs (by omega))) rfl rfl ?_
      refine qL (LOp.indexS Tryz.underlying71 sz107 rfl rfl (by first | assumption | omega) rfl rfl rfl rfl) rfl rfl ?_
      refine qL (lF fi107_0 rfl rfl rfl rfl rfl) rfl rfl ?_
      refine qL (lF fi98_1 rfl rfl rfl rfl rfl) rfl rfl ?_
      refine SeqC.wr (lY (j:=1) (ds:=[.v (.int .i64 l[k].p.cls[k2].aux[k3].of_.k),csA l[k].p.cls[k2].aux[k3].of_.cs,.v (.int .i64 l[k].p.cls[k2].aux[k3].by_),.v (.int .i64 l[k].p.cls[k2].aux[k3].tx)]++rF axA (l[k].p.cls[k2].aux.drop (k3+1))) sz96 rfl rfl (by rw [rF_pre rowAx hlt3]; omega) rfl rfl rfl (put_app rfl)) rfl rfl rfl ?_
      refine SeqC.nil ⟨by kernel_rfl,?_⟩
      refine bN (aN ?_)
      refine AWP.reb 2 ⟨0,rF axA l[k].p.cls[k2].aux,4,false⟩ rfl (put_ax hlt3).symm ?_
      refine wR ?_
      refine oL (lJ rfl rfl (by omega) (by omega)) rfl rfl ?_
      refine oL (lM (a:=.v _) rfl) rfl rfl ?_
      refine oN (aN ?_)
      refine ⟨(l[k].p.cls[k2].aux.length - (k3+1)),⟨fL [(0,.sl 0 0 0 l.length),(4,.ptr 0 0 (0+k * 5+1)),(6,.ptr 1 0 (0+k2 * 7)),(12,.v (.int .i64 ((l.length:Nat):Int))),(13,.v (.int .i64 ((k:Nat):Int))),(40,.v (.int .i64 ((l[k].p.cls.length:Nat):Int))),(41,.v (.int .i64 ((k2:Nat):Int))),(110,.v (.int .i64 ((l[k].p.cls[k2].aux.length:Nat):Int))),(111,.v (.int .i64 (((k3+1):Nat):Int)))],hLz [(0,⟨0,rF acA (l.take k)++([.v (.bool l[k].wr),.v (.int .i64 l[k].p.tab),.v (.int .i64 l[k].p.cols),vsA l[k].p.vars,.sl 1 0 0 l[k].p.cls.length]++rF acA (l.drop (k+1))),5,false⟩),(1,⟨0,rF clA (l[k].p.cls.take k2)++([isA l[k].p.cls[k2].nul,isA l[k].p.cls[k2].nn,.sl 2 0 0 l[k].p.cls[k2].aux.length,.tree 3 (l[k].p.cls[k2].ints.map cnA),.tree 4 (l[k].p.cls[k2].tests.map teA),psA l[k].p.cls[k2].same,psA l[k].p.cls[k2].diff]++rF clA (l[k].p.cls.drop (k2+1))),7,false⟩),(2,⟨0,rF axA l[k].p.cls[k2].aux,4,false⟩)],3⟩,by omega,(cO (.cons rfl rfl (.cons rfl rfl (.cons rfl rfl (.cons rfl rfl (.cons rfl rfl (.cons rfl rfl (.cons rfl rfl (.cons rfl rfl (.cons rfl rfl .nil))))))))) (.cons rfl rfl (low_zip rowAc rfl) (.cons rfl rfl (low_zip rowCl rfl) (.cons rfl rfl (rF_low rowAx _ _) .nil)))),(k3+1),rfl,rfl,?_⟩
      exact ⟨by omega,fun j h=>rfl⟩
     ·skip
      have hge3:¬ k3 < l[k].p.cls[k2].aux.length:=fun h=>of_decide_eq_false hc112 (Int.ofNat_lt.2 h)
      refine AWP.exit (aE (aE (bE ?_)))
      refine aN (wS (wR ?_))
      refine oL (lM (a:=.ptr _ _ _) rfl) rfl rfl ?_
      refine oL (lN rfl rfl rfl) rfl rfl ?_
      refine oL (lF fi76_3 rfl rfl rfl rfl rfl) rfl rfl ?_
      refine oL (lZ (j:=3) row72 rfl rfl (by rw [rF_pre rowCl hlt2]; omega) rfl) rfl rfl ?_
      refine oL (lT rfl Tryz.underlying72 rfl) rfl rfl ?_
      refine oL (lM (a:=.v _) rfl) rfl rfl ?_
      refine oN (aN (wB ?_))
      refine AWP.loopExit ?_
      refine wS (wR ?_)
      refine oL (lP rfl (fun _ _=>nofun) (fun _=>rfl)) rfl rfl ?_
      refine oN (aN (wS ?_))
      refine wC rfl (fun hc139=>?_) (fun hc139=>?_)
      ·skip
       have hx139:=of_decide_eq_true hc139; rw [hi] at hx139; exact absurd hx139 (by simp)
      ·skip
       refine AWP.exit (aE (aE (bE ?_)))
       refine bN (aN ?_)
       refine AWP.freezeB [2] 1 0 7 (rF clA (l[k].p.cls.take k2)++([isA l[k].p.cls[k2].nul,isA l[k].p.cls[k2].nn,.sl 2 0 0 l[k].p.cls[k2].aux.length,.tree 3 (l[k].p.cls[k2].ints.map cnA),.tree 4 (l[k].p.cls[k2].tests.map teA),psA l[k].p.cls[k2].same,psA l[k].p.cls[k2].diff]++rF clA (l[k].p.cls.drop (k2+1)))) (rF clA (l[k].p.cls.take k2)++([isA l[k].p.cls[k2].nul,isA l[k].p.cls[k2].nn,.tree 4 (l[k].p.cls[k2].aux.map axA),.tree 3 (l[k].p.cls[k2].ints.map cnA),.tree 4 (l[k].p.cls[k2].tests.map teA),psA l[k].p.cls[k2].same,psA l[k].p.cls[k2].diff]++rF clA (l[k].p.cls.drop (k2+1)))) rfl rfl (FzLO.pre (.keep (.keep (.fz (FzP.rowsF rowAx (by simp) rfl) (.keep (.same _))))) _) rfl ?_
       refine AWP.reb 1 ⟨0,rF clA l[k].p.cls,7,false⟩ rfl (put_cl hlt2).symm ?_
       refine wR ?_
       refine oL (lJ rfl rfl (by omega) (by omega)) rfl rfl ?_
       refine oL (lM (a:=.v _) rfl) rfl rfl ?_
       refine oN (aN ?_)
       refine ⟨(l[k].p.cls.length - (k2+1)),⟨fL [(0,.sl 0 0 0 l.length),(4,.ptr 0 0 (0+k * 5+1)),(12,.v (.int .i64 ((l.length:Nat):Int))),(13,.v (.int .i64 ((k:Nat):Int))),(40,.v (.int .i64 ((l[k].p.cls.length:Nat):Int))),(41,.v (.int .i64 (((k2+1):Nat):Int)))],hLz [(0,⟨0,rF acA (l.take k)++([.v (.bool l[k].wr),.v (.int .i64 l[k].p.tab),.v (.int .i64 l[k].p.cols),vsA l[k].p.vars,.sl 1 0 0 l[k].p.cls.length]++rF acA (l.drop (k+1))),5,false⟩),(1,⟨0,rF clA l[k].p.cls,7,false⟩)],2⟩,by omega,(cO (.cons rfl rfl (.cons rfl rfl (.cons rfl rfl (.cons rfl rfl (.cons rfl rfl (.cons rfl rfl .nil)))))) (.cons rfl rfl (low_zip rowAc rfl) (.cons rfl rfl (rF_low rowCl _ _) .nil))),(k2+1),rfl,rfl,?_⟩
       exact ⟨by omega,fun j h=>rfl⟩
    ·skip
     refine AWP.regD mixed ?_
     refine qL (lM (a:=.ptr _ _ _) rfl) rfl rfl ?_
     refine qL (lM (a:=.ptr _ _ _) rfl) rfl rfl ?_
     refine qL (lM (a:=.ptr _ _ _) rfl) rfl rfl ?_
     refine qL (lN rfl rfl rfl) rfl rfl ?_
     refine qL (lF fi76_2 rfl rfl rfl rfl rfl) rfl rfl ?_
     refine qL (lZ (j:=2) row71 rfl rfl (by rw [rF_pre rowCl hlt2]; omega) rfl) rfl rfl ?_
     refine SeqC.gv (LOp.callH [(0,2)] bod57 (CloneL.own cl_Aux rowAx l[k].p.cls[k2].aux ha (by omega)) rfl rfl rfl rfl trivial trivial ⟨rF_in rowAx _ _,trivial⟩ rfl rfl rfl rfl (delta_own rowAx rfl) rfl) rfl rfl 3 rfl rfl ?_
     refine qL (lM (a:=.ptr _ _ _) rfl) rfl rfl ?_
     refine qL (lN rfl rfl rfl) rfl rfl ?_
     refine qL (lF fi76_3 rfl rfl rfl rfl rfl) rfl rfl ?_
     refine qL (lZ (j:=3) row72 rfl rfl (by rw [rF_pre rowCl hlt2]; omega) rfl) rfl rfl ?_
     refine SeqC.gv (LOp.callH [(0,3)] bod58 (CloneL.own cl_Con rowCn l[k].p.cls[k2].ints hi (by omega)) rfl rfl rfl rfl trivial trivial ⟨rF_in rowCn _ _,trivial⟩ rfl rfl rfl rfl (delta_own rowCn rfl) rfl) rfl rfl 4 rfl rfl ?_
     refine qL (lN rfl rfl rfl) rfl rfl ?_
     refine qL (lF fi76_2 rfl rfl rfl rfl rfl) rfl rfl ?_
     refine SeqC.wr (lY (j:=2) (ds:=[isA l[k].p.cls[k2].nul,isA l[k].p.cls[k2].nn,.sl 2 0 0 l[k].p.cls[k2].aux.length,.tree 3 (l[k].p.cls[k2].ints.map cnA),.tree 4 (l[k].p.cls[k2].tests.map teA),psA l[k].p.cls[k2].same,psA l[k].p.cls[k2].diff]++rF clA (l[k].p.cls.drop (k2+1))) sz71 rfl rfl (by rw [rF_pre rowCl hlt2]; omega) rfl rfl rfl (put_app rfl)) rfl rfl rfl ?_
     refine qL (lN rfl rfl rfl) rfl rfl ?_
     refine qL (lF fi76_3 rfl rfl rfl rfl rfl) rfl rfl ?_
     refine SeqC.wr (lY (j:=3) (ds:=[isA l[k].p.cls[k2].nul,isA l[k].p.cls[k2].nn,.sl 2 0 0 l[k].p.cls[k2].aux.length,.sl 3 0 0 l[k].p.cls[k2].ints.length,.tree 4 (l[k].p.cls[k2].tests.map teA),psA l[k].p.cls[k2].same,psA l[k].p.cls[k2].diff]++rF clA (l[k].p.cls.drop (k2+1))) sz72 rfl rfl (by rw [rF_pre rowCl hlt2]; omega) rfl rfl rfl (put_app rfl)) rfl rfl rfl ?_
     refine SeqC.nil ⟨by kernel_rfl,?_⟩
     refine aN (wS (wS (wR ?_)))
     refine oL (lM (a:=.ptr _ _ _) rfl) rfl rfl ?_
     refine oL (lN rfl rfl rfl) rfl rfl ?_
     refine oL (lF fi76_2 rfl rfl rfl rfl rfl) rfl rfl ?_
     refine oL (lZ (j:=2) row71 rfl rfl (by rw [rF_pre rowCl hlt2]; omega) rfl) rfl rfl ?_
     refine oL (LOp.lenS rfl Tryz.underlying71 rfl rfl rfl) rfl rfl ?_
     refine oL (lM (a:=.v _) rfl) rfl rfl ?_
     refine oN (aN (wB ?_))
     refine wL (fun n s=>∃ k3:Nat,n=(l[k].p.cls[k2].aux.length - k3)∧s=⟨fL [(0,.sl 0 0 0 l.length),(4,.ptr 0 0 (0+k * 5+1)),(6,.ptr 1 0 (0+k2 * 7)),(12,.v (.int .i64 ((l.length:Nat):Int))),(13,.v (.int .i64 ((k:Nat):Int))),(40,.v (.int .i64 ((l[k].p.cls.length:Nat):Int))),(41,.v (.int .i64 ((k2:Nat):Int))),(110,.v (.int .i64 ((l[k].p.cls[k2].aux.length:Nat):Int))),(111,.v (.int .i64 ((k3:Nat):Int)))],hLz [(0,⟨0,rF acA (l.take k)++([.v (.bool l[k].wr),.v (.int .i64 l[k].p.tab),.v (.int .i64 l[k].p.cols),vsA l[k].p.vars,.sl 1 0 0 l[k].p.cls.length]++rF acA (l.drop (k+1))),5,false⟩),(1,⟨0,rF clA (l[k].p.cls.take k2)++([isA l[k].p.cls[k2].nul,isA l[k].p.cls[k2].nn,.sl 2 0 0 l[k].p.cls[k2].aux.length,.sl 3 0 0 l[k].p.cls[k2].ints.length,.tree 4 (l[k].p.cls[k2].tests.map teA),psA l[k].p.cls[k2].same,psA l[k].p.cls[k2].diff]++rF clA (l[k].p.cls.drop (k2+1))),7,false⟩),(2,⟨0,rF axA l[k].p.cls[k2].aux,4,false⟩),(3,⟨0,rF cnA l[k].p.cls[k2].ints,3,false⟩)],4⟩∧(k3≤l[k].p.cls[k2].aux.length∧∀ j,j < k3→(fun _=>true) j=true)) (n:=(l[k].p.cls[k2].aux.length - 0)) (s1:=⟨fL [(0,.sl 0 0 0 l.length),(4,.ptr 0 0 (0+k * 5+1)),(6,.ptr 1 0 (0+k2 * 7)),(12,.v (.int .i64 ((l.length:Nat):Int))),(13,.v (.int .i64 ((k:Nat):Int))),(40,.v (.int .i64 ((l[k].p.cls.length:Nat):Int))),(41,.v (.int .i64 ((k2:Nat):Int))),(110,.v (.int .i64 ((l[k].p.cls[k2].aux.length:Nat):Int))),(111,.v (.int .i64 ((0:Nat):Int)))],hLz [(0,⟨0,rF acA (l.take k)++([.v (.bool l[k].wr),.v (.int .i64 l[k].p.tab),.v (.int .i64 l[k].p.cols),vsA l[k].p.vars,.sl 1 0 0 l[k].p.cls.length]++rF acA (l.drop (k+1))),5,false⟩),(1,⟨0,rF clA (l[k].p.cls.take k2)++([isA l[k].p.cls[k2].nul,isA l[k].p.cls[k2].nn,.sl 2 0 0 l[k].p.cls[k2].aux.length,.sl 3 0 0 l[k].p.cls[k2].ints.length,.tree 4 (l[k].p.cls[k2].tests.map teA),psA l[k].p.cls[k2].same,psA l[k].p.cls[k2].diff]++rF clA (l[k].p.cls.drop (k2+1))),7,false⟩),(2,⟨0,rF axA l[k].p.cls[k2].aux,4,false⟩),(3,⟨0,rF cnA l[k].p.cls[k2].ints,3,false⟩)],4⟩) (cO (.cons rfl rfl (.cons rfl rfl (.cons rfl rfl (.cons rfl rfl (.cons rfl rfl (.cons rfl rfl (.cons rfl rfl (.cons rfl rfl (.cons rfl rfl .nil))))))))) (.cons rfl rfl (low_zip rowAc rfl) (.cons rfl rfl (low_zip rowCl rfl) (.cons rfl rfl (rF_low rowAx _ _) (.cons rfl rfl (rF_low rowCn _ _) .nil))))) ⟨0,rfl,rfl,⟨Nat.zero_le _,fun j h=>absurd h (Nat.not_lt_zero j)⟩⟩ ?_
     rintro n s ⟨k3,rfl,rfl,hinv⟩
     obtain ⟨hk,hj⟩:=hinv
     refine wS (wR ?_)
     refine oL (lP rfl (fun _ _=>nofun) (fun _=>rfl)) rfl rfl ?_
     refine oN (aN (wS ?_))
     refine wC rfl (fun hc112=>?_) (fun hc112=>?_)
     ·skip
      have hlt3:k3 < l[k].p.cls[k2].aux.length:=Int.ofNat_lt.1 (of_decide_eq_true hc112)
      have hx:=hck.auxc _ (List.getElem_mem hlt3)
      refine wK (aN (wS (wB (wS ?_))))
      refine AWP.reb 2 ⟨0,rF axA (l[k].p.cls[k2].aux.take k3)++([.v (.int .i64 l[k].p.cls[k2].aux[k3].of_.k),csA l[k].p.cls[k2].aux[k3].of_.cs,.v (.int .i64 l[k].p.cls[k2].aux[k3].by_),.v (.int .i64 l[k].p.cls[k2].aux[k3].tx)]++rF axA (l[k].p.cls[k2].aux.drop (k3+1))),4,false⟩ rfl (put_ax hlt3) ?_
      refine wR ?_
      refine oL (lM (a:=.v _) rfl) rfl rfl ?_
      refine oL (lA (a:=.v _) rfl) rfl rfl ?_
      refine oN (aN (AWP.regD mixed ?_))
      refine qL (lM (a:=.ptr _ _ _) rfl) rfl rfl ?_
      refine qL (lN rfl rfl rfl) rfl rfl ?_
      refine qL (lF fi76_2 rfl rfl rfl rfl rfl) rfl rfl ?_
      refine qL (lZ (j:=2) row71 rfl rfl (by rw [rF_pre rowCl hlt2]; omega) rfl) rfl rfl ?_
      refine qL (lM (a:=.v _) rfl) rfl rfl ?_
      refine qL (lM (a:=.ptr _ _ _) rfl) rfl rfl ?_
      refine qL (lN rfl rfl rfl) rfl rfl ?_
      refine qL (lF fi76_2 rfl rfl rfl rfl rfl) rfl rfl ?_
      refine qL (lZ (j:=2) row71 rfl rfl (by rw [rF_pre rowCl hlt2]; omega) rfl) rfl rfl ?_
      refine qL (lM (a:=.v _) rfl) rfl rfl ?_
      refine qL (LOp.indexS Tryz.underlying71 sz107 rfl rfl (by first | assumption | omega) rfl rfl rfl rfl) rfl rfl ?_
      refine qL (lF fi107_0 rfl rfl rfl rfl rfl) rfl rfl ?_
      refine qL (lF fi98_1 rfl rfl rfl rfl rfl) rfl rfl ?_
      refine qL (lZ (j:=1) row96 rfl rfl (by rw [rF_pre rowAx hlt3]; omega) rfl) rfl rfl ?_
      refine qL (LOp.call bod59 rfl (CloneL.tree cl_Coef (fun _=>rfl) l[k].p.cls[k2].aux[k3].of_.cs (by omega))) rfl rfl ?_
      refine qL (LOp.indexS Tryz.underlying71 sz107 rfl rfl (by first | assumption | omega) rfl rfl rfl rfl) rfl rfl ?_
      refine qL (lF fi107_0 rfl rfl rfl rfl rfl) rfl rfl ?_
      refine qL (lF fi98_1 rfl rfl rfl rfl rfl) rfl rfl ?_
      refine SeqC.wr (lY (j:=1) (ds:=[.v (.int .i64 l[k].p.cls[k2].aux[k3].of_.k),csA l[k].p.cls[k2].aux[k3].of_.cs,.v (.int .i64 l[k].p.cls[k2].aux[k3].by_),.v (.int .i64 l[k].p.cls[k2].aux[k3].tx)]++rF axA (l[k].p.cls[k2].aux.drop (k3+1))) sz96 rfl rfl (by rw [rF_pre rowAx hlt3]; omega) rfl rfl rfl (put_app rfl)) rfl rfl rfl ?_
      refine SeqC.nil ⟨by kernel_rfl,?_⟩
      refine bN (aN ?_)
      refine AWP.reb 2 ⟨0,rF axA l[k].p.cls[k2].aux,4,false⟩ rfl (put_ax hlt3).symm ?_
      refine wR ?_
      refine oL (lJ rfl rfl (by omega) (by omega)) rfl rfl ?_
      refine oL (lM (a:=.v _) rfl) rfl rfl ?_
      refine oN (aN ?_)
      refine ⟨(l[k].p.cls[k2].aux.length - (k3+1)),⟨fL [(0,.sl 0 0 0 l.length),(4,.ptr 0 0 (0+k * 5+1)),(6,.ptr 1 0 (0+k2 * 7)),(12,.v (.int .i64 ((l.length:Nat):Int))),(13,.v (.int .i64 ((k:Nat):Int))),(40,.v (.int .i64 ((l[k].p.cls.length:Nat):Int))),(41,.v (.int .i64 ((k2:Nat):Int))),(110,.v (.int .i64 ((l[k].p.cls[k2].aux.length:Nat):Int))),(111,.v (.int .i64 (((k3+1):Nat):Int)))],hLz [(0,⟨0,rF acA (l.take k)++([.v (.bool l[k].wr),.v (.int .i64 l[k].p.tab),.v (.int .i64 l[k].p.cols),vsA l[k].p.vars,.sl 1 0 0 l[k].p.cls.length]++rF acA (l.drop (k+1))),5,false⟩),(1,⟨0,rF clA (l[k].p.cls.take k2)++([isA l[k].p.cls[k2].nul,isA l[k].p.cls[k2].nn,.sl 2 0 0 l[k].p.cls[k2].aux.length,.sl 3 0 0 l[k].p.cls[k2].ints.length,.tree 4 (l[k].p.cls[k2].tests.map teA),psA l[k].p.cls[k2].same,psA l[k].p.cls[k2].diff]++rF clA (l[k].p.cls.drop (k2+1))),7,false⟩),(2,⟨0,rF axA l[k].p.cls[k2].aux,4,false⟩),(3,⟨0,rF cnA l[k].p.cls[k2].ints,3,false⟩)],4⟩,by omega,(cO (.cons rfl rfl (.cons rfl rfl (.cons rfl rfl (.cons rfl rfl (.cons rfl rfl (.cons rfl rfl (.cons rfl rfl (.cons rfl rfl (.cons rfl rfl .nil))))))))) (.cons rfl rfl (low_zip rowAc rfl) (.cons rfl rfl (low_zip rowCl rfl) (.cons rfl rfl (rF_low rowAx _ _) (.cons rfl rfl (rF_low rowCn _ _) .nil))))),(k3+1),rfl,rfl,?_⟩
      exact ⟨by omega,fun j h=>rfl⟩
     ·skip
      have hge3:¬ k3 < l[k].p.cls[k2].aux.length:=fun h=>of_decide_eq_false hc112 (Int.ofNat_lt.2 h)
      refine AWP.exit (aE (aE (bE ?_)))
      refine aN (wS (wR ?_))
      refine oL (lM (a:=.ptr _ _ _) rfl) rfl rfl ?_
      refine oL (lN rfl rfl rfl) rfl rfl ?_
      refine oL (lF fi76_3 rfl rfl rfl rfl rfl) rfl rfl ?_
      refine oL (lZ (j:=3) row72 rfl rfl (by rw [rF_pre rowCl hlt2]; omega) rfl) rfl rfl ?_
      refine oL (LOp.lenS rfl Tryz.underlying72 rfl rfl rfl) rfl rfl ?_
      refine oL (lM (a:=.v _) rfl) rfl rfl ?_
      refine oN (aN (wB ?_))
      refine wL (fun n s=>∃ k4:Nat,n=(l[k].p.cls[k2].ints.length - k4)∧s=⟨fL [(0,.sl 0 0 0 l.length),(4,.ptr 0 0 (0+k * 5+1)),(6,.ptr 1 0 (0+k2 * 7)),(12,.v (.int .i64 ((l.length:Nat):Int))),(13,.v (.int .i64 ((k:Nat):Int))),(40,.v (.int .i64 ((l[k].p.cls.length:Nat):Int))),(41,.v (.int .i64 ((k2:Nat):Int))),(137,.v (.int .i64 ((l[k].p.cls[k2].ints.length:Nat):Int))),(138,.v (.int .i64 ((k4:Nat):Int)))],hLz [(0,⟨0,rF acA (l.take k)++([.v (.bool l[k].wr),.v (.int .i64 l[k].p.tab),.v (.int .i64 l[k].p.cols),vsA l[k].p.vars,.sl 1 0 0 l[k].p.cls.length]++rF acA (l.drop (k+1))),5,false⟩),(1,⟨0,rF clA (l[k].p.cls.take k2)++([isA l[k].p.cls[k2].nul,isA l[k].p.cls[k2].nn,.sl 2 0 0 l[k].p.cls[k2].aux.length,.sl 3 0 0 l[k].p.cls[k2].ints.length,.tree 4 (l[k].p.cls[k2].tests.map teA),psA l[k].p.cls[k2].same,psA l[k].p.cls[k2].diff]++rF clA (l[k].p.cls.drop (k2+1))),7,false⟩),(2,⟨0,rF axA l[k].p.cls[k2].aux,4,false⟩),(3,⟨0,rF cnA l[k].p.cls[k2].ints,3,false⟩)],4⟩∧(k4≤l[k].p.cls[k2].ints.length∧∀ j,j < k4→(fun _=>true) j=true)) (n:=(l[k].p.cls[k2].ints.length - 0)) (s1:=⟨fL [(0,.sl 0 0 0 l.length),(4,.ptr 0 0 (0+k * 5+1)),(6,.ptr 1 0 (0+k2 * 7)),(12,.v (.int .i64 ((l.length:Nat):Int))),(13,.v (.int .i64 ((k:Nat):Int))),(40,.v (.int .i64 ((l[k].p.cls.length:Nat):Int))),(41,.v (.int .i64 ((k2:Nat):Int))),(137,.v (.int .i64 ((l[k].p.cls[k2].ints.length:Nat):Int))),(138,.v (.int .i64 ((0:Nat):Int)))],hLz [(0,⟨0,rF acA (l.take k)++([.v (.bool l[k].wr),.v (.int .i64 l[k].p.tab),.v (.int .i64 l[k].p.cols),vsA l[k].p.vars,.sl 1 0 0 l[k].p.cls.length]++rF acA (l.drop (k+1))),5,false⟩),(1,⟨0,rF clA (l[k].p.cls.take k2)++([isA l[k].p.cls[k2].nul,isA l[k].p.cls[k2].nn,.sl 2 0 0 l[k].p.cls[k2].aux.length,.sl 3 0 0 l[k].p.cls[k2].ints.length,.tree 4 (l[k].p.cls[k2].tests.map teA),psA l[k].p.cls[k2].same,psA l[k].p.cls[k2].diff]++rF clA (l[k].p.cls.drop (k2+1))),7,false⟩),(2,⟨0,rF axA l[k].p.cls[k2].aux,4,false⟩),(3,⟨0,rF cnA l[k].p.cls[k2].ints,3,false⟩)],4⟩) (cO (.cons rfl rfl (.cons rfl rfl (.cons rfl rfl (.cons rfl rfl (.cons rfl rfl (.cons rfl rfl (.cons rfl rfl (.cons rfl rfl (.cons rfl rfl .nil))))))))) (.cons rfl rfl (low_zip rowAc rfl) (.cons rfl rfl (low_zip rowCl rfl) (.cons rfl rfl (rF_low rowAx _ _) (.cons rfl rfl (rF_low rowCn _ _) .nil))))) ⟨0,rfl,rfl,⟨Nat.zero_le _,fun j h=>absurd h (Nat.not_lt_zero j)⟩⟩ ?_
      rintro n s ⟨k4,rfl,rfl,hinv⟩
      obtain ⟨hk,hj⟩:=hinv
      refine wS (wR ?_)
      refine oL (lP rfl (fun _ _=>nofun) (fun _=>rfl)) rfl rfl ?_
      refine oN (aN (wS ?_))
      refine wC rfl (fun hc139=>?_) (fun hc139=>?_)
      ·skip
       have hlt4:k4 < l[k].p.cls[k2].ints.length:=Int.ofNat_lt.1 (of_decide_eq_true hc139)
       have hx:=hck.intc _ (List.getElem_mem hlt4)
       refine wK (aN (wS (wB (wS ?_))))
       refine AWP.reb 3 ⟨0,rF cnA (l[k].p.cls[k2].ints.take k4)++([.v (.int .i64 l[k].p.cls[k2].ints[k4].l.k),csA l[k].p.cls[k2].ints[k4].l.cs,.v (.bool l[k].p.cls[k2].ints[k4].eq)]++rF cnA (l[k].p.cls[k2].ints.drop (k4+1))),3,false⟩ rfl (put_cn hlt4) ?_
       refine wR ?_
       refine oL (lM (a:=.v _) rfl) rfl rfl ?_
       refine oL (lA (a:=.v _) rfl) rfl rfl ?_
       refine oN (aN (AWP.regD mixed ?_))
       refine qL (lM (a:=.ptr _ _ _) rfl) rfl rfl ?_
       refine qL (lN rfl rfl rfl) rfl rfl ?_
       refine qL (lF fi76_3 rfl rfl rfl rfl rfl) rfl rfl ?_
       refine qL (lZ (j:=3) row72 rfl rfl (by rw [rF_pre rowCl hlt2]; omega) rfl) rfl rfl ?_
       refine qL (lM (a:=.v _) rfl) rfl rfl ?_
       refine qL (lM (a:=.ptr _ _ _) rfl) rfl rfl ?_
       refine qL (lN rfl rfl rfl) rfl rfl ?_
       refine qL (lF fi76_3 rfl rfl rfl rfl rfl) rfl rfl ?_
       refine qL (lZ (j:=3) row72 rfl rfl (by rw [rF_pre rowCl hlt2]; omega) rfl) rfl rfl ?_
       refine qL (lM (a:=.v _) rfl) rfl rfl ?_
       refine qL (LOp.indexS Tryz.underlying72 sz100 rfl rfl (by first | assumption | omega) rfl rfl rfl rfl) rfl rfl ?_
       refine qL (lF fi100_0 rfl rfl rfl rfl rfl) rfl rfl ?_
       refine qL (lF fi98_1 rfl rfl rfl rfl rfl) rfl rfl ?_
       refine qL (lZ (j:=1) row96 rfl rfl (by rw [rF_pre rowCn hlt4]; omega) rfl) rfl rfl ?_
       refine qL (LOp.call bod59 rfl (CloneL.tree cl_Coef (fun _=>rfl) l[k].p.cls[k2].ints[k4].l.cs (by omega))) rfl rfl ?_
       refine qL (LOp.indexS Tryz.underlying72 sz100 rfl rfl (by first | assumption | omega) rfl rfl rfl rfl) rfl rfl ?_
       refine qL (lF fi100_0 rfl rfl rfl rfl rfl) rfl rfl ?_
       refine qL (lF fi98_1 rfl rfl rfl rfl rfl) rfl rfl ?_
       refine SeqC.wr (lY (j:=1) (ds:=[.v (.int .i64 l[k].p.cls[k2].ints[k4].l.k),csA l[k].p.cls[k2].ints[k4].l.cs,.v (.bool l[k].p.cls[k2].ints[k4].eq)]++rF cnA (l[k].p.cls[k2].ints.drop (k4+1))) sz96 rfl rfl (by rw [rF_pre rowCn hlt4]; omega) rfl rfl rfl (put_app rfl)) rfl rfl rfl ?_
       refine SeqC.nil ⟨by kernel_rfl,?_⟩
       refine bN (aN ?_)
       refine AWP.reb 3 ⟨0,rF cnA l[k].p.cls[k2].ints,3,false⟩ rfl (put_cn hlt4).symm ?_
       refine wR ?_
       refine oL (lJ rfl rfl (by omega) (by omega)) rfl rfl ?_
       refine oL (lM (a:=.v _) rfl) rfl rfl ?_
       refine oN (aN ?_)
       refine ⟨(l[k].p.cls[k2].ints.length - (k4+1)),⟨fL [(0,.sl 0 0 0 l.length),(4,.ptr 0 0 (0+k * 5+1)),(6,.ptr 1 0 (0+k2 * 7)),(12,.v (.int .i64 ((l.length:Nat):Int))),(13,.v (.int .i64 ((k:Nat):Int))),(40,.v (.int .i64 ((l[k].p.cls.length:Nat):Int))),(41,.v (.int .i64 ((k2:Nat):Int))),(137,.v (.int .i64 ((l[k].p.cls[k2].ints.length:Nat):Int))),(138,.v (.int .i64 (((k4+1):Nat):Int)))],hLz [(0,⟨0,rF acA (l.take k)++([.v (.bool l[k].wr),.v (.int .i64 l[k].p.tab),.v (.int .i64 l[k].p.cols),vsA l[k].p.vars,.sl 1 0 0 l[k].p.cls.length]++rF acA (l.drop (k+1))),5,false⟩),(1,⟨0,rF clA (l[k].p.cls.take k2)++([isA l[k].p.cls[k2].nul,isA l[k].p.cls[k2].nn,.sl 2 0 0 l[k].p.cls[k2].aux.length,.sl 3 0 0 l[k].p.cls[k2].ints.length,.tree 4 (l[k].p.cls[k2].tests.map teA),psA l[k].p.cls[k2].same,psA l[k].p.cls[k2].diff]++rF clA (l[k].p.cls.drop (k2+1))),7,false⟩),(2,⟨0,rF axA l[k].p.cls[k2].aux,4,false⟩),(3,⟨0,rF cnA l[k].p.cls[k2].ints,3,false⟩)],4⟩,by omega,(cO (.cons rfl rfl (.cons rfl rfl (.cons rfl rfl (.cons rfl rfl (.cons rfl rfl (.cons rfl rfl (.cons rfl rfl (.cons rfl rfl (.cons rfl rfl .nil))))))))) (.cons rfl rfl (low_zip rowAc rfl) (.cons rfl rfl (low_zip rowCl rfl) (.cons rfl rfl (rF_low rowAx _ _) (.cons rfl rfl (rF_low rowCn _ _) .nil))))),(k4+1),rfl,rfl,?_⟩
       exact ⟨by omega,fun j h=>rfl⟩
      ·skip
       have hge4:¬ k4 < l[k].p.cls[k2].ints.length:=fun h=>of_decide_eq_false hc139 (Int.ofNat_lt.2 h)
       refine AWP.exit (aE (aE (bE ?_)))
       refine bN (aN ?_)
       refine AWP.freezeB [2,3] 1 0 7 (rF clA (l[k].p.cls.take k2)++([isA l[k].p.cls[k2].nul,isA l[k].p.cls[k2].nn,.sl 2 0 0 l[k].p.cls[k2].aux.length,.sl 3 0 0 l[k].p.cls[k2].ints.length,.tree 4 (l[k].p.cls[k2].tests.map teA),psA l[k].p.cls[k2].same,psA l[k].p.cls[k2].diff]++rF clA (l[k].p.cls.drop (k2+1)))) (rF clA (l[k].p.cls.take k2)++([isA l[k].p.cls[k2].nul,isA l[k].p.cls[k2].nn,.tree 4 (l[k].p.cls[k2].aux.map axA),.tree 3 (l[k].p.cls[k2].ints.map cnA),.tree 4 (l[k].p.cls[k2].tests.map teA),psA l[k].p.cls[k2].same,psA l[k].p.cls[k2].diff]++rF clA (l[k].p.cls.drop (k2+1)))) rfl rfl (FzLO.pre (.keep (.keep (.fz (FzP.rowsF rowAx (by simp) rfl) (.fz (FzP.rowsF rowCn (by simp) rfl) (.same _))))) _) rfl ?_
       refine AWP.reb 1 ⟨0,rF clA l[k].p.cls,7,false⟩ rfl (put_cl hlt2).symm ?_
       refine wR ?_
       refine oL (lJ rfl rfl (by omega) (by omega)) rfl rfl ?_
       refine oL (lM (a:=.v _) rfl) rfl rfl ?_
       refine oN (aN ?_)
       refine ⟨(l[k].p.cls.length - (k2+1)),⟨fL [(0,.sl 0 0 0 l.length),(4,.ptr 0 0 (0+k * 5+1)),(12,.v (.int .i64 ((l.length:Nat):Int))),(13,.v (.int .i64 ((k:Nat):Int))),(40,.v (.int .i64 ((l[k].p.cls.length:Nat):Int))),(41,.v (.int .i64 (((k2+1):Nat):Int)))],hLz [(0,⟨0,rF acA (l.take k)++([.v (.bool l[k].wr),.v (.int .i64 l[k].p.tab),.v (.int .i64 l[k].p.cols),vsA l[k].p.vars,.sl 1 0 0 l[k].p.cls.length]++rF acA (l.drop (k+1))),5,false⟩),(1,⟨0,rF clA l[k].p.cls,7,false⟩)],2⟩,by omega,(cO (.cons rfl rfl (.cons rfl rfl (.cons rfl rfl (.cons rfl rfl (.cons rfl rfl (.cons rfl rfl .nil)))))) (.cons rfl rfl (low_zip rowAc rfl) (.cons rfl rfl (rF_low rowCl _ _) .nil))),(k2+1),rfl,rfl,?_⟩
       exact ⟨by omega,fun j h=>rfl⟩
   ·skip
    have hge2:¬ k2 < l[k].p.cls.length:=fun h=>of_decide_eq_false hc42 (Int.ofNat_lt.2 h)
    refine AWP.exit (aE (aE (bE ?_)))
    refine bN (aN ?_)
    refine AWP.freezeB [1] 0 0 5 (rF acA (l.take k)++([.v (.bool l[k].wr),.v (.int .i64 l[k].p.tab),.v (.int .i64 l[k].p.cols),vsA l[k].p.vars,.sl 1 0 0 l[k].p.cls.length]++rF acA (l.drop (k+1)))) (rF acA (l.take k)++([.v (.bool l[k].wr),.v (.int .i64 l[k].p.tab),.v (.int .i64 l[k].p.cols),vsA l[k].p.vars,.tree 7 (l[k].p.cls.map clA)]++rF acA (l.drop (k+1)))) rfl rfl (FzLO.pre (.keep (.keep (.keep (.keep (.fz (FzP.rowsF rowCl (by simp) rfl) (.same _)))))) _) rfl ?_
    refine AWP.reb 0 ⟨0,rF acA l,5,false⟩ rfl (put_ac hlt).symm ?_
    refine wR ?_
    refine oL (lJ rfl rfl (by omega) (by omega)) rfl rfl ?_
    refine oL (lM (a:=.v _) rfl) rfl rfl ?_
    refine oN (aN ?_)
    refine ⟨(l.length - (k+1)),⟨fL [(0,.sl 0 0 0 l.length),(12,.v (.int .i64 ((l.length:Nat):Int))),(13,.v (.int .i64 (((k+1):Nat):Int)))],hLz [(0,⟨0,rF acA l,5,false⟩)],1⟩,by omega,(cO (.cons rfl rfl (.cons rfl rfl (.cons rfl rfl .nil))) (.cons rfl rfl (rF_low rowAc _ _) .nil)),(k+1),rfl,rfl,?_⟩
    exact ⟨by omega,fun j h=>rfl⟩
 ·skip
  have hge:¬ k < l.length:=fun h=>of_decide_eq_false hc14 (Int.ofNat_lt.2 h)
  refine AWP.exit (aE (aE (bE ?_)))
  refine aN (wS (wR ?_))
  refine oL (lM (a:=.sl _ _ _ _) rfl) rfl rfl ?_
  refine oL (lA (a:=.sl _ _ _ _) rfl) rfl rfl ?_
  refine oN (aN ?_)
  refine wT (?_)
  refine ⟨.inr rfl,Outs.tmp Tryz.results27 ?_⟩
  exact ⟨[0],FzP.rowsF rowAc (List.mem_singleton.2 rfl) rfl⟩
set_option maxRecDepth 100000 in
set_option maxHeartbeats 4000000 in
theorem clone_0 (l:List PAcc) (h0:l=[]):PCall Tryz.prog 27 [.tree 5 (l.map acA)] (.tree 5 (l.map acA)):=by
 have hl:l.length=0:=by rw [h0]; rfl
 refine pB Tryz.func27 rfl Tryz.ntmps27 (Nat.le_of_ble_eq_true rfl) ?_
 refine wS (wR ?_)
 refine oL (lA (a:=.v _) rfl) rfl rfl ?_
 refine oN (aN (wS (wR ?_)))
 refine oL (lM (a:=.tree _ _) rfl) rfl rfl ?_
 refine oL (LOp.call bod51 rfl (CloneL.tree cl_Access (fun _=>rfl) l (by omega))) rfl rfl ?_
 refine oL (lA (a:=.tree _ _) rfl) rfl rfl ?_
 refine oN (aN (wS (wS (wR ?_))))
 refine oL (lM (a:=.tree _ _) rfl) rfl rfl ?_
 refine oL (lT rfl Tryz.underlying31 rfl) rfl rfl ?_
 refine oL (lM (a:=.v _) rfl) rfl rfl ?_
 refine oN (aN (wB ?_))
 refine AWP.loopExit ?_
 refine wS (wR ?_)
 refine oL (lP rfl (fun _ _=>nofun) (fun _=>rfl)) rfl rfl ?_
 refine oN (aN (wS ?_))
 refine wC rfl (fun hc14=>?_) (fun hc14=>?_)
 ·skip
  exact absurd (of_decide_eq_true hc14) (by omega)
 ·skip
  refine AWP.exit (aE (aE (bE ?_)))
  refine aN (wS (wR ?_))
  refine oL (lM (a:=.tree _ _) rfl) rfl rfl ?_
  refine oL (lA (a:=.tree _ _) rfl) rfl rfl ?_
  refine oN (aN ?_)
  refine wT (?_)
  refine ⟨.inr rfl,Outs.tmp Tryz.results27 ?_⟩
  exact ⟨[],FzP.pure rfl⟩
theorem clone_p (l:List PAcc) (hl:l.length≤1000) (hok:∀ a∈l,a.p.Ok):PCall Tryz.prog 27 [.tree 5 (l.map acA)] (.tree 5 (l.map acA)):=by
 rcases none_or l with h | h
 ·exact clone_0 l h
 ·exact clone_n l h hl hok
end Go.Proofs.YtfelpgeolclnbaaGreatDoor
