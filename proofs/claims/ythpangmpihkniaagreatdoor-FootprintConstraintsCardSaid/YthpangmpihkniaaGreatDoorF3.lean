/- Texts of the claim. -/
import Derived.Test.YthpangmpihkniaaGreatDoorF2
import Derived.Test.YthpangmpihkniaaGreatDoorQ2
namespace Go.Proofs.YthpangmpihkniaaGreatDoor
set_option maxRecDepth 1000000
set_option maxHeartbeats 0
set_option linter.unusedVariables false
set_option linter.unusedSimpArgs false
open Go.RowKit
/-- A row that fits a table. -/
def n9 (t:GTab) (r:List GVal):Prop:=r.length=t.columns_.length/\∀ j (hl:j < r.length) (h2:j < t.columns_.length),na r[j] (wz t.columns_[j])=true
theorem Mf {t:GTab} {k:Nat} {v:GVal} {b:Bool} (h1:k < (ap t).length) (h2:k < t.columns_.length) (hb:na v { (ap t)[k] with nl:=true }=b) (hn:v.kind_=0->t.columns_[k].notNull_=false):na v (wz t.columns_[k])=b:=by
 have e:(ap t)[k]=wz t.columns_[k]:=by simp [ap]
 rw [e,Ra (fun h=>by show (!t.columns_[k].notNull_)=true; rw [hn h]; rfl)] at hb
 exact hb
theorem Dq (t:GTab) (ht:FitTab t) (w:List GVal) (hw:bw w (fun y=>FitVal y)) (hcl:t.columns_.length<=1000):PRet Tryz.prog 35 [.agg (ef t),.tree 3 (w.map gvA)] (fun q=>∃ e:Int,q=.v (.int .i64 e)/\(e=0↔n9 t w)):=by
 refine PRet.of_vc ao [] [] Tryz.func35 rfl Tryz.ntmps35 rfl (by kernel_rfl) (LenG.of ?_)
 refine LenG.of (cB (fun hc14=>?_) (fun hc14=>?_))
 ·have hq14:¬ (((w.length:Nat):Int)=((t.columns_.length:Nat):Int)):=by simpa using hc14
  have hlen:¬ w.length=t.columns_.length:=by have h:=hc14; simp at h; omega
  exact rV Tryz.results35 rfl ⟨_,rfl,fun h=>absurd h (by decide),fun h=>absurd h.1 hlen⟩
 have hq14:((w.length:Nat):Int)=((t.columns_.length:Nat):Int):=by simpa using hc14
 have hlen:w.length=t.columns_.length:=by have h:=hc14; simp at h; omega
 refine ArgG.mk (o7 t ht (by omega)) rfl ?_
 rintro _ rfl
 refine LpG.on (fun k0:KE=>(⟨fL [(1,.tree 3 (w.map gvA)),(2,.ptr 0 0 0),(5,.tree 5 (((ap t)).map vA)),(6,.v (.int .i64 k0.e)),(7,.v (.int .i64 ((k0.k:Nat):Int)))],bl [(0,⟨0,ef t,0,false⟩)],1⟩:St)) (fun k0=>(w.length - k0.k)) (fun k0=>(k0.k<=w.length/\FtI t w k0)) (⟨0,0⟩:KE) (cO (.cons rfl rfl (.cons rfl rfl (.cons rfl rfl (.cons rfl rfl (.cons rfl rfl .nil))))) (.cons rfl rfl rfl .nil)) ⟨Nat.zero_le _,⟨fun _ j _ _ h=>absurd h (Nat.not_lt_zero j),fun _=>rfl⟩⟩ ?_
 rintro k0 hinv
 have hgr_k0:w.length<=140737488355328:=hw.1
 obtain ⟨hle_k0,hi_k0⟩:=hinv
 refine LenG.of (cL (fun hlt20=>?_) (fun hge20=>?_))
 ·have hvl:k0.k < (ap t).length:=by simp [ap]; omega
  have hcc2:k0.k < t.columns_.length:=by omega
  refine IdxG.of (by assumption) (IdxG.of (by assumption) ?_)
  refine cE (fun hq34=>?_) (fun hq34=>?_)
  ·refine IdxG.of (by assumption) (cB (fun hc41=>?_) (fun hc41=>?_))
   ·exact rV Tryz.results35 rfl ⟨_,rfl,fun h=>absurd h (by decide),fun h=>by have h1:=h.2 k0.k hlt20 hcc2; rw [Q9 (by assumption) (by show (!t.columns_[k0.k].notNull_)=false; simp_all)] at h1; cases h1⟩
   refine IdxG.of (by assumption) (ArgG.mk (Dr (w[k0.k]) (hw.2 _ (Ze _)) (({ (ap t)[k0.k] with nl:=true }:PVar))) rfl ?_)
   rintro _ rfl
   refine ⟨by kernel_rfl,cB (fun hc48=>?_) (fun hc48=>?_)⟩
   ·refine ⟨by omega,⟨(⟨k0.k+1,_⟩:KE),(by show w.length - (k0.k+1) < w.length - k0.k; omega),(cO (.cons rfl rfl (.cons rfl rfl (.cons rfl rfl (.cons rfl rfl (.cons rfl rfl .nil))))) (.cons rfl rfl rfl .nil)),?_⟩⟩
    refine ⟨by show k0.k+1<=_; omega,?_⟩
    have hnn:w[k0.k].kind_=0->t.columns_[k0.k].notNull_=false:=fun h=>by (simpa using hc41)
    exact Of hcc2 hlt20 (Mf hvl hcc2 (by simpa using hc48) hnn) (by decide)
   refine ⟨by omega,⟨(⟨k0.k+1,_⟩:KE),(by show w.length - (k0.k+1) < w.length - k0.k; omega),(cO (.cons rfl rfl (.cons rfl rfl (.cons rfl rfl (.cons rfl rfl (.cons rfl rfl .nil))))) (.cons rfl rfl rfl .nil)),?_⟩⟩
   refine ⟨by show k0.k+1<=_; omega,?_⟩
   have hnn:w[k0.k].kind_=0->t.columns_[k0.k].notNull_=false:=fun h=>by (simpa using hc41)
   exact Il hi_k0 hcc2 hlt20 (Mf hvl hcc2 (by simpa using hc48) hnn)
  refine cF (IdxG.of (by assumption) ?_)
  refine ArgG.mk (Dr (w[k0.k]) (hw.2 _ (Ze _)) (({ (ap t)[k0.k] with nl:=true }:PVar))) rfl ?_
  rintro _ rfl
  refine ⟨by kernel_rfl,cB (fun hc48=>?_) (fun hc48=>?_)⟩
  ·refine ⟨by omega,⟨(⟨k0.k+1,_⟩:KE),(by show w.length - (k0.k+1) < w.length - k0.k; omega),(cO (.cons rfl rfl (.cons rfl rfl (.cons rfl rfl (.cons rfl rfl (.cons rfl rfl .nil))))) (.cons rfl rfl rfl .nil)),?_⟩⟩
   refine ⟨by show k0.k+1<=_; omega,?_⟩
   have hnn:w[k0.k].kind_=0->t.columns_[k0.k].notNull_=false:=fun h=>by exact absurd h (by assumption)
   exact Of hcc2 hlt20 (Mf hvl hcc2 (by simpa using hc48) hnn) (by decide)
  refine ⟨by omega,⟨(⟨k0.k+1,_⟩:KE),(by show w.length - (k0.k+1) < w.length - k0.k; omega),(cO (.cons rfl rfl (.cons rfl rfl (.cons rfl rfl (.cons rfl rfl (.cons rfl rfl .nil))))) (.cons rfl rfl rfl .nil)),?_⟩⟩
  refine ⟨by show k0.k+1<=_; omega,?_⟩
  have hnn:w[k0.k].kind_=0->t.columns_[k0.k].notNull_=false:=fun h=>by exact absurd h (by assumption)
  exact Il hi_k0 hcc2 hlt20 (Mf hvl hcc2 (by simpa using hc48) hnn)
 exact rV Tryz.results35 rfl ⟨_,rfl,fun h=>⟨hlen,fun j hl h2=>hi_k0.1 h j hl h2 (by omega)⟩,fun h=>hi_k0.2 fun j hl h2 _=>h.2 j hl h2⟩
section
variable {P:Program} {τ:Nat->AV} {η:au} {d:Option Tmp} {ty:TypeId} {pos:String} {af:Array Edge} {g:Option (Nat×Bool)}
theorem M8 {t t':Nat} {x y:Operand} {m n:Int} (hx:aev τ x=.v (.int .i64 m)) (hy:aev τ y=.v (.int .i64 n)) (h3:1<=n) :
  LOp P ⟨d,.binOp .rem t x y t',ty,pos,af,g⟩ τ η [] [] (.v (.int .i64 (m.tmod n))) :=
 .look [] fun C a _ hxs _=>by
  have e1:=hxs x (by simp [Op.operands])
  have e2:=hxs y (by simp [Op.operands])
  rw [hx] at e1
  rw [hy] at e2
  refine ⟨.int .i64 (m.tmod n),?_,VR.v C _⟩
  have h0:¬ (n=0):=by omega
  simp only [execOp,e1.v_inv,e2.v_inv]
  simp [binOp,Op.intArith,Op.intDiv,eqGuard,h0,Sem.run_bind]
end
theorem fl14 {a b:Int} (hb:1<=b):(a.tmod b≠0->a < 0->a.tdiv b - 1=a.fdiv b)/\(¬ (a.tmod b≠0/\a < 0)->a.tdiv b=a.fdiv b):=by
 have hf:=yz (a:=a) hb
 have h1:=Int.tmod_add_mul_tdiv a b
 have h4:b * a.tdiv b=a.tdiv b * b:=Int.mul_comm _ _
 refine ⟨fun hn ha=>?_,fun h=>?_⟩
 ·have h2:a.tmod b<=0:=by
   have:=Int.tmod_nonneg b (by omega:0<=-a)
   rw [Int.neg_tmod] at this; omega
  rw [<- hf,if_pos (by omega)]
 have h2:0<=a.tmod b:=by
  by_cases ha:a < 0
  ·by_cases hz:a.tmod b=0
   ·omega
   ·exact absurd ⟨hz,ha⟩ h
  ·exact Int.tmod_nonneg b (by omega)
 rw [<- hf,if_neg (by omega)]
theorem Q3 {a b:GVal} (h:(!(a.kind_==b.kind_&&(a.int_==b.int_&&a.text_.toList==b.text_.toList)))=false):a=b:=by
 obtain ⟨k,i,t⟩:=a
 obtain ⟨k',i',t'⟩:=b
 simp at h
 obtain ⟨h1,h2,h3⟩:=h
 subst h1; subst h2
 rw [toList_inj h3]
theorem Q2 {a b:GVal} (h:(!(a.kind_==b.kind_&&(a.int_==b.int_&&a.text_.toList==b.text_.toList)))=true):a≠b:=by
 intro e; subst e; simp at h
theorem r8:el Tryz.prog 45=some (some 3):=by kernel_rfl
theorem fy (n:Int):PRet Tryz.prog 123 [.v (.int .i64 n)] (fun r=>r=.agg (gvA ⟨1,n,⟨#[]⟩⟩)):=by
 refine PRet.of_vc ao [] [] Tryz.func123 rfl Tryz.ntmps123 rfl (by kernel_rfl) ⟨.inr rfl,_,Kh.cell Tryz.results123 r8 rfl rfl rfl rfl rfl ⟨[],FzP.pure rfl⟩,?_⟩
 rfl
theorem zx (a:Int) (b:Int) (ha:-4611686018427387904<=a/\a<=4611686018427387904) (hb:1<=b/\b<=4611686018427387904):PRet Tryz.prog 124 [.v (.int .i64 a),.v (.int .i64 b)] (fun r=>∃ v:Int,r=.v (.int .i64 v)/\v=a.fdiv b):=by
 have hf:=fl14 (a:=a) hb.1
 have hq:=Co ha hb
 refine PRet.of_vc ao [8,11,21] [] Tryz.func124 rfl Tryz.ntmps124 rfl (by kernel_rfl) (OpG.lk (je rfl rfl (by omega) (by omega) (by omega)) ?_)
 refine OpG.lk (M8 rfl rfl (by omega)) (cN (fun hq13=>?_) (fun hq13=>?_))
 ·refine cB (fun hc19=>?_) (fun hc19=>?_)
  ·exact OpG.lk (jz rfl rfl (by omega) (by omega)) (rV Tryz.results124 rfl ⟨_,rfl,hf.1 (by assumption) (by simp_all; omega)⟩)
  exact rV Tryz.results124 rfl ⟨_,rfl,hf.2 (by simp_all; omega)⟩
 exact cF (rV Tryz.results124 rfl ⟨_,rfl,hf.2 (by simp_all)⟩)
theorem jl (b:Bool):PRet Tryz.prog 74 [.v (.bool b)] (fun r=>∃ v:Int,r=.v (.int .i64 v)/\v=if b=true then 1 else 0):=by
 refine PRet.of_vc ao [] [] Tryz.func74 rfl Tryz.ntmps74 rfl (by kernel_rfl) (cB (fun hc3=>?_) (fun hc3=>?_))
 ·exact rV Tryz.results74 rfl ⟨_,rfl,by simp_all⟩
 exact rV Tryz.results74 rfl ⟨_,rfl,by simp_all⟩
theorem K3 (a:List GVal) (ha:bw a (fun y=>FitVal y)) (b:List GVal) (hb:bw b (fun y=>FitVal y)):PRet Tryz.prog 13 [.tree 3 (a.map gvA),.tree 3 (b.map gvA)] (fun r=>∃ v:Bool,r=.v (.bool v)/\(v=true↔a=b)):=by
 refine PRet.of_vc ao [] [] Tryz.func13 rfl Tryz.ntmps13 rfl (by kernel_rfl) ?_
 refine LenG.of (LenG.of ?_)
 refine cB (fun hc10=>?_) (fun hc10=>?_)
 ·have hq10:¬ (((a.length:Nat):Int)=((b.length:Nat):Int)):=by simpa using hc10
  refine rV Tryz.results13 rfl ?_
  refine ⟨_,rfl,fun h=>absurd h Bool.false_ne_true,fun h=>?_⟩; subst h; simp at hc10
 have hq10:((a.length:Nat):Int)=((b.length:Nat):Int):=by simpa using hc10
 have hab:a.length=b.length:=by have h:=hc10; simp at h; omega
 refine LpG.on (fun k0:Nat=>(⟨fL [(0,.tree 3 (a.map gvA)),(1,.tree 3 (b.map gvA)),(5,.v (.int .i64 ((k0:Nat):Int)))],bl [],0⟩:St)) (fun k0=>(a.length - k0)) (fun k0=>(k0<=a.length/\∀ j (hl:j < a.length),j < k0->∀ h2:j < b.length,a[j]=b[j])) 0 (cO (.cons rfl rfl (.cons rfl rfl (.cons rfl rfl .nil))) .nil) ⟨Nat.zero_le _,fun j _ h=>absurd h (Nat.not_lt_zero j)⟩ ?_
 rintro k0 hinv
 have hgr_k0:a.length<=140737488355328:=ha.1
 obtain ⟨hle_k0,hj_k0⟩:=hinv
 refine LenG.of (cL (fun hlt14=>?_) (fun hge14=>?_))
 ·refine IdxG.of (by assumption) (IdxG.of (by omega) ?_)
  refine OpG.lk (qa rfl rfl) ?_
  refine ⟨by kernel_rfl,?_⟩
  refine cB (fun hc25=>?_) (fun hc25=>?_)
  ·exact rV Tryz.results13 rfl ⟨_,rfl,fun h=>absurd h Bool.false_ne_true,fun h=>by subst h; exact absurd rfl (Q2 hc25)⟩
  refine ⟨by omega,?_⟩
  refine ⟨(k0+1),by omega,(cO (.cons rfl rfl (.cons rfl rfl (.cons rfl rfl .nil))) .nil),?_⟩
  refine ⟨by omega,fun j hl h=>?_⟩
  rcases Nat.lt_succ_iff_lt_or_eq.1 h with h | rfl
  ·exact hj_k0 j hl h
  exact fun _=>Q3 hc25
 exact rV Tryz.results13 rfl ⟨_,rfl,fun _=>List.ext_getElem hab (fun i h1 h2=>hj_k0 i h1 (by omega) h2),fun _=>rfl⟩
theorem ql (t:GTab) (ht:FitTab t) (hcl:t.columns_.length<=1000):PRet Tryz.prog 52 [.agg (ef t)] (fun r=>r=.tree 5 ((ap t).map vA)):=by
 refine PRet.of_vc ao [] [] Tryz.func52 rfl Tryz.ntmps52 rfl (by kernel_rfl) (LenG.of ?_)
 refine LpG.via (fun _ h=>bq 3 5 rfl 2 rfl h) (LpG.on (fun k0:KL PVar=>(⟨fL [(3,.sl 1 k0.L.length 0 k0.L.length),(7,.tree 6 (t.columns_.map us)),(8,.v (.int .i64 ((t.columns_.length:Nat):Int))),(9,.v (.int .i64 ((k0.k:Nat):Int)))],bl [(1,⟨k0.L.length,rF vA k0.L,5,Nat.beq k0.L.length 0⟩)],2⟩:St)) (fun k0=>(t.columns_.length - k0.k)) (fun k0=>(k0.k<=t.columns_.length/\k0.L.length=k0.k/\(∀ x∈k0.L,True)/\k0.L=(ap t).take k0.k)) (⟨0,[]⟩:KL PVar) (cO (.cons (by rfl) rfl (.cons rfl rfl (.cons rfl rfl (.cons rfl rfl .nil)))) (.cons (by rfl) rfl (ag rf _ _) .nil)) ⟨Nat.zero_le _,rfl,by simp,rfl⟩ ?_)
 rintro k0 hinv
 have hgr_k0:t.columns_.length<=140737488355328:=ht.columns_.1
 obtain ⟨hle_k0,hL_k0,hf_k0,hi_k0⟩:=hinv
 refine cL (fun hlt10=>?_) (fun hge10=>?_)
 ·refine IdxG.of (by assumption) (OpG.mk _ _ _ 4 (aj rf (a:=(wz t.columns_[k0.k])) Tryz.underlying52 Nq zr87 by87 rfl rfl rfl (az rfl rfl rfl rfl) rfl (by omega) (by omega) (by unfold TV; omega)) rfl rfl ?_)
  refine ⟨by omega,⟨(⟨k0.k+1,k0.L++[(wz t.columns_[k0.k])]⟩:KL PVar),(by show t.columns_.length - (k0.k+1) < t.columns_.length - k0.k; omega),(cO (.cons (by (rw [Zi]; rfl)) rfl (.cons rfl rfl (.cons rfl rfl (.cons rfl rfl .nil)))) (.cons (by (rw [Zi]; rfl)) rfl (ag rf _ _) .nil)),?_⟩⟩
  refine ⟨by show k0.k+1<=_; omega,by show (_++[_]).length=k0.k+1; rw [Zi,hL_k0]; rfl,fun _ _=>trivial,?_⟩
  show _++[_]=(ap t).take (k0.k+1); rw [yq hlt10,hi_k0]
 refine ⟨.inr rfl,_,Kh.tmp Tryz.results52 ⟨[1],FzP.rows rf (Zj.2 rfl) rfl⟩,?_⟩
 show AV.tree 5 (k0.L.map vA)=_; rw [hi_k0,Cg hge10]
theorem E8 (a:List GVal) (ha:bw a (fun y=>FitVal y)) (b:List GVal) (hb:bw b (fun y=>FitVal y)):PRet Tryz.prog 79 [.tree 3 (a.map gvA),.tree 3 (b.map gvA)] (fun r=>∃ v:Bool,r=.v (.bool v)/\(v=true↔a=b)):=by
 refine PRet.of_vc ao [] [] Tryz.func79 rfl Tryz.ntmps79 rfl (by kernel_rfl) ?_
 refine LenG.of (LenG.of ?_)
 refine cB (fun hc10=>?_) (fun hc10=>?_)
 ·have hq10:¬ (((a.length:Nat):Int)=((b.length:Nat):Int)):=by simpa using hc10
  refine rV Tryz.results79 rfl ?_
  refine ⟨_,rfl,fun h=>absurd h Bool.false_ne_true,fun h=>?_⟩; subst h; simp at hc10
 have hq10:((a.length:Nat):Int)=((b.length:Nat):Int):=by simpa using hc10
 have hab:a.length=b.length:=by have h:=hc10; simp at h; omega
 refine LenG.of (LpG.on (fun k0:Nat=>(⟨fL [(0,.tree 3 (a.map gvA)),(1,.tree 3 (b.map gvA)),(12,.v (.int .i64 ((a.length:Nat):Int))),(13,.v (.int .i64 ((k0:Nat):Int)))],bl [],0⟩:St)) (fun k0=>(a.length - k0)) (fun k0=>(k0<=a.length/\∀ j (hl:j < a.length),j < k0->∀ h2:j < b.length,a[j]=b[j])) 0 (cO (.cons rfl rfl (.cons rfl rfl (.cons rfl rfl (.cons rfl rfl .nil)))) .nil) ⟨Nat.zero_le _,fun j _ h=>absurd h (Nat.not_lt_zero j)⟩ ?_)
 rintro k0 hinv
 have hgr_k0:a.length<=140737488355328:=ha.1
 obtain ⟨hle_k0,hj_k0⟩:=hinv
 refine cL (fun hlt14=>?_) (fun hge14=>?_)
 ·refine IdxG.of (by assumption) (IdxG.of (by omega) ?_)
  refine OpG.lk (qa rfl rfl) ?_
  refine ⟨by kernel_rfl,?_⟩
  refine cB (fun hc24=>?_) (fun hc24=>?_)
  ·exact rV Tryz.results79 rfl ⟨_,rfl,fun h=>absurd h Bool.false_ne_true,fun h=>by subst h; exact absurd rfl (Q2 hc24)⟩
  refine ⟨by omega,?_⟩
  refine ⟨(k0+1),by omega,(cO (.cons rfl rfl (.cons rfl rfl (.cons rfl rfl (.cons rfl rfl .nil)))) .nil),?_⟩
  refine ⟨by omega,fun j hl h=>?_⟩
  rcases Nat.lt_succ_iff_lt_or_eq.1 h with h | rfl
  ·exact hj_k0 j hl h
  exact fun _=>Q3 hc24
 exact rV Tryz.results79 rfl ⟨_,rfl,fun _=>List.ext_getElem hab (fun i h1 h2=>hj_k0 i h1 (by omega) h2),fun _=>rfl⟩
def zV:GVal:=⟨0,0,⟨#[]⟩⟩
def iV (n:Int):GVal:=⟨1,n,⟨#[]⟩⟩
def se (op a b:Int):Int:=if op=4 then a+b else if op=5 then a - b else if op=6 then a * b else if op=7 then a.fdiv b else a - b * a.fdiv b
def opS (op:Int):List GVal->GVal
 | []=>zV
 | a :: rest=>if a.kind_=0 then zV else if op=3 then iV (-a.int_) else if op=9 then iV ((a.text_.size:Nat):Int) else
  match rest with
  | []=>zV
  | b :: _=>if b.kind_=0 then zV else iV (se op a.int_ b.int_)
mutual
/-- The value of an expression; R: the values of the columns. -/
def vS (R:Int->GVal):List AV->GVal
 | [.v (.int _ op),.v _,.v _,.v (.int _ ix),.v (.int _ k),.v (.int _ i),.v (.string s),.tree _ es]=>if op=1 then ⟨k,i,s⟩ else if op=2 then R ix else opS op (vsS R es)
 | _=>zV
def vsS (R:Int->GVal):List (List AV)->List GVal
 | []=>[]
 | r :: rs=>vS R r :: vsS R rs
end
theorem pc (R:Int->GVal) (x:GEx):vS R (exA x)=if x.op_=1 then x.value_ else if x.op_=2 then R x.index_ else opS x.op_ (vsS R x.args_):=by
 simp only [exA,vS,Dd]
def a8 (r:List GVal) (i:Int):GVal:=r.getD i.toNat zV
def Ke (r:List GVal) (k v:Int):Int:=if k=0 then (if (a8 r v).kind_=1 then (a8 r v).int_ else 0) else if k=1 then (if (a8 r v).kind_=2 then ((a8 r v).text_.size:Nat) else 0) else 0
/-- A row of values of variables. -/
def M6 (l:List PVar) (r:List GVal):Prop:=r.length=l.length/\∀ j (hl:j < r.length) (h2:j < l.length),FitV r[j] l[j]
def LOk (l:List PVar):Prop:=∀ x∈l,x.t=1->-2147483648<=x.lo/\x.hi<=2147483647
theorem ia {r:List GVal} {j:Nat} (h:j < r.length):a8 r ((j:Nat):Int)=r[j]:=by simp [a8,List.getD,h]
theorem Me {l:List PVar} {r:List GVal} (hr:M6 l r) (hl:LOk l):Cb (Ke r):=by
 intro v
 have key:(a8 r v).kind_=1->-2147483648<=(a8 r v).int_/\(a8 r v).int_<=2147483648:=fun h=>by
  by_cases hj:v.toNat < r.length
  ·have e:a8 r v=r[v.toNat]:=by simp [a8,List.getD,hj]
   rw [e] at h ⊢
   rcases hr.2 v.toNat hj (by have:=hr.1; omega) with h1 | h1 | h1
   ·omega
   ·have:=hl _ (Ze (by have:=hr.1; omega:v.toNat < l.length)) h1.2.1
    omega
   ·omega
  ·have e:a8 r v=zV:=by simp [a8,List.getD,List.getElem?_eq_none (Nat.le_of_not_lt hj)]
   rw [e] at h; exact absurd h (by decide)
 have Ue:(a8 r v).kind_=2->(a8 r v).text_.size<=16:=fun h=>by
  by_cases hj:v.toNat < r.length
  ·have e:a8 r v=r[v.toNat]:=by simp [a8,List.getD,hj]
   rw [e] at h ⊢
   rcases hr.2 v.toNat hj (by have:=hr.1; omega) with h1 | h1 | h1 <;> omega
  ·have e:a8 r v=zV:=by simp [a8,List.getD,List.getElem?_eq_none (Nat.le_of_not_lt hj)]
   rw [e] at h; exact absurd h (by decide)
 refine ⟨fun k=>?_,?_⟩
 ·unfold Ke
  split
  ·split
   ·rename_i h; exact key h
   omega
  split
  ·split
   ·rename_i h; have:=Ue h; omega
   omega
  omega
 unfold Ke
 rw [if_neg (by decide),if_pos rfl]
 split
 ·rename_i h; have:=Ue h; omega
 omega
/-- NULL or the integer n. -/
def NV (v:GVal) (n:Int):Prop:=v.kind_=0\/(v.kind_=1/\v.int_=n)
theorem iq {l:List PVar} {x:GEx} (h:IntE l (exA x)):(x.op_=1/\x.args_=[]/\(x.value_.kind_=1\/x.value_.kind_=0))\/(x.op_=2/\x.args_=[]/\∃ j,∃ h:j < l.length,x.index_=((j:Nat):Int)/\l[j].t=1)\/(x.op_=9/\∃ a:GEx,x.args_=[exA a]/\a.args_=[]/\(TextE l (exA a)\/(a.op_=1/\a.value_.kind_=0)))\/(x.op_=3/\x.args_.length=1/\∀ r∈x.args_,IntE l r)\/((4<=x.op_/\x.op_<=8)/\x.args_.length=2/\∀ r∈x.args_,IntE l r):=by
 generalize e:exA x=r at h
 cases h with
 | lit y h ha hk _=>rw [bj e]; exact .inl ⟨h,ha,hk⟩
 | col y h ha hj=>rw [bj e]; exact .inr (.inl ⟨h,ha,hj⟩)
 | len y a h ha haa ht=>rw [bj e]; exact .inr (.inr (.inl ⟨h,a,ha,haa,ht⟩))
 | neg y h ha hs=>rw [bj e]; exact .inr (.inr (.inr (.inl ⟨h,ha,hs⟩)))
 | bin y h ha hs=>rw [bj e]; exact .inr (.inr (.inr (.inr ⟨h,ha,hs⟩)))
theorem Tz {a:GVal} {n:Int} (h:NV a n):NV (opS 3 [a]) (-1 * n):=by
 rcases h with h | ⟨h,e⟩
 ·exact .inl (by simp [opS,h,zV])
 right; simp [opS,h,iV,e]
theorem T1 {op:Int} {a b:GVal} {m n:Int} (h1:4<=op/\op<=8) (ha:NV a m) (hb:NV b n):NV (opS op [a,b]) (se op m n):=by
 rcases ha with h | ⟨h,e⟩
 ·exact .inl (by simp [opS,h,zV])
 rcases hb with g | ⟨g,f⟩
 ·left; simp only [opS,g]; rw [if_neg (by omega),if_neg (by omega),if_neg (by omega)]; rfl
 right; simp only [opS,g,h,e,f]; rw [if_neg (by omega),if_neg (by omega),if_neg (by omega),if_neg (by omega)]; exact ⟨rfl,rfl⟩
/-- The value of an expression is that of its term. -/
theorem sem {l:List PVar} {r:List GVal} (hr:M6 l r) (hl:LOk l) {e:List AV} {t:GTm} (h:OfR e t) (hi:IntE l e):NV (vS (a8 r) e) (tvL (Ke r) (tmA t)):=by
 induction h with
 | len x t h h6=>
  obtain ⟨h9,a,ha,haa,h⟩:=h
  have e1:vS (a8 r) (exA x)=opS 9 [vS (a8 r) (exA a)]:=by
   rw [pc,if_neg (by omega),if_neg (by omega),h9,ha]; simp only [vsS]
  rw [e1]
  rcases h with ⟨h1,h2,h3⟩ | ⟨h1,h2,h3⟩
  ·right
   rw [pc,if_pos h1,h3,iz]
   simp [opS,h2,iV,fo]
  ·rcases iq hi with g | g | ⟨_,a',g1,g2,g⟩ | g | g
   ·omega
   ·omega
   ·rw [ha] at g1
    have ea:a'=a:=(bj (by simpa using g1)).symm
    subst ea
    rcases g with g | g
    ·obtain ⟨_,⟨_,j,hj,e2,e3⟩ | g⟩:=gh g
     ·have hjr:j < r.length:=by have:=hr.1; omega
      have hv:vS (a8 r) (exA a')=r[j]:=by rw [pc,if_neg (by omega),if_pos h1,e2,ia hjr]
      rw [hv,h3,iz]
      rcases hr.2 j hjr hj with f | f | f
      ·exact .inl (by simp [opS,f.1,zV])
      ·omega
      ·right
       simp [opS,f.1,iV,F9,fo,vn,qs,Ke,e2,ia hjr]
     ·omega
    ·omega
   ·omega
   ·omega
 | lit x h ha hk h6=>
  right
  rw [pc,if_pos h,iz]
  exact ⟨hk,by simp [fo]⟩
 | col x h ha hi' h6=>
  rcases iq hi with g | ⟨_,_,j,hj,e2,e3⟩ | g | g | g
  ·omega
  ·have hjr:j < r.length:=by have:=hr.1; omega
   rw [pc,if_neg (by omega),if_pos h,e2,ia hjr,iz]
   rcases hr.2 j hjr hj with f | f | f
   ·exact .inl f.1
   ·right
    refine ⟨f.1,?_⟩
    simp [F9,fo,vn,qs,Ke,ia hjr,f.1]
   ·omega
  ·omega
  ·omega
  ·omega
 | neg x r' s t h ha hr' ht h6 ih=>
  rcases iq hi with g | g | g | ⟨_,_,g⟩ | g
  ·omega
  ·omega
  ·omega
  ·have:=ih (g r' (by rw [ha]; simp))
   rw [pc,if_neg (by omega),if_neg (by omega),h,ha,ht]
   simp only [vsS]
   exact Tz this
  ·omega
 | bin x r' q a b t h ha hr' hq ht iha ihb=>
  rcases iq hi with g | g | g | g | ⟨_,_,g⟩
  ·omega
  ·omega
  ·omega
  ·omega
  ·have g1:=iha (g r' (by rw [ha]; simp))
   have g2:=ihb (g q (by rw [ha]; simp))
   rw [pc,if_neg (by omega),if_neg (by omega),ha]
   simp only [vsS]
   have e:=T1 h g1 g2
   have e2:se x.op_ (tvL (Ke r) (tmA a)) (tvL (Ke r) (tmA b))=tvL (Ke r) (tmA t):=by
    unfold se
    split
    ·rename_i o; exact (ht.add o _).symm
    ·split
     ·rename_i o; exact (ht.sub o _).symm
     ·split
      ·rename_i o; exact (ht.mul o _).symm
      ·have hd:=ht.dv (by omega)
       have hb:tvL (Ke r) (tmA b)=b.const_:=pg (by rw [hd.1]; simp) _
       rw [hb]
       split
       ·rename_i o; exact (ht.quo o _).symm
       ·exact (ht.md (by omega) _).symm
   rw [<- e2]; exact e
def Rg (n:Int):Prop:=-1152921504606846976<=n/\n<=1152921504606846976
/-- An expression that can be evaluated on a row. -/
inductive EvR (r:List GVal):List AV->Prop
 | val (x:GEx) (h:x.op_=1):EvR r (exA x)
 | col (x:GEx) (h:x.op_=2) (j:Nat) (hj:j < r.length) (e:x.index_=((j:Nat):Int)):EvR r (exA x)
 | len (x:GEx) (a:List AV) (h:x.op_=9) (ha:x.args_=[a]) (he:EvR r a):EvR r (exA x)
 | neg (x:GEx) (a:List AV) (h:x.op_=3) (ha:x.args_=[a]) (he:EvR r a) (hv:(vS (a8 r) a).kind_≠0->Rg (vS (a8 r) a).int_):EvR r (exA x)
 | bin (x:GEx) (a b:List AV) (h:4<=x.op_/\x.op_<=8) (ha:x.args_=[a,b]) (he:EvR r a) (hf:EvR r b) (hv:(vS (a8 r) a).kind_≠0->(vS (a8 r) b).kind_≠0->Rg (vS (a8 r) a).int_/\Rg (vS (a8 r) b).int_/\Rg (se x.op_ (vS (a8 r) a).int_ (vS (a8 r) b).int_)/\(7<=x.op_->1<=(vS (a8 r) b).int_/\(vS (a8 r) b).int_<=1000)):EvR r (exA x)
theorem U3 {r:List GVal} {x:GEx} (h:EvR r (exA x)) (h2:x.op_=2):∃ j:Nat,x.index_=((j:Nat):Int)/\j < r.length:=by
 generalize e:exA x=q at h
 cases h with
 | val y h=>rw [<- bj e] at h; omega
 | col y h j hj e'=>rw [<- bj e] at e'; exact ⟨j,e',hj⟩
 | len y a h=>rw [<- bj e] at h; omega
 | neg y a h=>rw [<- bj e] at h; omega
 | bin y a b h=>rw [<- bj e] at h; omega
theorem U2 {r:List GVal} {x:GEx} (h:EvR r (exA x)) (h1:¬ x.op_=1) (h2:¬ x.op_=2):∃ h0:0 < x.args_.length,EvR r (x.args_[0]'h0)/\(x.op_=3->(vS (a8 r) (x.args_[0]'h0)).kind_≠0->Rg (vS (a8 r) (x.args_[0]'h0)).int_)/\(x.op_=3\/x.op_=9->x.args_.length=1)/\(¬ x.op_=3->¬ x.op_=9->(4<=x.op_/\x.op_<=8)/\x.args_.length=2):=by
 generalize e:exA x=q at h
 cases h with
 | val y h=>rw [<- bj e] at h; omega
 | col y h j hj e'=>rw [<- bj e] at h; omega
 | len y a h ha he=>rw [<- bj e] at h ha; simp only [ha]; exact ⟨by simp,he,fun h'=>by omega,fun _=>rfl,fun _ h'=>absurd h h'⟩
 | neg y a h ha he hv=>rw [<- bj e] at h ha; simp only [ha]; exact ⟨by simp,he,fun _=>hv,fun _=>rfl,fun h'=>absurd h h'⟩
 | bin y a b h ha he hf hv=>rw [<- bj e] at h ha; simp only [ha]; exact ⟨by simp,he,fun h'=>by omega,fun h'=>by omega,fun _ _=>⟨h,rfl⟩⟩
theorem U0 {r:List GVal} {x:GEx} (h:EvR r (exA x)) (h4:4<=x.op_/\x.op_<=8) (hl:x.args_.length=2):EvR r (x.args_[1]'(by omega))/\((vS (a8 r) (x.args_[0]'(by omega))).kind_≠0->(vS (a8 r) (x.args_[1]'(by omega))).kind_≠0->Rg (vS (a8 r) (x.args_[0]'(by omega))).int_/\Rg (vS (a8 r) (x.args_[1]'(by omega))).int_/\Rg (se x.op_ (vS (a8 r) (x.args_[0]'(by omega))).int_ (vS (a8 r) (x.args_[1]'(by omega))).int_)/\(7<=x.op_->1<=(vS (a8 r) (x.args_[1]'(by omega))).int_/\(vS (a8 r) (x.args_[1]'(by omega))).int_<=1000)):=by
 generalize e:exA x=q at h
 cases h with
 | val y h=>rw [<- bj e] at h; omega
 | col y h j hj e'=>rw [<- bj e] at h; omega
 | len y a h ha he=>rw [<- bj e] at h; omega
 | neg y a h ha he hv=>rw [<- bj e] at h; omega
 | bin y a b h ha he hf hv=>rw [<- bj e] at h ha hv; simp only [ha]; exact ⟨hf,hv⟩
section
variable {R:Int->GVal} {x:GEx}
theorem Wu (h:x.op_=1):x.value_=vS R (exA x):=by rw [pc,if_pos h]
theorem Ww (h1:¬ x.op_=1) (h:x.op_=2):R x.index_=vS R (exA x):=by rw [pc,if_neg h1,if_pos h]
theorem S3 (h1:¬ x.op_=1) (h2:¬ x.op_=2):vS R (exA x)=opS x.op_ (vsS R x.args_):=by rw [pc,if_neg h1,if_neg h2]
theorem Av {l:List (List AV)} (h:0 < l.length):∃ t,vsS R l=vS R l[0] :: t:=by
 cases l with
 | nil=>simp at h
 | cons a t=>exact ⟨vsS R t,by simp only [vsS]; rfl⟩
theorem Nh {l:List (List AV)} (h:l.length=2):vsS R l=[vS R (l[0]'(by omega)),vS R (l[1]'(by omega))]:=by
 match l,h with
 | [a,b],_=>simp only [vsS]; rfl
theorem Gg (h1:¬ x.op_=1) (h2:¬ x.op_=2) (h:0 < x.args_.length) (hk:(vS R x.args_[0]).kind_=0):zV=vS R (exA x):=by
 obtain ⟨t,e⟩:=Av (R:=R) h
 rw [S3 h1 h2,e]; simp [opS,hk]
theorem Wt (h:x.op_=3) (h0:0 < x.args_.length) (hk:¬ (vS R x.args_[0]).kind_=0):iV (-(vS R x.args_[0]).int_)=vS R (exA x):=by
 obtain ⟨t,e⟩:=Av (R:=R) h0
 rw [S3 (by omega) (by omega),e,h]; simp [opS,hk]
theorem Wv (h:x.op_=9) (h0:0 < x.args_.length) (hk:¬ (vS R x.args_[0]).kind_=0):iV (((vS R x.args_[0]).text_.size:Nat):Int)=vS R (exA x):=by
 obtain ⟨t,e⟩:=Av (R:=R) h0
 rw [S3 (by omega) (by omega),e,h]; simp [opS,hk]
theorem Nj (h:4<=x.op_/\x.op_<=8) (hl:x.args_.length=2) (hk:¬ (vS R (x.args_[0]'(by omega))).kind_=0) (hq:(vS R (x.args_[1]'(by omega))).kind_=0):zV=vS R (exA x):=by
 rw [S3 (by omega) (by omega),Nh hl]; simp only [opS]; rw [if_neg hk,if_neg (by omega),if_neg (by omega),if_pos hq]
theorem Gh {n:Int} (h:4<=x.op_/\x.op_<=8) (hl:x.args_.length=2) (hk:¬ (vS R (x.args_[0]'(by omega))).kind_=0) (hq:¬ (vS R (x.args_[1]'(by omega))).kind_=0) (hn:n=se x.op_ (vS R (x.args_[0]'(by omega))).int_ (vS R (x.args_[1]'(by omega))).int_):iV n=vS R (exA x):=by
 rw [S3 (by omega) (by omega),Nh hl,hn]; simp only [opS]; rw [if_neg hk,if_neg (by omega),if_neg (by omega),if_neg hq]
end
theorem ar6 {a b:Int}:se 6 a b=a * b:=rfl
theorem ar7 {a b:Int}:se 7 a b=a.fdiv b:=rfl
theorem ar8 {a b:Int}:se 8 a b=a - b * a.fdiv b:=rfl
theorem vt:aa Tryz.prog 45=some 3:=by kernel_rfl
theorem Gd (x:GEx) (hx:FitEx x) (r:List GVal) (hr:bw r (fun y=>FitVal y)) (hev:EvR r (exA x)) (ih:∀ e∈x.args_,EvR r e->PRet Tryz.prog 75 [.agg (rwA e),.tree 3 (r.map gvA)] (fun q=>q=.agg (gvA (vS (a8 r) e)))):PRet Tryz.prog 75 [.agg (exA x),.tree 3 (r.map gvA)] (fun q=>q=.agg (gvA (vS (a8 r) (exA x)))):=by
 refine PRet.of_vc ao [18,23,35,47,78,97] [] Tryz.func75 rfl Tryz.ntmps75 rfl (by kernel_rfl) ?_
 refine cB (fun hc9=>?_) (fun hc9=>?_)
 ·have hq9:(x.op_:Int)=(1:Int):=by simpa using hc9
  refine ⟨.inr rfl,_,Kh.cell Tryz.results75 r8 rfl rfl rfl rfl rfl ⟨[],FzP.pure rfl⟩,?_⟩
  (show AV.agg (gvA x.value_)=_; rw [Wu (R:=a8 r) (by assumption)]; done)
 have hq9:¬ ((x.op_:Int)=(1:Int)):=by simpa using hc9
 refine cB (fun hc14=>?_) (fun hc14=>?_)
 ·have hq14:(x.op_:Int)=(2:Int):=by simpa using hc14
  obtain ⟨j1,hje1,hjl1⟩:=U3 hev hq14
  refine OpG.lk (ah Tryz.underlying26 vt rfl rfl hje1 hjl1) ?_
  refine ⟨.inr rfl,_,Kh.cell Tryz.results75 r8 rfl rfl rfl rfl rfl ⟨[],FzP.pure rfl⟩,?_⟩
  (exact (congrArg (fun z=>AV.agg (gvA z)) (show r[j1]=vS (a8 r) (exA x) by rw [<- ia hjl1,<- hje1]; exact Ww (R:=a8 r) hq9 hq14)))
 have hq14:¬ ((x.op_:Int)=(2:Int)):=by simpa using hc14
 obtain ⟨h0,hone⟩:=U2 hev hq9 hq14
 refine IdxG.of (j:=0) (by assumption) (OpG.lk (aq d8 rfl (cj (hx.args_.2 _ (Ze _)))) ?_)
 refine ArgG.mk (ih x.args_[0] (Ze _) hone.1) (show ay [.agg (rwA x.args_[0]),.tree 3 (r.map gvA)]=true by simp [ay,AV.pureB,cm (hx.args_.2 _ (Ze _))]) ?_
 rintro _ rfl
 refine cB (fun hc28=>?_) (fun hc28=>?_)
 ·have hq28:((vS (a8 r) x.args_[0]).kind_:Int)=(0:Int):=by simpa using hc28
  refine ⟨.inr rfl,_,Kh.cell Tryz.results75 r8 rfl rfl rfl rfl rfl ⟨[],FzP.pure rfl⟩,?_⟩
  (show AV.agg (gvA zV)=_; rw [Gg (R:=a8 r) (by assumption) (by assumption) h0 (by assumption)]; done)
 have hq28:¬ (((vS (a8 r) x.args_[0]).kind_:Int)=(0:Int)):=by simpa using hc28
 refine cB (fun hc32=>?_) (fun hc32=>?_)
 ·have hq32:(x.op_:Int)=(3:Int):=by simpa using hc32
  have hrg:=hone.2.1 hq32 hq28
  unfold Rg at hrg
  refine OpG.lk (sv rfl (by omega) (by omega)) ?_
  refine ArgG.mk (fy ((-(vS (a8 r) x.args_[0]).int_))) rfl ?_
  rintro _ rfl
  refine ⟨.inr rfl,_,Kh.cell Tryz.results75 r8 rfl rfl rfl rfl rfl ⟨[],FzP.pure rfl⟩,?_⟩
  (show AV.agg (gvA (iV _))=_; rw [Wt (R:=a8 r) (by assumption) h0 (by assumption)]; done)
 have hq32:¬ ((x.op_:Int)=(3:Int)):=by simpa using hc32
 refine cB (fun hc39=>?_) (fun hc39=>?_)
 ·have hq39:(x.op_:Int)=(9:Int):=by simpa using hc39
  refine ArgG.mk (fy (((vS (a8 r) x.args_[0]).text_.size:Nat):Int)) rfl ?_
  rintro _ rfl
  refine ⟨.inr rfl,_,Kh.cell Tryz.results75 r8 rfl rfl rfl rfl rfl ⟨[],FzP.pure rfl⟩,?_⟩
  (show AV.agg (gvA (iV _))=_; rw [Wv (R:=a8 r) (by assumption) h0 (by assumption)]; done)
 have hq39:¬ ((x.op_:Int)=(9:Int)):=by simpa using hc39
 obtain ⟨hop,hl2⟩:=hone.2.2.2 hq32 hq39
 have htwo:=U0 hev hop hl2
 refine IdxG.of (j:=1) (by omega) (OpG.lk (aq d8 rfl (cj (hx.args_.2 _ (Ze _)))) ?_)
 refine ArgG.mk (ih x.args_[1] (Ze _) htwo.1) (show ay [.agg (rwA x.args_[1]),.tree 3 (r.map gvA)]=true by simp [ay,AV.pureB,cm (hx.args_.2 _ (Ze _))]) ?_
 rintro _ rfl
 refine cB (fun hc52=>?_) (fun hc52=>?_)
 ·have hq52:((vS (a8 r) x.args_[1]).kind_:Int)=(0:Int):=by simpa using hc52
  refine ⟨.inr rfl,_,Kh.cell Tryz.results75 r8 rfl rfl rfl rfl rfl ⟨[],FzP.pure rfl⟩,?_⟩
  (show AV.agg (gvA zV)=_; rw [Nj (R:=a8 r) hop hl2 (by assumption) (by assumption)]; done)
 have hq52:¬ (((vS (a8 r) x.args_[1]).kind_:Int)=(0:Int)):=by simpa using hc52
 obtain ⟨hra,hrb,hrc,hrd⟩:=htwo.2 hq28 hq52
 unfold Rg at hra hrb
 refine cB (fun hc56=>?_) (fun hc56=>?_)
 ·have hq56:(x.op_:Int)=(4:Int):=by simpa using hc56
  refine ⟨by omega,?_⟩
  refine ArgG.mk (fy ((((vS (a8 r) x.args_[0]).int_)+((vS (a8 r) x.args_[1]).int_)))) rfl ?_
  rintro _ rfl
  refine ⟨.inr rfl,_,Kh.cell Tryz.results75 r8 rfl rfl rfl rfl rfl ⟨[],FzP.pure rfl⟩,?_⟩
  (exact congrArg (fun z=>AV.agg (gvA z)) (Gh (R:=a8 r) hop hl2 (by assumption) (by assumption) (by first | (rw [hq56]; rfl) | (rw [hq64]; rfl) | (rw [hq72]; rfl) | (rw [hq80,ar7]; assumption) | (rw [show x.op_=8 by omega,ar8]; simp_all))))
 have hq56:¬ ((x.op_:Int)=(4:Int)):=by simpa using hc56
 refine cB (fun hc64=>?_) (fun hc64=>?_)
 ·have hq64:(x.op_:Int)=(5:Int):=by simpa using hc64
  refine ⟨by omega,?_⟩
  refine ArgG.mk (fy ((((vS (a8 r) x.args_[0]).int_) - ((vS (a8 r) x.args_[1]).int_)))) rfl ?_
  rintro _ rfl
  refine ⟨.inr rfl,_,Kh.cell Tryz.results75 r8 rfl rfl rfl rfl rfl ⟨[],FzP.pure rfl⟩,?_⟩
  (exact congrArg (fun z=>AV.agg (gvA z)) (Gh (R:=a8 r) hop hl2 (by assumption) (by assumption) (by first | (rw [hq56]; rfl) | (rw [hq64]; rfl) | (rw [hq72]; rfl) | (rw [hq80,ar7]; assumption) | (rw [show x.op_=8 by omega,ar8]; simp_all))))
 have hq64:¬ ((x.op_:Int)=(5:Int)):=by simpa using hc64
 refine cB (fun hc72=>?_) (fun hc72=>?_)
 ·have hq72:(x.op_:Int)=(6:Int):=by simpa using hc72
  have h6:Rg ((vS (a8 r) x.args_[0]).int_ * (vS (a8 r) x.args_[1]).int_):=by have:=hrc; rw [hq72,ar6] at this; exact this
  unfold Rg at h6
  refine OpG.lk (dj rfl rfl (by omega) (by omega)) ?_
  refine ArgG.mk (fy ((((vS (a8 r) x.args_[0]).int_) * ((vS (a8 r) x.args_[1]).int_)))) rfl ?_
  rintro _ rfl
  refine ⟨.inr rfl,_,Kh.cell Tryz.results75 r8 rfl rfl rfl rfl rfl ⟨[],FzP.pure rfl⟩,?_⟩
  (exact congrArg (fun z=>AV.agg (gvA z)) (Gh (R:=a8 r) hop hl2 (by assumption) (by assumption) (by first | (rw [hq56]; rfl) | (rw [hq64]; rfl) | (rw [hq72]; rfl) | (rw [hq80,ar7]; assumption) | (rw [show x.op_=8 by omega,ar8]; simp_all))))
 have hq72:¬ ((x.op_:Int)=(6:Int)):=by simpa using hc72
 refine cB (fun hc80=>?_) (fun hc80=>?_)
 ·have hq80:(x.op_:Int)=(7:Int):=by simpa using hc80
  have hd:=hrd (by omega)
  refine ArgG.mk (zx (vS (a8 r) x.args_[0]).int_ (vS (a8 r) x.args_[1]).int_ (by omega) (by omega)) rfl ?_
  rintro _ ⟨f7,rfl,hf7⟩
  refine ArgG.mk (fy f7) rfl ?_
  rintro _ rfl
  refine ⟨.inr rfl,_,Kh.cell Tryz.results75 r8 rfl rfl rfl rfl rfl ⟨[],FzP.pure rfl⟩,?_⟩
  (exact congrArg (fun z=>AV.agg (gvA z)) (Gh (R:=a8 r) hop hl2 (by assumption) (by assumption) (by first | (rw [hq56]; rfl) | (rw [hq64]; rfl) | (rw [hq72]; rfl) | (rw [hq80,ar7]; assumption) | (rw [show x.op_=8 by omega,ar8]; simp_all))))
 have hq80:¬ ((x.op_:Int)=(7:Int)):=by simpa using hc80
 have hd:=hrd (by omega)
 refine ArgG.mk (zx (vS (a8 r) x.args_[0]).int_ (vS (a8 r) x.args_[1]).int_ (by omega) (by omega)) rfl ?_
 rintro _ ⟨f9,rfl,hf9⟩
 have h8:Rg ((vS (a8 r) x.args_[0]).int_ - (vS (a8 r) x.args_[1]).int_ * f9):=by have:=hrc; rw [show x.op_=8 by omega,ar8] at this; rw [hf9]; exact this
 unfold Rg at h8
 refine OpG.lk (dj rfl rfl (by omega) (by omega)) ?_
 refine ⟨by omega,?_⟩
 refine ArgG.mk (fy ((((vS (a8 r) x.args_[0]).int_) - (((vS (a8 r) x.args_[1]).int_ * f9))))) rfl ?_
 rintro _ rfl
 refine ⟨by kernel_rfl,?_⟩
 refine ⟨.inr rfl,_,Kh.cell Tryz.results75 r8 rfl rfl rfl rfl rfl ⟨[],FzP.pure rfl⟩,?_⟩
 (exact congrArg (fun z=>AV.agg (gvA z)) (Gh (R:=a8 r) hop hl2 (by assumption) (by assumption) (by first | (rw [hq56]; rfl) | (rw [hq64]; rfl) | (rw [hq72]; rfl) | (rw [hq80,ar7]; assumption) | (rw [show x.op_=8 by omega,ar8]; simp_all))))
theorem lz (r:List GVal) (hr:bw r (fun y=>FitVal y)) (e:List AV) (he:IsEx e):EvR r e->PRet Tryz.prog 75 [.agg (rwA e),.tree 3 (r.map gvA)] (fun q=>q=.agg (gvA (vS (a8 r) e))):=IsEx.ind (M:=fun e=>EvR r e->PRet Tryz.prog 75 [.agg (rwA e),.tree 3 (r.map gvA)] (fun q=>q=.agg (gvA (vS (a8 r) e)))) (fun x hx ih hev=>Gd x hx r hr hev ih) he
section
variable {l:List PVar} {r:List GVal}
theorem I4 (hr:M6 l r) {x:GEx} (h:TextE l (exA x)):EvR r (exA x):=by
 obtain ⟨_,⟨h1,j,hj,e,_⟩ | ⟨h1,_⟩⟩:=gh h
 ·exact .col x h1 j (by have:=hr.1; omega) e
 exact .val x h1
theorem Oj (hr:M6 l r) {x a:GEx} (h9:x.op_=9) (ha:x.args_=[exA a]) (h:TextE l (exA a)\/(a.op_=1/\a.value_.kind_=0)):EvR r (exA x):=by
 refine .len x _ h9 ha ?_
 rcases h with h | h
 ·exact I4 hr h
 exact .val a h.1
theorem R6 {op:Int} {a b t:GTm} (h:4<=op/\op<=8) (ht:BinOk op a b t) (ρ:Int->Int->Int):se op (tvL ρ (tmA a)) (tvL ρ (tmA b))=tvL ρ (tmA t):=by
 unfold se
 split
 ·rename_i o; exact (ht.add o _).symm
 split
 ·rename_i o; exact (ht.sub o _).symm
 split
 ·rename_i o; exact (ht.mul o _).symm
 have hd:=ht.dv (by omega)
 have hb:tvL ρ (tmA b)=b.const_:=pg (by rw [hd.1]; simp) _
 rw [hb]
 split
 ·rename_i o; exact (ht.quo o _).symm
 exact (ht.md (by omega) _).symm
theorem Hp {v:GVal} {n:Int} (h:NV v n) (hk:v.kind_≠0):v.int_=n:=by
 rcases h with h | h
 ·exact absurd h hk
 exact h.2
theorem U1 (hr:M6 l r) (hl:LOk l) {e:List AV} {t:GTm} (h:OfR e t) (hi:IntE l e):EvR r e:=by
 have hg:=Me hr hl
 induction h with
 | len x t h h6=>
  rcases iq hi with g | g | ⟨_,a,g1,_,g⟩ | g | g
  ·have:=h.1; omega
  ·have:=h.1; omega
  ·exact Oj hr h.1 g1 g
  ·have:=h.1; omega
  ·have:=h.1; omega
 | lit x h ha hk h6=>exact .val x h
 | col x h ha hi' h6=>
  rcases iq hi with g | ⟨_,_,j,hj,e2,e3⟩ | g | g | g
  ·omega
  ·exact .col x h j (by have:=hr.1; omega) e2
  ·omega
  ·omega
  ·omega
 | neg x r' s t h ha hr' ht h6 ih=>
  rcases iq hi with g | g | g | ⟨_,_,g⟩ | g
  ·omega
  ·omega
  ·omega
  ·have gi:=g r' (by rw [ha]; simp)
   exact .neg x r' h ha (ih gi) (fun hk=>by rw [Hp (sem hr hl hr' gi) hk]; exact hr'.b6 _ hg)
  ·omega
 | bin x r' q a b t h ha hr' hq ht iha ihb=>
  rcases iq hi with g | g | g | g | ⟨_,_,g⟩
  ·omega
  ·omega
  ·omega
  ·omega
  ·have g1:=g r' (by rw [ha]; simp)
   have g2:=g q (by rw [ha]; simp)
   refine .bin x r' q h ha (iha g1) (ihb g2) (fun hk hq'=>?_)
   rw [Hp (sem hr hl hr' g1) hk,Hp (sem hr hl hq g2) hq',R6 h ht]
   refine ⟨hr'.b6 _ hg,hq.b6 _ hg,ht.b6 _ hg,fun h7=>?_⟩
   have hd:=ht.dv (by omega)
   rw [pg (by rw [hd.1]; simp)]
   exact hd.2
theorem xj {e:List AV} (h:IntE l e) (hn:HasN e):(vS (a8 r) e).kind_=0:=by
 induction h with
 | lit x h ha hk _=>
  rw [pc,if_pos h]
  rcases Ih.1 hn with g | ⟨q,hq,_⟩
  ·exact g.2
  ·rw [ha] at hq; exact absurd hq (by simp)
 | col x h ha hj=>
  rcases Ih.1 hn with g | ⟨q,hq,_⟩
  ·omega
  ·rw [ha] at hq; exact absurd hq (by simp)
 | len x a h ha haa ht=>
  rcases Ih.1 hn with g | ⟨q,hq,hq2⟩
  ·omega
  ·rw [ha,Zj] at hq
   subst hq
   rcases Ih.1 hq2 with g | ⟨q,hq,_⟩
   ·have e:vS (a8 r) (exA a)=a.value_:=by rw [pc,if_pos g.1]
    rw [pc,if_neg (by omega),if_neg (by omega),ha]
    simp [vsS,opS,e,g.2,zV]
   ·rw [haa] at hq; exact absurd hq (by simp)
 | neg x h ha hs ih=>
  rcases Ih.1 hn with g | ⟨q,hq,hq2⟩
  ·omega
  ·obtain ⟨j,hj,rfl⟩:=List.getElem_of_mem hq
   obtain rfl:j=0:=by omega
   have e:=ih _ hq hq2
   rw [<- Gg (R:=a8 r) (by omega) (by omega) hj e]; rfl
 | bin x h ha hs ih=>
  rcases Ih.1 hn with g | ⟨q,hq,hq2⟩
  ·omega
  ·obtain ⟨j,hj,rfl⟩:=List.getElem_of_mem hq
   have e:=ih _ hq hq2
   by_cases h0:(vS (a8 r) (x.args_[0]'(by omega))).kind_=0
   ·rw [<- Gg (R:=a8 r) (by omega) (by omega) (by omega) h0]; rfl
   ·obtain rfl | rfl:j=0\/j=1:=by omega
    ·exact absurd e h0
    ·rw [<- Nj (R:=a8 r) h ha h0 e]; rfl
theorem Yj (hr:M6 l r) (hl:LOk l) {e:List AV} (hi:IntE l e):∀ d,FitE d e->EvR r e:=by
 induction hi with
 | lit x h ha hk _=>intro d _; exact .val x h
 | col x h ha hj=>intro d _; obtain ⟨j,hj,e,_⟩:=hj; exact .col x h j (by have:=hr.1; omega) e
 | len x a h ha haa ht=>intro d _; exact Oj hr h ha ht
 | neg x h ha hs ih=>
  intro d hf
  generalize e:exA x=q at hf
  cases hf with
  | tm d q t hn ho=>subst e; exact U1 hr hl ho.1 (.neg x h ha hs)
  | nul d y hn h' hc=>
   have:=bj e; subst this
   obtain ⟨c,hc1⟩:∃ c,x.args_=[c]:=List.length_eq_one_iff.1 ha
   have hm:c∈x.args_:=by rw [hc1]; simp
   refine .neg x c h hc1 (ih c hm d (hc (by omega) c hm)) (fun hk=>absurd (xj (hs c hm) ?_) hk)
   rcases Ih.1 hn with g | ⟨q,hq,hq2⟩
   ·omega
   ·rw [hc1,Zj] at hq; subst hq; exact hq2
 | bin x h ha hs ih=>
  intro d hf
  generalize e:exA x=q at hf
  cases hf with
  | tm d q t hn ho=>subst e; exact U1 hr hl ho.1 (.bin x h ha hs)
  | nul d y hn h' hc=>
   have:=bj e; subst this
   obtain ⟨a,b,hc1⟩:∃ a b,x.args_=[a,b]:=⟨_,_,Ck ha⟩
   have hm:a∈x.args_:=by rw [hc1]; simp
   have hm2:b∈x.args_:=by rw [hc1]; simp
   refine .bin x a b h hc1 (ih a hm d (hc (by omega) a hm)) (ih b hm2 d (hc (by omega) b hm2)) (fun hk hk2=>?_)
   exfalso
   rcases Ih.1 hn with g | ⟨q,hq,hq2⟩
   ·omega
   ·rw [hc1] at hq
    rcases List.mem_cons.1 hq with rfl | hq
    ·exact hk (xj (hs _ hm) hq2)
    ·rw [Zj] at hq; subst hq; exact hk2 (xj (hs _ hm2) hq2)
/-- A valid operand can be evaluated. -/
theorem Mo (hr:M6 l r) (hl:LOk l) {e:List AV} {d:Nat} (h:OpE l d e) (he:IsEx e):EvR r e:=by
 rcases h with ⟨x,rfl,h1,_⟩ | h | ⟨h1,h2⟩
 ·exact .val x h1
 ·obtain ⟨x,rfl,_⟩:=he.open_
  exact I4 hr h.1
 exact Yj hr hl h1 d h2
end
/-- The next row of a match: c the letter of the pattern, prev the row before. -/
def ip (s:ByteArray) (c:Nat) (prev:Nat->Bool):Nat->Bool
 | 0=>c==37&&prev 0
 | i+1=>if c=37 then prev (i+1)||ip s c prev i else prev i&&(c==95||c==(bAt s i).toNat)
/-- The first k letters of the pattern match the first i of the text. -/
def lk (s p:ByteArray):Nat->Nat->Bool
 | 0=>fun i=>i==0
 | k+1=>ip s (bAt p k).toNat (lk s p k)
def H6 (s p:ByteArray):Bool:=lk s p p.size s.size
def ofS (b:Bool):Int:=if b=true then 1 else 0
def Bh (a b:ByteArray):Bool:=Op.bytesLess a.toList b.toList
def sk (a b:GVal):Int:=if a.int_ < b.int_\/Bh a.text_ b.text_=true then -1 else if a.int_ > b.int_\/(Bh a.text_ b.text_=false/\¬ a.text_.toList=b.text_.toList) then 1 else 0
def u9 (op:Int) (a b:GVal):Int :=
 if a.kind_=0\/b.kind_=0 then 2 else
 if op=10 then ofS (sk a b==0) else if op=11 then ofS (sk a b != 0) else if op=12 then ofS (decide (sk a b < 0)) else if op=13 then ofS (decide (sk a b<=0)) else
 if op=14 then ofS (decide (sk a b > 0)) else if op=15 then ofS (decide (sk a b≥0)) else ofS (H6 a.text_ b.text_)
def two (strong a b:Int):Int:=if a=strong\/b=strong then strong else if a=2\/b=2 then 2 else 1 - strong
def at0 (l:List GVal) (i:Nat):GVal:=l.getD i zV
mutual
/-- The truth value of a condition: 0 False, 1 True, 2 Unknown. -/
def cS (R:Int->GVal):List AV->Int
 | [.v (.int _ op),.v _,.v _,.v _,.v _,.v _,.v _,.tree _ es]=>
  if op=1 then 2 else if op=17 then ofS ((at0 (vsS R es) 0).kind_==0) else
  if op=18\/op=19 then two (op - 18) ((csS R es).getD 0 0) ((csS R es).getD 1 0) else
  if op=20 then (if (csS R es).getD 0 0=2 then 2 else 1 - (csS R es).getD 0 0) else u9 op (at0 (vsS R es) 0) (at0 (vsS R es) 1)
 | _=>0
def csS (R:Int->GVal):List (List AV)->List Int
 | []=>[]
 | r :: rs=>cS R r :: csS R rs
end
theorem Fi (R:Int->GVal) (x:GEx):cS R (exA x)=if x.op_=1 then 2 else if x.op_=17 then ofS ((at0 (vsS R x.args_) 0).kind_==0) else
  if x.op_=18\/x.op_=19 then two (x.op_ - 18) ((csS R x.args_).getD 0 0) ((csS R x.args_).getD 1 0) else
  if x.op_=20 then (if (csS R x.args_).getD 0 0=2 then 2 else 1 - (csS R x.args_).getD 0 0) else u9 x.op_ (at0 (vsS R x.args_) 0) (at0 (vsS R x.args_) 1):=by
 simp only [exA,cS,Dd]
theorem Ja (R:Int->GVal) {l:List (List AV)} {i:Nat} (h:i < l.length):(csS R l).getD i 0=cS R l[i]:=by
 induction l generalizing i with
 | nil=>simp at h
 | cons a t ih=>
  cases i with
  | zero=>simp only [csS]; rfl
  | succ i=>simp only [csS]; exact ih (by simpa using h)
theorem Gc (R:Int->GVal) {l:List (List AV)} {i:Nat} (h:i < l.length):at0 (vsS R l) i=vS R l[i]:=by
 unfold at0
 induction l generalizing i with
 | nil=>simp at h
 | cons a t ih=>
  cases i with
  | zero=>simp only [vsS]; rfl
  | succ i=>simp only [vsS]; exact ih (by simpa using h)
theorem wb (a:GVal) (ha:FitVal a) (b:GVal) (hb:FitVal b):PRet Tryz.prog 76 [.agg (gvA a),.agg (gvA b)] (fun r=>r=.v (.int .i64 (sk a b))):=by
 refine PRet.of_vc ao [] [] Tryz.func76 rfl Tryz.ntmps76 rfl (by kernel_rfl) (cD (fun hq10=>?_) (fun hq10=>?_))
 ·exact cT (rV Tryz.results76 rfl (congrArg (fun z=>AV.v (.int .i64 z)) (by unfold sk Bh; (rw [if_pos (by simp_all)]; done))))
 refine cB (fun hc16=>?_) (fun hc16=>?_)
 ·exact rV Tryz.results76 rfl (congrArg (fun z=>AV.v (.int .i64 z)) (by unfold sk Bh; (rw [if_pos (by simp_all)]; done)))
 refine cD (fun hq22=>?_) (fun hq22=>?_)
 ·exact cT (rV Tryz.results76 rfl (congrArg (fun z=>AV.v (.int .i64 z)) (by unfold sk Bh; (rw [if_neg (by simp_all),if_pos (by simp_all)]; done))))
 refine cB (fun hc28=>?_) (fun hc28=>?_)
 ·exact rV Tryz.results76 rfl (congrArg (fun z=>AV.v (.int .i64 z)) (by unfold sk Bh; (rw [if_neg (by simp_all),if_pos (by simp_all)]; done)))
 exact rV Tryz.results76 rfl (congrArg (fun z=>AV.v (.int .i64 z)) (by unfold sk Bh; (rw [if_neg (by simp_all),if_neg (by simp_all)]; done)))
theorem yo:FitVal zV:=⟨Nat.zero_le _⟩
theorem Ig (n:Int):FitVal (iV n):=⟨Nat.zero_le _⟩
theorem Qa (op:Int) (l:List GVal):FitVal (opS op l):=by
 cases l with
 | nil=>exact yo
 | cons a t=>
  simp only [opS]
  split
  ·exact yo
  ·split
   ·exact Ig _
   ·split
    ·exact Ig _
    ·cases t with
     | nil=>exact yo
     | cons b t=>simp only; split; exact yo; exact Ig _
theorem S4 {R:Int->GVal} (hR:∀ i,FitVal (R i)) {e:List AV} (he:IsEx e):FitVal (vS R e):=by
 obtain ⟨x,rfl,hx⟩:=he.open_
 rw [pc]
 split
 ·exact hx.value_
 split
 ·exact hR _
 exact Qa _ _
theorem K6 {r:List GVal} (hr:bw r (fun y=>FitVal y)) (i:Int):FitVal (a8 r i):=by
 unfold a8
 by_cases h:i.toNat < r.length
 ·have e:r.getD i.toNat zV=r[i.toNat]:=by simp [List.getD,h]
  rw [e]; exact hr.2 _ (Ze h)
 have e:r.getD i.toNat zV=zV:=by simp [List.getD,List.getElem?_eq_none (Nat.le_of_not_lt h)]
 rw [e]; exact yo
/-- A condition that can be evaluated on a row. -/
inductive CdR (r:List GVal):List AV->Prop
 | bin (x:GEx) (h:x.op_=18\/x.op_=19) (hl:x.args_.length=2) (ha:∀ e∈x.args_,CdR r e):CdR r (exA x)
 | not (x:GEx) (h:x.op_=20) (hl:x.args_.length=1) (ha:∀ e∈x.args_,CdR r e):CdR r (exA x)
 | isn (x:GEx) (h:x.op_=17) (hl:x.args_.length=1) (ha:∀ e∈x.args_,EvR r e):CdR r (exA x)
 | cmp (x:GEx) (h:10<=x.op_/\x.op_<=16) (hl:x.args_.length=2) (ha:∀ e∈x.args_,EvR r e):CdR r (exA x)
theorem Rt {r:List GVal} {x:GEx} (h:CdR r (exA x)):((x.op_=18\/x.op_=19)/\x.args_.length=2/\∀ e∈x.args_,CdR r e)\/(x.op_=20/\x.args_.length=1/\∀ e∈x.args_,CdR r e)\/(x.op_=17/\x.args_.length=1/\∀ e∈x.args_,EvR r e)\/((10<=x.op_/\x.op_<=16)/\x.args_.length=2/\∀ e∈x.args_,EvR r e):=by
 generalize e:exA x=q at h
 cases h with
 | bin y h hl ha=>rw [bj e]; exact .inl ⟨h,hl,ha⟩
 | not y h hl ha=>rw [bj e]; exact .inr (.inl ⟨h,hl,ha⟩)
 | isn y h hl ha=>rw [bj e]; exact .inr (.inr (.inl ⟨h,hl,ha⟩))
 | cmp y h hl ha=>rw [bj e]; exact .inr (.inr (.inr ⟨h,hl,ha⟩))
/-- A valid condition can be evaluated. -/
theorem Yo {l:List PVar} {r:List GVal} (hr:M6 l r) (hl:LOk l) {e:List AV} (h:CondE l e):IsEx e->CdR r e:=by
 induction h with
 | bin x h hl' ha ih=>intro he; obtain ⟨y,e,hy⟩:=he.open_; have:=bj e; subst this; exact .bin x h hl' (fun q hq=>ih q hq (hy.args_.2 q hq))
 | not x h hl' ha ih=>intro he; obtain ⟨y,e,hy⟩:=he.open_; have:=bj e; subst this; exact .not x h hl' (fun q hq=>ih q hq (hy.args_.2 q hq))
 | isn x h hl' ha=>intro he; obtain ⟨y,e,hy⟩:=he.open_; have:=bj e; subst this; exact .isn x h hl' (fun q hq=>Mo hr hl (ha q hq) (hy.args_.2 q hq))
 | like x a b h ha hb ho=>
  intro he; obtain ⟨y,e,hy⟩:=he.open_; have:=bj e; subst this
  refine .cmp x (by omega) (by rw [ha]; rfl) (fun q hq=>?_)
  have hq':=hq
  rw [ha] at hq'
  rcases List.mem_cons.1 hq' with rfl | hq'
  ·exact Mo hr hl ho (hy.args_.2 _ hq)
  ·rw [Zj] at hq'; subst hq'; exact .val b hb.1
 | cmp x a b h ha h0 h1=>
  intro he; obtain ⟨y,e,hy⟩:=he.open_; have:=bj e; subst this
  refine .cmp x (by omega) (by rw [ha]; rfl) (fun q hq=>?_)
  have hq':=hq
  rw [ha] at hq'
  rcases List.mem_cons.1 hq' with rfl | hq'
  ·exact Mo hr hl h0 (hy.args_.2 _ hq)
  ·rw [Zj] at hq'; subst hq'; exact Mo hr hl h1 (hy.args_.2 _ hq)
theorem Br {R:Int->GVal}:∀ {l:List (List AV)},(∀ e∈l,0<=cS R e/\cS R e<=2)->∀ i,0<=(csS R l).getD i 0/\(csS R l).getD i 0<=2
 | [],_,i=>by simp [csS]
 | a :: t,h,0=>by simp only [csS]; exact h a (by simp)
 | a :: t,h,i+1=>by simp only [csS]; exact Br (fun e he=>h e (by simp [he])) i
theorem Hn (b:Bool):0<=ofS b/\ofS b<=2:=by cases b <;> decide
theorem On {R:Int->GVal} {e:List AV} (he:IsEx e):0<=cS R e/\cS R e<=2:=IsEx.ind (M:=fun e=>0<=cS R e/\cS R e<=2) (fun x hx ih=>by
 have g0:=Br ih 0
 have g1:=Br ih 1
 rw [Fi]
 split
 ·decide
 split
 ·exact Hn _
 split
 ·unfold two; repeat' split
  all_goals omega
 split
 ·split <;> omega
 unfold u9
 split
 ·decide
 repeat' split
 all_goals exact Hn _) he
section
variable {R:Int->GVal} {x:GEx}
theorem Yp (h:x.op_=1):2=cS R (exA x):=by rw [Fi,if_pos h]
theorem Yq (h:x.op_=17) (hl:x.args_.length=1) {v:Int} (hv:v=if ((vS R (x.args_[0]'(by omega))).kind_==0)=true then 1 else 0):v=cS R (exA x):=by
 rw [Fi,if_neg (by omega),if_pos h,Gc R (by omega:0 < x.args_.length),hv]; rfl
theorem vj (h:x.op_=18\/x.op_=19) (hl:x.args_.length=2):cS R (exA x)=two (x.op_ - 18) (cS R (x.args_[0]'(by omega))) (cS R (x.args_[1]'(by omega))):=by
 rw [Fi,if_neg (by omega),if_neg (by omega),if_pos h,Ja R (by omega:0 < x.args_.length),Ja R (by omega:1 < x.args_.length)]
theorem My (h:x.op_=20) (hl:x.args_.length=1):cS R (exA x)=if cS R (x.args_[0]'(by omega))=2 then (2:Int) else (1:Int) - cS R (x.args_[0]'(by omega)):=by
 rw [Fi,if_neg (by omega),if_neg (by omega),if_neg (by omega),if_pos h,Ja R (by omega:0 < x.args_.length)]
theorem lu (h:10<=x.op_/\x.op_<=16) (hl:x.args_.length=2):cS R (exA x)=u9 x.op_ (vS R (x.args_[0]'(by omega))) (vS R (x.args_[1]'(by omega))):=by
 rw [Fi,if_neg (by omega),if_neg (by omega),if_neg (by omega),if_neg (by omega),Gc R (by omega:0 < x.args_.length),Gc R (by omega:1 < x.args_.length)]
end
theorem Rb {τ:Nat->AV} {η:au} {d:Option Tmp} {ty:TypeId} {pos:String} {af:Array Edge} {g:Option (Nat×Bool)} {y:Operand} {k i:Int} {t:ByteArray} (hx:aev τ y=.agg [.v (.int .i64 k),.v (.int .i64 i),.v (.string t)]):LOp Tryz.prog ⟨d,.field 45 y 0,ty,pos,af,g⟩ τ η [] [] (.v (.int .i64 k)) :=
 z7 (u:=0) (r:=⟨[],[],.v (.int .i64 k),0⟩) (by
  unfold Dt
  rw [show Bm Tryz.prog 45 0=some (0,3) by kernel_rfl]
  simp only [hx,Hh,show el Tryz.prog 3=some none by kernel_rfl]
  rfl)
theorem Ms (x:GEx) (hx:FitEx x) (r:List GVal) (hr:bw r (fun y=>FitVal y)) (hcd:CdR r (exA x)) (ih:∀ e∈x.args_,CdR r e->PRet Tryz.prog 36 [.agg (rwA e),.tree 3 (r.map gvA)] (fun q=>q=.v (.int .i64 (cS (a8 r) e)))) (hlk:∀ s p:ByteArray,lw s->lw p->PRet Tryz.prog 77 [.v (.string s),.v (.string p)] (fun q=>q=.v (.bool (H6 s p)))):PRet Tryz.prog 36 [.agg (exA x),.tree 3 (r.map gvA)] (fun q=>q=.v (.int .i64 (cS (a8 r) (exA x)))):=by
 have hco:=Rt hcd
 have hvf:∀ e∈x.args_,FitVal (vS (a8 r) e):=fun e he=>S4 (K6 hr) (hx.args_.2 e he)
 refine PRet.of_vc ao [21,24,33,39,44,67,73,77,83] [] Tryz.func36 rfl Tryz.ntmps36 rfl (by kernel_rfl) ?_
 refine cB (fun hc14=>?_) (fun hc14=>?_)
 ·have hq14:(x.op_:Int)=(1:Int):=by simpa using hc14
  exact rV Tryz.results36 rfl (congrArg (fun z=>AV.v (.int .i64 z)) (Yp (by assumption)))
 have hq14:¬ ((x.op_:Int)=(1:Int)):=by simpa using hc14
 refine cB (fun hc16=>?_) (fun hc16=>?_)
 ·have hq16:(x.op_:Int)=(17:Int):=by simpa using hc16
  have hB:x.op_=17/\x.args_.length=1/\∀ e∈x.args_,EvR r e:=by rcases hco with g | g | g | g <;> first | exact ⟨by omega,g.2⟩ | omega
  refine IdxG.of (j:=0) (by omega) (OpG.lk (aq d8 rfl (cj (hx.args_.2 _ (Ze _)))) ?_)
  refine ArgG.mk (lz r hr x.args_[0] (hx.args_.2 _ (Ze _)) (hB.2.2 _ (Ze _))) (show ay [.agg (rwA x.args_[0]),.tree 3 (r.map gvA)]=true by simp [ay,AV.pureB,cm (hx.args_.2 _ (Ze _))]) ?_
  rintro _ rfl
  refine OpG.lk (Rb rfl) ?_
  refine ArgG.mk (jl ((vS (a8 r) x.args_[0]).kind_==0)) rfl ?_
  rintro _ ⟨o1,rfl,ho1⟩
  exact rV Tryz.results36 rfl (congrArg (fun z=>AV.v (.int .i64 z)) (Yq hB.1 hB.2.1 ho1))
 have hq16:¬ ((x.op_:Int)=(17:Int)):=by simpa using hc16
 refine cB (fun hc27=>?_) (fun hc27=>?_)
 ·have hq27:(x.op_:Int)=(18:Int):=by simpa using hc27
  have hB:(x.op_=18\/x.op_=19)/\x.args_.length=2/\∀ e∈x.args_,CdR r e:=by rcases hco with g | g | g | g <;> first | exact ⟨by omega,g.2⟩ | omega
  refine cB (fun hc27=>?_) (fun hc27=>?_)
  ·have hq27:(x.op_:Int)=(18:Int):=by simpa using hc27
   have hB:(x.op_=18\/x.op_=19)/\x.args_.length=2/\∀ e∈x.args_,CdR r e:=by rcases hco with g | g | g | g <;> first | exact ⟨by omega,g.2⟩ | omega
   refine IdxG.of (j:=0) (by omega) (OpG.lk (aq d8 rfl (cj (hx.args_.2 _ (Ze _)))) ?_)
   refine ArgG.mk (ih x.args_[0] (Ze _) (hB.2.2 _ (Ze _))) (show ay [.agg (rwA x.args_[0]),.tree 3 (r.map gvA)]=true by simp [ay,AV.pureB,cm (hx.args_.2 _ (Ze _))]) ?_
   rintro _ rfl
   refine IdxG.of (j:=1) (by omega) (OpG.lk (aq d8 rfl (cj (hx.args_.2 _ (Ze _)))) ?_)
   refine ArgG.mk (ih x.args_[1] (Ze _) (hB.2.2 _ (Ze _))) (show ay [.agg (rwA x.args_[1]),.tree 3 (r.map gvA)]=true by simp [ay,AV.pureB,cm (hx.args_.2 _ (Ze _))]) ?_
   rintro _ rfl
   refine ⟨by kernel_rfl,?_⟩
   refine OpG.lk (jz rfl rfl (by omega) (by omega)) ?_
   refine cB (fun hg48=>?_) (fun hg48=>?_)
   ·have hq48:((cS (a8 r) x.args_[0]):Int)=((x.op_ - 18):Int):=by simpa using hg48
    refine cT (rV Tryz.results36 rfl ?_)
    (refine congrArg (fun z=>AV.v (.int .i64 z)) (Eq.symm ((vj hB.1 hB.2.1).trans ?_)); simp_all [two]; done)
   have hq48:¬ (((cS (a8 r) x.args_[0]):Int)=((x.op_ - 18):Int)):=by simpa using hg48
   refine cB (fun hc52=>?_) (fun hc52=>?_)
   ·have hq52:((cS (a8 r) x.args_[1]):Int)=((x.op_ - 18):Int):=by simpa using hc52
    refine rV Tryz.results36 rfl ?_
    (refine congrArg (fun z=>AV.v (.int .i64 z)) (Eq.symm ((vj hB.1 hB.2.1).trans ?_)); simp_all [two]; done)
   have hq52:¬ (((cS (a8 r) x.args_[1]):Int)=((x.op_ - 18):Int)):=by simpa using hc52
   refine cB (fun hg56=>?_) (fun hg56=>?_)
   ·have hq56:((cS (a8 r) x.args_[0]):Int)=(2:Int):=by simpa using hg56
    refine cT (rV Tryz.results36 rfl ?_)
    (refine congrArg (fun z=>AV.v (.int .i64 z)) (Eq.symm ((vj hB.1 hB.2.1).trans ?_)); simp_all [two]; done)
   have hq56:¬ (((cS (a8 r) x.args_[0]):Int)=(2:Int)):=by simpa using hg56
   refine cB (fun hc59=>?_) (fun hc59=>?_)
   ·have hq59:((cS (a8 r) x.args_[1]):Int)=(2:Int):=by simpa using hc59
    refine rV Tryz.results36 rfl ?_
    (refine congrArg (fun z=>AV.v (.int .i64 z)) (Eq.symm ((vj hB.1 hB.2.1).trans ?_)); simp_all [two]; done)
   have hq59:¬ (((cS (a8 r) x.args_[1]):Int)=(2:Int)):=by simpa using hc59
   refine ⟨by omega,?_⟩
   refine rV Tryz.results36 rfl ?_
   (refine congrArg (fun z=>AV.v (.int .i64 z)) (Eq.symm ((vj hB.1 hB.2.1).trans ?_)); simp_all [two]; done)
  have hq27:¬ ((x.op_:Int)=(18:Int)):=by simpa using hc27
  refine cB (fun hc62=>?_) (fun hc62=>?_)
  ·have hq62:(x.op_:Int)=(20:Int):=by simpa using hc62
   have hB:x.op_=20/\x.args_.length=1/\∀ e∈x.args_,CdR r e:=by rcases hco with g | g | g | g <;> first | exact ⟨by omega,g.2⟩ | omega
   have hcr:=On (R:=a8 r) (hx.args_.2 _ (Ze (show 0 < x.args_.length by omega)))
   refine IdxG.of (j:=0) (by omega) (OpG.lk (aq d8 rfl (cj (hx.args_.2 _ (Ze _)))) ?_)
   refine ArgG.mk (ih x.args_[0] (Ze _) (hB.2.2 _ (Ze _))) (show ay [.agg (rwA x.args_[0]),.tree 3 (r.map gvA)]=true by simp [ay,AV.pureB,cm (hx.args_.2 _ (Ze _))]) ?_
   rintro _ rfl
   refine cB (fun hc71=>?_) (fun hc71=>?_)
   ·have hq71:((cS (a8 r) x.args_[0]):Int)=(2:Int):=by simpa using hc71
    refine rV Tryz.results36 rfl ?_
    (refine congrArg (fun z=>AV.v (.int .i64 z)) (Eq.symm ((My hB.1 hB.2.1).trans ?_)); simp_all; done)
   have hq71:¬ (((cS (a8 r) x.args_[0]):Int)=(2:Int)):=by simpa using hc71
   refine OpG.lk (jz rfl rfl (by omega) (by omega)) ?_
   refine rV Tryz.results36 rfl ?_
   (refine congrArg (fun z=>AV.v (.int .i64 z)) (Eq.symm ((My hB.1 hB.2.1).trans ?_)); simp_all; done)
  have hq62:¬ ((x.op_:Int)=(20:Int)):=by simpa using hc62
  have hB:(10<=x.op_/\x.op_<=16)/\x.args_.length=2/\∀ e∈x.args_,EvR r e:=by rcases hco with g | g | g | g <;> first | exact ⟨by omega,g.2⟩ | omega
  refine IdxG.of (j:=0) (by omega) (OpG.lk (aq d8 rfl (cj (hx.args_.2 _ (Ze _)))) ?_)
  refine ArgG.mk (lz r hr x.args_[0] (hx.args_.2 _ (Ze _)) (hB.2.2 _ (Ze _))) (show ay [.agg (rwA x.args_[0]),.tree 3 (r.map gvA)]=true by simp [ay,AV.pureB,cm (hx.args_.2 _ (Ze _))]) ?_
  rintro _ rfl
  refine IdxG.of (j:=1) (by omega) (OpG.lk (aq d8 rfl (cj (hx.args_.2 _ (Ze _)))) ?_)
  refine ArgG.mk (lz r hr x.args_[1] (hx.args_.2 _ (Ze _)) (hB.2.2 _ (Ze _))) (show ay [.agg (rwA x.args_[1]),.tree 3 (r.map gvA)]=true by simp [ay,AV.pureB,cm (hx.args_.2 _ (Ze _))]) ?_
  rintro _ rfl
  refine ⟨by kernel_rfl,?_⟩
  refine cB (fun hg89=>?_) (fun hg89=>?_)
  ·have hq89:((vS (a8 r) x.args_[0]).kind_:Int)=(0:Int):=by simpa using hg89
   refine cT (rV Tryz.results36 rfl ?_)
   (refine congrArg (fun z=>AV.v (.int .i64 z)) (Eq.symm ((lu hB.1 hB.2.1).trans ?_)); simp_all [u9,ofS]; done)
  have hq89:¬ (((vS (a8 r) x.args_[0]).kind_:Int)=(0:Int)):=by simpa using hg89
  refine cB (fun hc93=>?_) (fun hc93=>?_)
  ·have hq93:((vS (a8 r) x.args_[1]).kind_:Int)=(0:Int):=by simpa using hc93
   refine rV Tryz.results36 rfl ?_
   (refine congrArg (fun z=>AV.v (.int .i64 z)) (Eq.symm ((lu hB.1 hB.2.1).trans ?_)); simp_all [u9,ofS]; done)
  have hq93:¬ (((vS (a8 r) x.args_[1]).kind_:Int)=(0:Int)):=by simpa using hc93
  refine ArgG.mk (wb (vS (a8 r) x.args_[0]) (hvf _ (Ze _)) (vS (a8 r) x.args_[1]) (hvf _ (Ze _))) rfl ?_
  rintro _ rfl
  refine cB (fun hc99=>?_) (fun hc99=>?_)
  ·have hq99:(x.op_:Int)=(10:Int):=by simpa using hc99
   refine ArgG.mk (jl ((sk (vS (a8 r) x.args_[0]) (vS (a8 r) x.args_[1]))==0)) rfl ?_
   rintro _ ⟨o8,rfl,ho8⟩
   refine rV Tryz.results36 rfl ?_
   (refine congrArg (fun z=>AV.v (.int .i64 z)) (Eq.symm ((lu hB.1 hB.2.1).trans ?_)); simp_all [u9,ofS]; done)
  have hq99:¬ ((x.op_:Int)=(10:Int)):=by simpa using hc99
  refine cB (fun hc104=>?_) (fun hc104=>?_)
  ·have hq104:(x.op_:Int)=(11:Int):=by simpa using hc104
   refine ArgG.mk (jl ((sk (vS (a8 r) x.args_[0]) (vS (a8 r) x.args_[1])) != 0)) rfl ?_
   rintro _ ⟨o9,rfl,ho9⟩
   refine rV Tryz.results36 rfl ?_
   (refine congrArg (fun z=>AV.v (.int .i64 z)) (Eq.symm ((lu hB.1 hB.2.1).trans ?_)); simp_all [u9,ofS]; done)
  have hq104:¬ ((x.op_:Int)=(11:Int)):=by simpa using hc104
  refine cB (fun hc109=>?_) (fun hc109=>?_)
  ·have hq109:(x.op_:Int)=(12:Int):=by simpa using hc109
   refine ArgG.mk (jl (decide ((sk (vS (a8 r) x.args_[0]) (vS (a8 r) x.args_[1])) < 0))) rfl ?_
   rintro _ ⟨o10,rfl,ho10⟩
   refine rV Tryz.results36 rfl ?_
   (refine congrArg (fun z=>AV.v (.int .i64 z)) (Eq.symm ((lu hB.1 hB.2.1).trans ?_)); simp_all [u9,ofS]; done)
  have hq109:¬ ((x.op_:Int)=(12:Int)):=by simpa using hc109
  refine cB (fun hc114=>?_) (fun hc114=>?_)
  ·have hq114:(x.op_:Int)=(13:Int):=by simpa using hc114
   refine ArgG.mk (jl (decide ((sk (vS (a8 r) x.args_[0]) (vS (a8 r) x.args_[1]))<=0))) rfl ?_
   rintro _ ⟨o11,rfl,ho11⟩
   refine rV Tryz.results36 rfl ?_
   (refine congrArg (fun z=>AV.v (.int .i64 z)) (Eq.symm ((lu hB.1 hB.2.1).trans ?_)); simp_all [u9,ofS]; done)
  have hq114:¬ ((x.op_:Int)=(13:Int)):=by simpa using hc114
  refine cB (fun hc119=>?_) (fun hc119=>?_)
  ·have hq119:(x.op_:Int)=(14:Int):=by simpa using hc119
   refine ArgG.mk (jl (decide ((sk (vS (a8 r) x.args_[0]) (vS (a8 r) x.args_[1])) > 0))) rfl ?_
   rintro _ ⟨o12,rfl,ho12⟩
   refine rV Tryz.results36 rfl ?_
   (refine congrArg (fun z=>AV.v (.int .i64 z)) (Eq.symm ((lu hB.1 hB.2.1).trans ?_)); simp_all [u9,ofS]; done)
  have hq119:¬ ((x.op_:Int)=(14:Int)):=by simpa using hc119
  refine cB (fun hc124=>?_) (fun hc124=>?_)
  ·have hq124:(x.op_:Int)=(15:Int):=by simpa using hc124
   refine ArgG.mk (jl (decide ((sk (vS (a8 r) x.args_[0]) (vS (a8 r) x.args_[1]))≥0))) rfl ?_
   rintro _ ⟨o13,rfl,ho13⟩
   refine rV Tryz.results36 rfl ?_
   (refine congrArg (fun z=>AV.v (.int .i64 z)) (Eq.symm ((lu hB.1 hB.2.1).trans ?_)); simp_all [u9,ofS]; done)
  have hq124:¬ ((x.op_:Int)=(15:Int)):=by simpa using hc124
  refine ArgG.mk (hlk (vS (a8 r) x.args_[0]).text_ (vS (a8 r) x.args_[1]).text_ (hvf _ (Ze _)).text_ (hvf _ (Ze _)).text_) rfl ?_
  rintro _ rfl
  refine ArgG.mk (jl (H6 (vS (a8 r) x.args_[0]).text_ (vS (a8 r) x.args_[1]).text_)) rfl ?_
  rintro _ ⟨o15,rfl,ho15⟩
  refine rV Tryz.results36 rfl ?_
  (refine congrArg (fun z=>AV.v (.int .i64 z)) (Eq.symm ((lu hB.1 hB.2.1).trans ?_)); simp_all [u9,ofS]; done)
 have hq27:¬ ((x.op_:Int)=(18:Int)):=by simpa using hc27
 refine cB (fun hc27=>?_) (fun hc27=>?_)
 ·have hq27:(x.op_:Int)=(19:Int):=by simpa using hc27
  have hB:(x.op_=18\/x.op_=19)/\x.args_.length=2/\∀ e∈x.args_,CdR r e:=by rcases hco with g | g | g | g <;> first | exact ⟨by omega,g.2⟩ | omega
  refine IdxG.of (j:=0) (by omega) (OpG.lk (aq d8 rfl (cj (hx.args_.2 _ (Ze _)))) ?_)
  refine ArgG.mk (ih x.args_[0] (Ze _) (hB.2.2 _ (Ze _))) (show ay [.agg (rwA x.args_[0]),.tree 3 (r.map gvA)]=true by simp [ay,AV.pureB,cm (hx.args_.2 _ (Ze _))]) ?_
  rintro _ rfl
  refine IdxG.of (j:=1) (by omega) (OpG.lk (aq d8 rfl (cj (hx.args_.2 _ (Ze _)))) ?_)
  refine ArgG.mk (ih x.args_[1] (Ze _) (hB.2.2 _ (Ze _))) (show ay [.agg (rwA x.args_[1]),.tree 3 (r.map gvA)]=true by simp [ay,AV.pureB,cm (hx.args_.2 _ (Ze _))]) ?_
  rintro _ rfl
  refine ⟨by kernel_rfl,?_⟩
  refine OpG.lk (jz rfl rfl (by omega) (by omega)) ?_
  refine cB (fun hg48=>?_) (fun hg48=>?_)
  ·have hq48:((cS (a8 r) x.args_[0]):Int)=((x.op_ - 18):Int):=by simpa using hg48
   refine cT (rV Tryz.results36 rfl ?_)
   (refine congrArg (fun z=>AV.v (.int .i64 z)) (Eq.symm ((vj hB.1 hB.2.1).trans ?_)); simp_all [two]; done)
  have hq48:¬ (((cS (a8 r) x.args_[0]):Int)=((x.op_ - 18):Int)):=by simpa using hg48
  refine cB (fun hc52=>?_) (fun hc52=>?_)
  ·have hq52:((cS (a8 r) x.args_[1]):Int)=((x.op_ - 18):Int):=by simpa using hc52
   refine rV Tryz.results36 rfl ?_
   (refine congrArg (fun z=>AV.v (.int .i64 z)) (Eq.symm ((vj hB.1 hB.2.1).trans ?_)); simp_all [two]; done)
  have hq52:¬ (((cS (a8 r) x.args_[1]):Int)=((x.op_ - 18):Int)):=by simpa using hc52
  refine cB (fun hg56=>?_) (fun hg56=>?_)
  ·have hq56:((cS (a8 r) x.args_[0]):Int)=(2:Int):=by simpa using hg56
   refine cT (rV Tryz.results36 rfl ?_)
   (refine congrArg (fun z=>AV.v (.int .i64 z)) (Eq.symm ((vj hB.1 hB.2.1).trans ?_)); simp_all [two]; done)
  have hq56:¬ (((cS (a8 r) x.args_[0]):Int)=(2:Int)):=by simpa using hg56
  refine cB (fun hc59=>?_) (fun hc59=>?_)
  ·have hq59:((cS (a8 r) x.args_[1]):Int)=(2:Int):=by simpa using hc59
   refine rV Tryz.results36 rfl ?_
   (refine congrArg (fun z=>AV.v (.int .i64 z)) (Eq.symm ((vj hB.1 hB.2.1).trans ?_)); simp_all [two]; done)
  have hq59:¬ (((cS (a8 r) x.args_[1]):Int)=(2:Int)):=by simpa using hc59
  refine ⟨by omega,?_⟩
  refine rV Tryz.results36 rfl ?_
  (refine congrArg (fun z=>AV.v (.int .i64 z)) (Eq.symm ((vj hB.1 hB.2.1).trans ?_)); simp_all [two]; done)
 have hq27:¬ ((x.op_:Int)=(19:Int)):=by simpa using hc27
 refine cB (fun hc62=>?_) (fun hc62=>?_)
 ·have hq62:(x.op_:Int)=(20:Int):=by simpa using hc62
  have hB:x.op_=20/\x.args_.length=1/\∀ e∈x.args_,CdR r e:=by rcases hco with g | g | g | g <;> first | exact ⟨by omega,g.2⟩ | omega
  have hcr:=On (R:=a8 r) (hx.args_.2 _ (Ze (show 0 < x.args_.length by omega)))
  refine IdxG.of (j:=0) (by omega) (OpG.lk (aq d8 rfl (cj (hx.args_.2 _ (Ze _)))) ?_)
  refine ArgG.mk (ih x.args_[0] (Ze _) (hB.2.2 _ (Ze _))) (show ay [.agg (rwA x.args_[0]),.tree 3 (r.map gvA)]=true by simp [ay,AV.pureB,cm (hx.args_.2 _ (Ze _))]) ?_
  rintro _ rfl
  refine cB (fun hc71=>?_) (fun hc71=>?_)
  ·have hq71:((cS (a8 r) x.args_[0]):Int)=(2:Int):=by simpa using hc71
   refine rV Tryz.results36 rfl ?_
   (refine congrArg (fun z=>AV.v (.int .i64 z)) (Eq.symm ((My hB.1 hB.2.1).trans ?_)); simp_all; done)
  have hq71:¬ (((cS (a8 r) x.args_[0]):Int)=(2:Int)):=by simpa using hc71
  refine OpG.lk (jz rfl rfl (by omega) (by omega)) ?_
  refine rV Tryz.results36 rfl ?_
  (refine congrArg (fun z=>AV.v (.int .i64 z)) (Eq.symm ((My hB.1 hB.2.1).trans ?_)); simp_all; done)
 have hq62:¬ ((x.op_:Int)=(20:Int)):=by simpa using hc62
 have hB:(10<=x.op_/\x.op_<=16)/\x.args_.length=2/\∀ e∈x.args_,EvR r e:=by rcases hco with g | g | g | g <;> first | exact ⟨by omega,g.2⟩ | omega
 refine IdxG.of (j:=0) (by omega) (OpG.lk (aq d8 rfl (cj (hx.args_.2 _ (Ze _)))) ?_)
 refine ArgG.mk (lz r hr x.args_[0] (hx.args_.2 _ (Ze _)) (hB.2.2 _ (Ze _))) (show ay [.agg (rwA x.args_[0]),.tree 3 (r.map gvA)]=true by simp [ay,AV.pureB,cm (hx.args_.2 _ (Ze _))]) ?_
 rintro _ rfl
 refine IdxG.of (j:=1) (by omega) (OpG.lk (aq d8 rfl (cj (hx.args_.2 _ (Ze _)))) ?_)
 refine ArgG.mk (lz r hr x.args_[1] (hx.args_.2 _ (Ze _)) (hB.2.2 _ (Ze _))) (show ay [.agg (rwA x.args_[1]),.tree 3 (r.map gvA)]=true by simp [ay,AV.pureB,cm (hx.args_.2 _ (Ze _))]) ?_
 rintro _ rfl
 refine ⟨by kernel_rfl,?_⟩
 refine cB (fun hg89=>?_) (fun hg89=>?_)
 ·have hq89:((vS (a8 r) x.args_[0]).kind_:Int)=(0:Int):=by simpa using hg89
  refine cT (rV Tryz.results36 rfl ?_)
  (refine congrArg (fun z=>AV.v (.int .i64 z)) (Eq.symm ((lu hB.1 hB.2.1).trans ?_)); simp_all [u9,ofS]; done)
 have hq89:¬ (((vS (a8 r) x.args_[0]).kind_:Int)=(0:Int)):=by simpa using hg89
 refine cB (fun hc93=>?_) (fun hc93=>?_)
 ·have hq93:((vS (a8 r) x.args_[1]).kind_:Int)=(0:Int):=by simpa using hc93
  refine rV Tryz.results36 rfl ?_
  (refine congrArg (fun z=>AV.v (.int .i64 z)) (Eq.symm ((lu hB.1 hB.2.1).trans ?_)); simp_all [u9,ofS]; done)
 have hq93:¬ (((vS (a8 r) x.args_[1]).kind_:Int)=(0:Int)):=by simpa using hc93
 refine ArgG.mk (wb (vS (a8 r) x.args_[0]) (hvf _ (Ze _)) (vS (a8 r) x.args_[1]) (hvf _ (Ze _))) rfl ?_
 rintro _ rfl
 refine cB (fun hc99=>?_) (fun hc99=>?_)
 ·have hq99:(x.op_:Int)=(10:Int):=by simpa using hc99
  refine ArgG.mk (jl ((sk (vS (a8 r) x.args_[0]) (vS (a8 r) x.args_[1]))==0)) rfl ?_
  rintro _ ⟨o22,rfl,ho22⟩
  refine rV Tryz.results36 rfl ?_
  (refine congrArg (fun z=>AV.v (.int .i64 z)) (Eq.symm ((lu hB.1 hB.2.1).trans ?_)); simp_all [u9,ofS]; done)
 have hq99:¬ ((x.op_:Int)=(10:Int)):=by simpa using hc99
 refine cB (fun hc104=>?_) (fun hc104=>?_)
 ·have hq104:(x.op_:Int)=(11:Int):=by simpa using hc104
  refine ArgG.mk (jl ((sk (vS (a8 r) x.args_[0]) (vS (a8 r) x.args_[1])) != 0)) rfl ?_
  rintro _ ⟨o23,rfl,ho23⟩
  refine rV Tryz.results36 rfl ?_
  (refine congrArg (fun z=>AV.v (.int .i64 z)) (Eq.symm ((lu hB.1 hB.2.1).trans ?_)); simp_all [u9,ofS]; done)
 have hq104:¬ ((x.op_:Int)=(11:Int)):=by simpa using hc104
 refine cB (fun hc109=>?_) (fun hc109=>?_)
 ·have hq109:(x.op_:Int)=(12:Int):=by simpa using hc109
  refine ArgG.mk (jl (decide ((sk (vS (a8 r) x.args_[0]) (vS (a8 r) x.args_[1])) < 0))) rfl ?_
  rintro _ ⟨o24,rfl,ho24⟩
  refine rV Tryz.results36 rfl ?_
  (refine congrArg (fun z=>AV.v (.int .i64 z)) (Eq.symm ((lu hB.1 hB.2.1).trans ?_)); simp_all [u9,ofS]; done)
 have hq109:¬ ((x.op_:Int)=(12:Int)):=by simpa using hc109
 refine cB (fun hc114=>?_) (fun hc114=>?_)
 ·have hq114:(x.op_:Int)=(13:Int):=by simpa using hc114
  refine ArgG.mk (jl (decide ((sk (vS (a8 r) x.args_[0]) (vS (a8 r) x.args_[1]))<=0))) rfl ?_
  rintro _ ⟨o25,rfl,ho25⟩
  refine rV Tryz.results36 rfl ?_
  (refine congrArg (fun z=>AV.v (.int .i64 z)) (Eq.symm ((lu hB.1 hB.2.1).trans ?_)); simp_all [u9,ofS]; done)
 have hq114:¬ ((x.op_:Int)=(13:Int)):=by simpa using hc114
 refine cB (fun hc119=>?_) (fun hc119=>?_)
 ·have hq119:(x.op_:Int)=(14:Int):=by simpa using hc119
  refine ArgG.mk (jl (decide ((sk (vS (a8 r) x.args_[0]) (vS (a8 r) x.args_[1])) > 0))) rfl ?_
  rintro _ ⟨o26,rfl,ho26⟩
  refine rV Tryz.results36 rfl ?_
  (refine congrArg (fun z=>AV.v (.int .i64 z)) (Eq.symm ((lu hB.1 hB.2.1).trans ?_)); simp_all [u9,ofS]; done)
 have hq119:¬ ((x.op_:Int)=(14:Int)):=by simpa using hc119
 refine cB (fun hc124=>?_) (fun hc124=>?_)
 ·have hq124:(x.op_:Int)=(15:Int):=by simpa using hc124
  refine ArgG.mk (jl (decide ((sk (vS (a8 r) x.args_[0]) (vS (a8 r) x.args_[1]))≥0))) rfl ?_
  rintro _ ⟨o27,rfl,ho27⟩
  refine rV Tryz.results36 rfl ?_
  (refine congrArg (fun z=>AV.v (.int .i64 z)) (Eq.symm ((lu hB.1 hB.2.1).trans ?_)); simp_all [u9,ofS]; done)
 have hq124:¬ ((x.op_:Int)=(15:Int)):=by simpa using hc124
 refine ArgG.mk (hlk (vS (a8 r) x.args_[0]).text_ (vS (a8 r) x.args_[1]).text_ (hvf _ (Ze _)).text_ (hvf _ (Ze _)).text_) rfl ?_
 rintro _ rfl
 refine ArgG.mk (jl (H6 (vS (a8 r) x.args_[0]).text_ (vS (a8 r) x.args_[1]).text_)) rfl ?_
 rintro _ ⟨o29,rfl,ho29⟩
 refine rV Tryz.results36 rfl ?_
 (refine congrArg (fun z=>AV.v (.int .i64 z)) (Eq.symm ((lu hB.1 hB.2.1).trans ?_)); simp_all [u9,ofS]; done)
end Go.Proofs.YthpangmpihkniaaGreatDoor
