/- Texts of the claim. -/
import Derived.Test.YtjdblmpkeilbaaaGreatDoorF1
import Derived.Test.YtjdblmpkeilbaaaGreatDoorQ2
namespace Go.Proofs.YtjdblmpkeilbaaaGreatDoor
set_option linter.unusedVariables false
set_option linter.unusedSimpArgs false
open Go.RowKit
structure GPart where
 coef_:Int
 kind_:Int
 var_:Int
 by_:Int
 of_:List (List AV)
abbrev ptA (x:GPart):List AV:=[.v (.int .i64 x.coef_),.v (.int .i64 x.kind_),.v (.int .i64 x.var_),.v (.int .i64 x.by_),.tree 2 (x.of_.map rwA)]
instance:Inhabited GPart:=⟨⟨0,0,0,0,[]⟩⟩
structure GTm where
 const_:Int
 parts_:List GPart
abbrev tmA (x:GTm):List AV:=[.v (.int .i64 x.const_),.tree 5 (x.parts_.map ptA)]
/-- A number, or what 64 bits leave of it. -/
def wr (m x:Int):Int:=if m=0 then x else IntKind.i64.wrap x
mutual
/-- The value of a term; ρ: the values of columns and lengths; ρ 2 0: whether quotients are of wrapped numbers. -/
def tvL (ρ:Int→Int→Int):List AV→Int
 | [.v (.int _ c),.tree _ ps]=>c+psL ρ ps
 | _=>0
def psL (ρ:Int→Int→Int):List (List AV)→Int
 | []=>0
 | r :: rs=>ptL ρ r+psL ρ rs
def ptL (ρ:Int→Int→Int):List AV→Int
 | [.v (.int _ c),.v (.int _ kd),.v (.int _ vr),.v (.int _ b),.tree _ os]=>c * (if kd=2 then (wr (ρ 2 0) (ofL ρ os)).fdiv b else ρ kd vr)
 | _=>0
def ofL (ρ:Int→Int→Int):List (List AV)→Int
 | []=>0
 | r :: _=>tvL ρ r
end
/-- Columns hold 32-bit numbers, texts at most 16 characters. -/
def GoodR (ρ:Int→Int→Int):Prop:=∀ v,(∀ k,-2147483648≤ρ k v∧ρ k v≤2147483648)∧-16≤ρ 1 v∧ρ 1 v≤16∧ρ 2 0=0
def Bd (r:List AV) (m:Int):Prop:=∀ ρ,GoodR ρ→-m≤tvL ρ r∧tvL ρ r≤m
inductive IsTm:List AV→Prop
 | mk (x:GTm) (h0:x.parts_.length≤140737488355328) (h1:∀ p∈x.parts_,p.of_.length≤1) (h2:∀ p∈x.parts_,p.kind_=2→p.of_.length=1∧1≤p.by_∧p.by_≤1000) (h3:∀ p∈x.parts_,p.kind_=2→∀ r∈p.of_,Bd r 1152921504606846976) (h:∀ p∈x.parts_,∀ r∈p.of_,IsTm r):IsTm (tmA x)
structure FitPart (p:GPart):Prop where
 of_:FitL p.of_ (fun y=>IsTm y)
 one:p.of_.length≤1
 dv:p.kind_=2→p.of_.length=1∧1≤p.by_∧p.by_≤1000
 bd:p.kind_=2→∀ r∈p.of_,Bd r 1152921504606846976
structure FitTm (x:GTm):Prop where
 parts_:FitL x.parts_ (fun y=>FitPart y)
theorem IsTm.fit {x:GTm} (h0:x.parts_.length≤140737488355328) (h1:∀ p∈x.parts_,p.of_.length≤1) (h2:∀ p∈x.parts_,p.kind_=2→p.of_.length=1∧1≤p.by_∧p.by_≤1000) (h3:∀ p∈x.parts_,p.kind_=2→∀ r∈p.of_,Bd r 1152921504606846976) (h:∀ p∈x.parts_,∀ r∈p.of_,IsTm r):FitTm x:=⟨⟨h0,fun p hp=>⟨⟨Nat.le_trans (h1 p hp) (by decide),h p hp⟩,h1 p hp,h2 p hp,h3 p hp⟩⟩⟩
theorem isTm {x:GTm} (h:FitTm x):IsTm (tmA x):=.mk x h.parts_.1 (fun p hp=>(h.parts_.2 p hp).one) (fun p hp=>(h.parts_.2 p hp).dv) (fun p hp=>(h.parts_.2 p hp).bd) (fun p hp=>(h.parts_.2 p hp).of_.2)
theorem IsTm.ind {M:List AV→Prop} (H:∀ x,FitTm x→(∀ p∈x.parts_,∀ r∈p.of_,M r)→M (tmA x)) {r:List AV} (h:IsTm r):M r:=by
 induction h with
 | mk x h0 h1 h2 h3 h ih=>exact H x (IsTm.fit h0 h1 h2 h3 h) ih
theorem IsTm.open_ {r:List AV} (h:IsTm r):∃ x,r=tmA x∧FitTm x:=by
 cases h with
 | mk x h0 h1 h2 h3 h=>exact ⟨x,rfl,IsTm.fit h0 h1 h2 h3 h⟩
theorem tmTake {r:List AV} (h:IsTm r):takeFrom 0 2 (rwA r)=some r:=by
 cases h with
 | mk x h0 h1 h2 h3 h=>rfl
theorem tmPure {r:List AV} (h:IsTm r):pureL r=true:=by
 cases h with
 | mk x h0 h1 h2 h3 h=>rfl
/-- Two parts of the same kind of value. -/
def keyEq (a b:GPart):Prop:=a.kind_=b.kind_∧a.var_=b.var_∧a.by_=b.by_∧a.of_=b.of_
theorem of_eq {a b:List (List AV)} (ha:a.length≤1) (hb:b.length≤1) (h0:¬ ((a.length:Nat):Int)=0) (h1:¬ ((b.length:Nat):Int)=0) (h:a[0]'(by omega)=b[0]'(by omega)):a=b:=by
 match a,b,ha,hb,h0,h1,h with
 | [x],[y],_,_,_,_,h=>simp at h; rw [h]
theorem nilA {α:Type} {a b:List α} (h:((a.length:Nat):Int)=0) (e:((a.length:Nat):Int)=((b.length:Nat):Int)):a=b:=by
 rw [List.eq_nil_of_length_eq_zero (by omega:a.length=0),List.eq_nil_of_length_eq_zero (by omega:b.length=0)]
theorem nilB {α:Type} {a b:List α} (h:((b.length:Nat):Int)=0) (e:((a.length:Nat):Int)=((b.length:Nat):Int)):a=b:=by
 rw [List.eq_nil_of_length_eq_zero (by omega:a.length=0),List.eq_nil_of_length_eq_zero (by omega:b.length=0)]
theorem parts_eq {x y:GTm} {k:Nat} (hl:x.parts_.length=y.parts_.length) (hk:x.parts_.length≤k) (h:∀ j (hl:j < x.parts_.length),j < k→∀ h2:j < y.parts_.length,x.parts_[j]=y.parts_[j]) (hc:x.const_=y.const_):tmA x=tmA y:=by
 have:x.parts_=y.parts_:=List.ext_getElem hl (fun i h1 h2=>h i h1 (by omega) h2)
 simp only [tmA,this,hc]
theorem part_eq {p q:GPart} (h:keyEq p q) (hc:p.coef_=q.coef_):p=q:=by
 obtain ⟨a,b,c,d,e⟩:=p
 obtain ⟨a',b',c',d',e'⟩:=q
 obtain ⟨h1,h2,h3,h4⟩:=h
 simp only at h1 h2 h3 h4 hc
 subst h1; subst h2; subst h3; subst h4; subst hc; rfl
theorem row72:rowOf Tryz.prog 72=some (some 2):=by kernel_rfl
set_option maxRecDepth 100000 in
set_option maxHeartbeats 4000000 in
theorem parts_w (p:GPart) (hp:FitPart p) (q:GPart) (hq:FitPart q) (ih:∀ r∈p.of_,∀ s,IsTm s→PRet Tryz.prog 305 [.agg (rwA r),.agg (rwA s)] (fun q=>∃ v:Int,q=.v (.int .i64 v)∧(v=0→r=s))):PRet Tryz.prog 281 [.agg (ptA p),.agg (ptA q)] (fun r=>∃ v:Int,r=.v (.int .i64 v)∧(v=0→keyEq p q)):=by
 refine PRet.of_vc infOk [55,59] [] Tryz.func281 rfl Tryz.ntmps281 rfl (by kernel_rfl) ?_
 refine cN (fun hq9=>?_) (fun hq9=>?_)
 refine ArgG.mk (ints13_p p.kind_ q.kind_) rfl ?_
 rintro _ ⟨i0,rfl,hi0⟩
 refine rV Tryz.results281 rfl ?_
 refine ⟨_,rfl,fun h=>?_⟩; exfalso; simp_all
 refine cN (fun hq19=>?_) (fun hq19=>?_)
 refine ArgG.mk (ints13_p p.var_ q.var_) rfl ?_
 rintro _ ⟨i1,rfl,hi1⟩
 refine rV Tryz.results281 rfl ?_
 refine ⟨_,rfl,fun h=>?_⟩; exfalso; simp_all
 refine cN (fun hq29=>?_) (fun hq29=>?_)
 ·refine ArgG.mk (ints13_p p.by_ q.by_) rfl ?_
  rintro _ ⟨i2,rfl,hi2⟩
  refine rV Tryz.results281 rfl ?_
  refine ⟨_,rfl,fun h=>?_⟩; exfalso; simp_all
 refine LenG.of (cE (fun hq39=>?_) (fun hq39=>?_))
 ·refine cT (LenG.of ?_)
  refine LenG.of (ArgG.mk (ints13_p ((p.of_.length:Nat):Int) ((q.of_.length:Nat):Int)) rfl ?_)
  rintro _ ⟨i3,rfl,hi3⟩
  exact rV Tryz.results281 rfl ⟨_,rfl,fun h=>⟨by assumption,by assumption,by assumption,nilA (by assumption) (hi3.1 h)⟩⟩
 refine LenG.of (cE (fun hq44=>?_) (fun hq44=>?_))
 ·refine LenG.of (LenG.of ?_)
  refine ArgG.mk (ints13_p ((p.of_.length:Nat):Int) ((q.of_.length:Nat):Int)) rfl ?_
  rintro _ ⟨i4,rfl,hi4⟩
  exact rV Tryz.results281 rfl ⟨_,rfl,fun h=>⟨by assumption,by assumption,by assumption,nilB (by assumption) (hi4.1 h)⟩⟩
 refine IdxG.of (j:=0) (by omega) (OpG.lk (LOp.ldTN row72 rfl (tmTake (hp.of_.2 _ (List.getElem_mem _)))) ?_)
 refine IdxG.of (j:=0) (by omega) (OpG.lk (LOp.ldTN row72 rfl (tmTake (hq.of_.2 _ (List.getElem_mem _)))) ?_)
 refine ArgG.mk (ih (p.of_[0]) (List.getElem_mem _) (q.of_[0]) (hq.of_.2 _ (List.getElem_mem _))) (show pureL [.agg (rwA p.of_[0]),.agg (rwA q.of_[0])]=true by simp [pureL,AV.pureB,tmPure (hp.of_.2 _ (List.getElem_mem _)),tmPure (hq.of_.2 _ (List.getElem_mem _))]) ?_
 rintro _ ⟨v5,rfl,hv5⟩
 refine ⟨by kernel_rfl,?_⟩
 exact rV Tryz.results281 rfl ⟨_,rfl,fun h=>⟨by assumption,by assumption,by assumption,of_eq hp.one hq.one (by assumption) (by assumption) (hv5 h)⟩⟩
set_option maxRecDepth 100000 in
set_option maxHeartbeats 4000000 in
theorem compare_w (x:GTm) (hx:FitTm x) (y:GTm) (hy:FitTm y) (ih:∀ p∈x.parts_,∀ r∈p.of_,∀ s,IsTm s→PRet Tryz.prog 305 [.agg (rwA r),.agg (rwA s)] (fun q=>∃ v:Int,q=.v (.int .i64 v)∧(v=0→r=s))):PRet Tryz.prog 305 [.agg (tmA x),.agg (tmA y)] (fun r=>∃ v:Int,r=.v (.int .i64 v)∧(v=0→tmA x=tmA y)):=by
 refine PRet.of_vc infOk [] [] Tryz.func305 rfl Tryz.ntmps305 rfl (by kernel_rfl) ?_
 refine LpG.on (fun k0:Nat=>(⟨fL [(2,.ptr 0 0 0),(3,.ptr 1 0 0),(5,.v (.int .i64 ((k0:Nat):Int)))],hLz [(0,⟨0,tmA x,0,false⟩),(1,⟨0,tmA y,0,false⟩)],2⟩:St)) (fun k0=>(x.parts_.length - k0)) (fun k0=>(k0≤x.parts_.length∧∀ j (hl:j < x.parts_.length),j < k0→∀ h2:j < y.parts_.length,x.parts_[j]=y.parts_[j])) 0 (cO (.cons rfl rfl (.cons rfl rfl (.cons rfl rfl .nil))) (.cons rfl rfl rfl (.cons rfl rfl rfl .nil))) ⟨Nat.zero_le _,fun j _ h=>absurd h (Nat.not_lt_zero j)⟩ ?_
 rintro k0 hinv
 have hgr_k0:x.parts_.length≤140737488355328:=hx.parts_.1
 obtain ⟨hle_k0,hj_k0⟩:=hinv
 refine LenG.of (cB (fun hg12=>?_) (fun hg12=>?_))
 ·have hlt12:k0 < x.parts_.length:=Int.ofNat_lt.1 (of_decide_eq_true hg12)
  refine LenG.of (cB (fun hc18=>?_) (fun hc18=>?_))
  ·have hlt18:k0 < y.parts_.length:=Int.ofNat_lt.1 (of_decide_eq_true hc18)
   refine IdxG.of (by assumption) (IdxG.of (by assumption) ?_)
   refine ArgG.mk (parts_w (x.parts_[k0]) (hx.parts_.2 _ (List.getElem_mem _)) (y.parts_[k0]) (hy.parts_.2 _ (List.getElem_mem _)) (ih _ (List.getElem_mem _))) rfl ?_
   rintro _ ⟨v0,rfl,hv0⟩
   refine ⟨by kernel_rfl,?_⟩
   refine cB (fun hc33=>?_) (fun hc33=>?_)
   ·have hq33:¬ ((v0:Int)=(0:Int)):=by simpa using hc33
    refine rV Tryz.results305 rfl ?_
    (refine ⟨_,rfl,fun h=>?_⟩; exfalso; simp_all; done)
   have hq33:(v0:Int)=(0:Int):=by simpa using hc33
   refine IdxG.of (by assumption) (IdxG.of (by assumption) ?_)
   refine ⟨by kernel_rfl,?_⟩
   refine cB (fun hc47=>?_) (fun hc47=>?_)
   ·have hq47:¬ ((x.parts_[k0].coef_:Int)=(y.parts_[k0].coef_:Int)):=by simpa using hc47
    refine IdxG.of (by assumption) (IdxG.of (by assumption) ?_)
    refine ArgG.mk (ints13_p (x.parts_[k0].coef_) (y.parts_[k0].coef_)) rfl ?_
    rintro _ ⟨i1,rfl,hi1⟩
    refine ⟨by kernel_rfl,?_⟩
    refine rV Tryz.results305 rfl ?_
    (refine ⟨_,rfl,fun h=>?_⟩; exfalso; simp_all; done)
   have hq47:(x.parts_[k0].coef_:Int)=(y.parts_[k0].coef_:Int):=by simpa using hc47
   refine ⟨by omega,?_⟩
   refine ⟨(k0+1),by omega,(cO (.cons rfl rfl (.cons rfl rfl (.cons rfl rfl .nil))) (.cons rfl rfl rfl (.cons rfl rfl rfl .nil))),?_⟩
   refine ⟨by omega,fun j hl h=>?_⟩
   rcases Nat.lt_succ_iff_lt_or_eq.1 h with h | rfl
   ·exact hj_k0 j hl h
   intro h2; exact part_eq (hv0 (by simpa using hc33)) (by simpa using hc47)
  have hge18:¬ k0 < y.parts_.length:=fun h=>of_decide_eq_false hc18 (Int.ofNat_lt.2 h)
  refine LenG.of (LenG.of ?_)
  refine cB (fun hc67=>?_) (fun hc67=>?_)
  ·have hq67:¬ (((x.parts_.length:Nat):Int)=((y.parts_.length:Nat):Int)):=by simpa using hc67
   refine LenG.of (LenG.of ?_)
   refine ArgG.mk (ints13_p ((x.parts_.length:Nat):Int) ((y.parts_.length:Nat):Int)) rfl ?_
   rintro _ ⟨i2,rfl,hi2⟩
   refine rV Tryz.results305 rfl ?_
   (refine ⟨_,rfl,fun h=>?_⟩; exfalso; simp_all; done)
  have hq67:((x.parts_.length:Nat):Int)=((y.parts_.length:Nat):Int):=by simpa using hc67
  refine ArgG.mk (ints13_p x.const_ y.const_) rfl ?_
  rintro _ ⟨i3,rfl,hi3⟩
  refine rV Tryz.results305 rfl ?_
  (refine ⟨_,rfl,fun h=>?_⟩; exfalso; simp_all; done)
 have hge12:¬ k0 < x.parts_.length:=fun h=>of_decide_eq_false hg12 (Int.ofNat_lt.2 h)
 refine cF (LenG.of ?_)
 refine LenG.of (cB (fun hc67=>?_) (fun hc67=>?_))
 ·have hq67:¬ (((x.parts_.length:Nat):Int)=((y.parts_.length:Nat):Int)):=by simpa using hc67
  refine LenG.of (LenG.of ?_)
  refine ArgG.mk (ints13_p ((x.parts_.length:Nat):Int) ((y.parts_.length:Nat):Int)) rfl ?_
  rintro _ ⟨i4,rfl,hi4⟩
  refine rV Tryz.results305 rfl ?_
  (refine ⟨_,rfl,fun h=>?_⟩; exfalso; simp_all; done)
 have hq67:((x.parts_.length:Nat):Int)=((y.parts_.length:Nat):Int):=by simpa using hc67
 refine ArgG.mk (ints13_p x.const_ y.const_) rfl ?_
 rintro _ ⟨i5,rfl,hi5⟩
 refine rV Tryz.results305 rfl ?_
 (refine ⟨_,rfl,fun h=>parts_eq (by simp_all; omega) (by omega) hj_k0 (by simp_all)⟩)
theorem compare_p (r:List AV) (hr:IsTm r):∀ s,IsTm s→PRet Tryz.prog 305 [.agg (rwA r),.agg (rwA s)] (fun q=>∃ v:Int,q=.v (.int .i64 v)∧(v=0→r=s)):=IsTm.ind (M:=fun r=>∀ s,IsTm s→PRet Tryz.prog 305 [.agg (rwA r),.agg (rwA s)] (fun q=>∃ v:Int,q=.v (.int .i64 v)∧(v=0→r=s))) (fun x hx ih s hs=>by obtain ⟨y,rfl,hy⟩:=hs.open_; exact compare_w x hx y hy ih) hr
theorem parts_p (p:GPart) (hp:FitPart p) (q:GPart) (hq:FitPart q):PRet Tryz.prog 281 [.agg (ptA p),.agg (ptA q)] (fun r=>∃ v:Int,r=.v (.int .i64 v)∧(v=0→keyEq p q)):=parts_w p hp q hq (fun r hr=>compare_p r (hp.of_.2 r hr))
end Go.Proofs.YtjdblmpkeilbaaaGreatDoor
namespace Go.Proofs.YtjdblmpkeilbaaaGreatDoor
set_option linter.unusedVariables false
set_option linter.unusedSimpArgs false
open Go.RowKit
theorem row_ptA:RowF ptA 5:=⟨fun _=>rfl,fun _=>rfl,fun _ _=>rfl,fun _ _=>rfl,fun _ _=>rfl,fun _=>rfl⟩
/-- The value of a part without its coefficient. -/
def keyV (ρ:Int→Int→Int) (p:GPart):Int:=if p.kind_=2 then (wr (ρ 2 0) (ofL ρ p.of_)).fdiv p.by_ else ρ p.kind_ p.var_
def valP (ρ:Int→Int→Int) (p:GPart):Int:=p.coef_ * keyV ρ p
def sumP (ρ:Int→Int→Int):List GPart→Int
 | []=>0
 | p :: l=>valP ρ p+sumP ρ l
theorem map_rw (l:List (List AV)):l.map rwA=l:=List.map_id l
theorem psL_map (ρ:Int→Int→Int):∀ l:List GPart,psL ρ (l.map ptA)=sumP ρ l
 | []=>by simp only [List.map_nil,psL,sumP]
 | p :: l=>by simp only [List.map_cons,psL,sumP,psL_map ρ l,ptA,ptL,valP,keyV,map_rw]
theorem tvL_tm (ρ:Int→Int→Int) (x:GTm):tvL ρ (tmA x)=x.const_+sumP ρ x.parts_:=by simp only [tmA,tvL,psL_map]
theorem sumP_app (ρ:Int→Int→Int):∀ a b:List GPart,sumP ρ (a++b)=sumP ρ a+sumP ρ b
 | [],b=>by simp [sumP]
 | p :: a,b=>by simp only [List.cons_append,sumP,sumP_app ρ a b]; omega
theorem sumP_take (ρ:Int→Int→Int) {l:List GPart} {k:Nat} (h:k < l.length):sumP ρ (l.take (k+1))=sumP ρ (l.take k)+valP ρ l[k]:=by
 rw [List.take_succ_eq_append_getElem h,sumP_app]; simp [sumP]
theorem keyEq.val {p q:GPart} (h:keyEq p q) (ρ:Int→Int→Int):keyV ρ p=keyV ρ q:=by
 obtain ⟨h1,h2,h3,h4⟩:=h
 unfold keyV; rw [h1,h2,h3,h4]
structure KI where
 k:Nat
 L:List GPart
 put:Bool
/-- Where an insertion stands after some parts. -/
structure InsI (l:List GPart) (p:GPart) (M N:Int) (s:KI):Prop where
 len:s.L.length≤s.k+(if s.put=true then 1 else 0)
 fit:∀ q∈s.L,FitPart q
 cf:∀ q∈s.L,-(M+N)≤q.coef_∧q.coef_≤M+N
 val:∀ ρ,sumP ρ s.L=sumP ρ (l.take s.k)+(if s.put=true then valP ρ p else 0)
theorem all_snoc {α:Type} {P:α→Prop} {l:List α} {a:α} (h:∀ q∈l,P q) (ha:P a):∀ q∈l++[a],P q:=fun q hq=>(List.mem_append.1 hq).elim (h q) (fun hq=>by rw [List.mem_singleton.1 hq]; exact ha)
theorem ins0 (l:List GPart) (p:GPart) (M N:Int):InsI l p M N ⟨0,[],false⟩:=⟨by simp,by simp,by simp,fun ρ=>by simp [sumP]⟩
section
variable {l:List GPart} {p:GPart} {M N:Int} {s:KI}
theorem insKeep (h:InsI l p M N s) (hk:s.k < l.length) (hf:FitPart l[s.k]) (hc:-(M+N)≤l[s.k].coef_∧l[s.k].coef_≤M+N):InsI l p M N ⟨s.k+1,s.L++[l[s.k]],s.put⟩ :=
 ⟨by have:=h.len; simp only [List.length_append,List.length_singleton]; omega,all_snoc h.fit hf,all_snoc h.cf hc,fun ρ=>by show sumP ρ (s.L++[l[s.k]])=sumP ρ (l.take (s.k+1))+_; rw [sumP_app,sumP_take ρ hk,h.val ρ]; simp only [sumP]; omega⟩
theorem insPut (h:InsI l p M N s) (hp:s.put=false) (hf:FitPart p) (hc:-(M+N)≤p.coef_∧p.coef_≤M+N):InsI l p M N ⟨s.k,s.L++[p],true⟩ :=
 ⟨by have:=h.len; rw [hp] at this; simp only [List.length_append,List.length_singleton,Bool.false_eq_true,if_false,if_true] at this ⊢; omega,all_snoc h.fit hf,all_snoc h.cf hc,fun ρ=>by have:=h.val ρ; rw [hp] at this; show sumP ρ (s.L++[p])=sumP ρ (l.take s.k)+valP ρ p; rw [sumP_app,this]; simp [sumP]⟩
theorem insSame (h:InsI l p M N s) (hp:s.put=false) (hk:s.k < l.length) (he:keyEq l[s.k] p) (hf:FitPart l[s.k]) (hc:-(M+N)≤l[s.k].coef_+p.coef_∧l[s.k].coef_+p.coef_≤M+N):InsI l p M N ⟨s.k+1,s.L++[{ l[s.k] with coef_:=l[s.k].coef_+p.coef_ }],true⟩ :=
 ⟨by have:=h.len; rw [hp] at this; simp only [List.length_append,List.length_singleton,Bool.false_eq_true,if_false,if_true] at this ⊢; omega,all_snoc h.fit ⟨hf.of_,hf.one,hf.dv,hf.bd⟩,all_snoc h.cf hc,fun ρ=>by
  have:=h.val ρ
  rw [hp] at this
  show sumP ρ (s.L++[_])=sumP ρ (l.take (s.k+1))+valP ρ p
  rw [sumP_app,sumP_take ρ hk,this]
  have e:=he.val ρ
  have e2:keyV ρ { l[s.k] with coef_:=l[s.k].coef_+p.coef_ }=keyV ρ l[s.k]:=rfl
  simp only [sumP,valP,e2,e,Int.add_mul]
  simp only [Bool.false_eq_true,if_false]
  omega⟩
theorem insGone (h:InsI l p M N s) (hp:s.put=false) (hk:s.k < l.length) (he:keyEq l[s.k] p) (hz:l[s.k].coef_+p.coef_=0):InsI l p M N ⟨s.k+1,s.L,true⟩ :=
 ⟨by have:=h.len; rw [hp] at this; simp only [Bool.false_eq_true,if_false,if_true] at this ⊢; omega,h.fit,h.cf,fun ρ=>by
  have:=h.val ρ
  rw [hp] at this
  show sumP ρ s.L=sumP ρ (l.take (s.k+1))+valP ρ p
  rw [sumP_take ρ hk,this]
  have e:=he.val ρ
  have e3:l[s.k].coef_ * keyV ρ p+p.coef_ * keyV ρ p=0:=by rw [← Int.add_mul,hz,Int.zero_mul]
  simp only [valP,e,Bool.false_eq_true,if_false]
  omega⟩
theorem insDone (h:InsI l p M N s) (hl:l.length≤500000) (hge:¬ s.k < l.length) (hle:s.k≤l.length) (hp:s.put=true):FitL s.L (fun y=>FitPart y)∧s.L.length≤l.length+1∧(∀ q∈s.L,-(M+N)≤q.coef_∧q.coef_≤M+N)∧∀ ρ,sumP ρ s.L=sumP ρ l+valP ρ p:=by
 have h1:=h.len
 rw [hp] at h1
 simp only [if_true] at h1
 refine ⟨⟨by omega,h.fit⟩,by omega,h.cf,fun ρ=>?_⟩
 have:=h.val ρ
 rw [hp,List.take_of_length_le (by omega)] at this
 simpa using this
end
theorem by69:(Tryz.prog.info? 69).map (·.bytes)=some 56:=by kernel_rfl
theorem sz69:sizeInfo Tryz.prog 69=some 5:=by kernel_rfl
theorem zr69:zeroOf Tryz.prog 69=some (.agg #[.int .i64 0,.int .i64 0,.int .i64 0,.int .i64 0,.slice none 0 0]):=by kernel_rfl
set_option maxRecDepth 100000 in
set_option maxHeartbeats 4000000 in
theorem insert_p (l:List GPart) (hl:FitL l (fun y=>FitPart y)) (p:GPart) (hp:FitPart p) (M N:Int) (hM:0≤M∧M≤1152921504606846976) (hN:0≤N∧N≤1152921504606846976) (hl2:l.length≤500000) (hc:∀ q∈l,-M≤q.coef_∧q.coef_≤M) (hp2:-N≤p.coef_∧p.coef_≤N):PRet Tryz.prog 258 [.tree 5 (l.map ptA),.agg (ptA p)] (fun r=>∃ L:List GPart,r=.tree 5 (L.map ptA)∧FitL L (fun y=>FitPart y)∧L.length≤l.length+1∧(∀ q∈L,-(M+N)≤q.coef_∧q.coef_≤M+N)∧∀ ρ,sumP ρ L=sumP ρ l+valP ρ p):=by
 refine PRet.of_vc infOk [] [] Tryz.func258 rfl Tryz.ntmps258 rfl (by kernel_rfl) (LpG.via (fun _ h=>AWP.lazyT 5 5 rfl 2 rfl h) ?_)
 refine LpG.on (fun k0:KI=>(⟨fL [(0,.tree 5 (l.map ptA)),(3,.ptr 0 0 0),(5,.sl 1 k0.L.length 0 k0.L.length),(6,.v (.bool k0.put)),(7,.v (.int .i64 ((k0.k:Nat):Int)))],hLz [(0,⟨0,ptA p,0,false⟩),(1,⟨k0.L.length,rF ptA k0.L,5,Nat.beq k0.L.length 0⟩)],2⟩:St)) (fun k0=>(l.length - k0.k)) (fun k0=>(k0.k≤l.length∧InsI l p M N k0)) (⟨0,[],false⟩:KI) (cO (.cons rfl rfl (.cons rfl rfl (.cons (by rfl) rfl (.cons rfl rfl (.cons rfl rfl .nil))))) (.cons rfl rfl rfl (.cons (by rfl) rfl (rF_low row_ptA _ _) .nil))) ⟨Nat.zero_le _,ins0 l p M N⟩ ?_
 rintro k0 hinv
 have hgr_k0:l.length≤140737488355328:=hl.1
 obtain ⟨hle_k0,hi_k0⟩:=hinv
 refine LenG.of (cL (fun hlt13=>?_) (fun hge13=>?_))
 ·have hfk:=hl.2 _ (List.getElem_mem hlt13)
  have hck:=hc _ (List.getElem_mem hlt13)
  have hcw:-(M+N)≤l[k0.k].coef_∧l[k0.k].coef_≤M+N:=by omega
  have hll:k0.L.length≤k0.k+1:=by have:=hi_k0.len; split at this <;> omega
  refine cB (fun hc17=>?_) (fun hc17=>?_)
  ·refine IdxG.of (by assumption) (ArgG.mk (parts_p (l[k0.k]) (hl.2 _ (List.getElem_mem _)) p hp) rfl ?_)
   rintro _ ⟨v0,rfl,hv0⟩
   refine ⟨by kernel_rfl,cE (fun hq25=>?_) (fun hq25=>?_)⟩
   refine IdxG.of (by assumption) ⟨by omega,cB (fun hc38=>?_) (fun hc38=>?_)⟩
   ·refine OpG.mk _ _ _ 4 (LOp.appRow row_ptA (a:=({ l[k0.k] with coef_:=l[k0.k].coef_+p.coef_ }:GPart)) Tryz.underlying70 sz69 zr69 by69 rfl rfl rfl (Src.slB rfl rfl rfl rfl) rfl (by omega) (by omega) (by unfold TV; omega)) rfl rfl ⟨by omega,⟨(⟨k0.k+1,k0.L++[({ l[k0.k] with coef_:=l[k0.k].coef_+p.coef_ }:GPart)],true⟩:KI),(by show l.length - (k0.k+1) < l.length - k0.k; omega),(cO (.cons rfl rfl (.cons rfl rfl (.cons (by (rw [List.length_append]; rfl)) rfl (.cons rfl rfl (.cons rfl rfl .nil))))) (.cons rfl rfl rfl (.cons (by (rw [List.length_append]; rfl)) rfl (rF_low row_ptA _ _) .nil))),?_⟩⟩
    exact ⟨by show k0.k+1≤_; omega,insSame hi_k0 (by simpa using hc17) hlt13 (hv0 hq25) hfk (by omega)⟩
   ·refine ⟨by omega,⟨(⟨k0.k+1,k0.L,true⟩:KI),(by show l.length - (k0.k+1) < l.length - k0.k; omega),(cO (.cons rfl rfl (.cons rfl rfl (.cons (by rfl) rfl (.cons rfl rfl (.cons rfl rfl .nil))))) (.cons rfl rfl rfl (.cons (by rfl) rfl (rF_low row_ptA _ _) .nil))),?_⟩⟩
    exact ⟨by show k0.k+1≤_; omega,insGone hi_k0 (by simpa using hc17) hlt13 (hv0 hq25) (by simpa using hc38)⟩
   refine cD (fun hq44=>?_) (fun hq44=>?_)
   ·refine OpG.mk _ _ _ 3 (LOp.appRow row_ptA (a:=p) Tryz.underlying70 sz69 zr69 by69 rfl rfl rfl (Src.slB rfl rfl rfl rfl) rfl (by omega) (by omega) (by unfold TV; omega)) rfl rfl (IdxG.of (by assumption) ?_)
    refine OpG.mk _ _ _ 4 (LOp.appRow row_ptA (a:=(l[k0.k])) Tryz.underlying70 sz69 zr69 by69 rfl rfl rfl (Src.slB rfl rfl rfl rfl) rfl (by (simp only [List.length_append,List.length_cons,List.length_nil]; omega)) (by (simp only [List.length_append,List.length_cons,List.length_nil]; omega)) (by unfold TV; omega)) rfl rfl ⟨by omega,⟨(⟨k0.k+1,k0.L++[p]++[(l[k0.k])],true⟩:KI),(by show l.length - (k0.k+1) < l.length - k0.k; omega),(cO (.cons rfl rfl (.cons rfl rfl (.cons (by (rw [List.length_append,List.length_append,List.length_append]; rfl)) rfl (.cons rfl rfl (.cons rfl rfl .nil))))) (.cons rfl rfl rfl (.cons (by (rw [List.length_append,List.length_append,List.length_append]; rfl)) rfl (rF_low row_ptA _ _) .nil))),?_⟩⟩
    exact ⟨by show k0.k+1≤_; omega,insKeep (insPut hi_k0 (by simpa using hc17) hp (by omega)) hlt13 hfk hcw⟩
   refine IdxG.of (by assumption) (OpG.mk _ _ _ 3 (LOp.appRow row_ptA (a:=(l[k0.k])) Tryz.underlying70 sz69 zr69 by69 rfl rfl rfl (Src.slB rfl rfl rfl rfl) rfl (by omega) (by omega) (by unfold TV; omega)) rfl rfl ?_)
   refine ⟨by omega,⟨(⟨k0.k+1,k0.L++[(l[k0.k])],k0.put⟩:KI),(by show l.length - (k0.k+1) < l.length - k0.k; omega),(cO (.cons rfl rfl (.cons rfl rfl (.cons (by (rw [List.length_append]; rfl)) rfl (.cons rfl rfl (.cons rfl rfl .nil))))) (.cons rfl rfl rfl (.cons (by (rw [List.length_append]; rfl)) rfl (rF_low row_ptA _ _) .nil))),?_⟩⟩
   exact ⟨by show k0.k+1≤_; omega,insKeep hi_k0 hlt13 hfk hcw⟩
  refine cF (cF ?_)
  refine IdxG.of (by assumption) (OpG.mk _ _ _ 3 (LOp.appRow row_ptA (a:=(l[k0.k])) Tryz.underlying70 sz69 zr69 by69 rfl rfl rfl (Src.slB rfl rfl rfl rfl) rfl (by omega) (by omega) (by unfold TV; omega)) rfl rfl ?_)
  refine ⟨by omega,⟨(⟨k0.k+1,k0.L++[(l[k0.k])],k0.put⟩:KI),(by show l.length - (k0.k+1) < l.length - k0.k; omega),(cO (.cons rfl rfl (.cons rfl rfl (.cons (by (rw [List.length_append]; rfl)) rfl (.cons rfl rfl (.cons rfl rfl .nil))))) (.cons rfl rfl rfl (.cons (by (rw [List.length_append]; rfl)) rfl (rF_low row_ptA _ _) .nil))),?_⟩⟩
  exact ⟨by show k0.k+1≤_; omega,insKeep hi_k0 hlt13 hfk hcw⟩
 have hll:k0.L.length≤k0.k+1:=by have:=hi_k0.len; split at this <;> omega
 refine cB (fun hc57=>?_) (fun hc57=>?_)
 ·exact OpG.mk _ _ _ 3 (LOp.appRow row_ptA (a:=p) Tryz.underlying70 sz69 zr69 by69 rfl rfl rfl (Src.slB rfl rfl rfl rfl) rfl (by omega) (by omega) (by unfold TV; omega)) rfl rfl ⟨.inr rfl,_,Outs.tmp Tryz.results258 ⟨[1],FzP.rows row_ptA (List.mem_singleton.2 rfl) rfl⟩,⟨_,rfl,insDone (insPut hi_k0 (by simpa using hc57) hp (by omega)) hl2 hge13 hle_k0 rfl⟩⟩
 exact ⟨.inr rfl,_,Outs.tmp Tryz.results258 ⟨[1],FzP.rows row_ptA (List.mem_singleton.2 rfl) rfl⟩,⟨_,rfl,insDone hi_k0 hl2 hge13 hle_k0 (by simpa using hc57)⟩⟩
end Go.Proofs.YtjdblmpkeilbaaaGreatDoor
namespace Go.Proofs.YtjdblmpkeilbaaaGreatDoor
set_option linter.unusedVariables false
set_option linter.unusedSimpArgs false
open Go.RowKit
theorem mul_le {a b m:Int} (ha:0≤a) (hb:1≤b) (hm:0≤m) (h:a≤m.tdiv b):0≤a * b∧a * b≤m:=by
 rw [Int.tdiv_eq_ediv_of_nonneg hm] at h
 exact ⟨Int.mul_nonneg ha (by omega),Int.le_trans (Int.mul_le_mul_of_nonneg_right h (by omega)) (Int.ediv_mul_le m (by omega))⟩
theorem abs_mul {a b:Int}:absI a * absI b=a * b∨absI a * absI b=-(a * b):=by
 rcases absI_cases a with ⟨_,h⟩ | ⟨_,h⟩ <;> rcases absI_cases b with ⟨_,h'⟩ | ⟨_,h'⟩ <;> rw [h,h'] <;> simp [Int.neg_mul,Int.mul_neg]
theorem times_rng {a b:Int} (hb:b≠0) (h:¬ absI a > Int.tdiv 1152921504606846976 (absI b)):-1152921504606846976≤a * b∧a * b≤1152921504606846976:=by
 have h1:1≤absI b:=by have:=absI_cases b; omega
 have h0:0≤absI a:=by have:=absI_cases a; omega
 have:=mul_le h0 h1 (by omega) (Int.not_lt.1 h)
 rcases abs_mul (a:=a) (b:=b) with e | e <;> omega
structure KS where
 k:Nat
 s:Int
def cfOk (x:GTm):Prop:=(-1099511627776≤x.const_∧x.const_≤1099511627776)∧∀ p∈x.parts_,-1048576≤p.coef_∧p.coef_≤1048576
def Sm (r:List AV):Prop:=∃ x:GTm,r=tmA x∧cfOk x
theorem ptA_inj {p q:GPart} (h:ptA p=ptA q):p=q:=by
 obtain ⟨a,b,c,d,e⟩:=p
 obtain ⟨a',b',c',d',e'⟩:=q
 simp only [ptA,List.cons.injEq,AV.v.injEq,Value.int.injEq,AV.tree.injEq,true_and,and_true,map_rw] at h
 obtain ⟨rfl,rfl,rfl,rfl,rfl⟩:=h
 rfl
theorem tmA_inj {x y:GTm} (h:tmA x=tmA y):x=y:=by
 obtain ⟨a,b⟩:=x
 obtain ⟨a',b'⟩:=y
 simp only [tmA,List.cons.injEq,AV.v.injEq,Value.int.injEq,AV.tree.injEq,true_and,and_true] at h
 obtain ⟨rfl,h⟩:=h
 have:=(List.map_inj_right (f:=ptA) (fun _ _ h=>ptA_inj h)).1 h
 rw [this]
theorem Sm.of {x:GTm} (h:Sm (tmA x)):cfOk x:=by
 obtain ⟨y,e,hy⟩:=h
 rw [tmA_inj e]; exact hy
/-- Where the bound of a term stands after some parts. -/
structure BdI (x:GTm) (s:KS):Prop where
 rng:0≤s.s∧s.s≤1152921504606846976
 cf:∀ j (hl:j < x.parts_.length),j < s.k→-1048576≤x.parts_[j].coef_∧x.parts_[j].coef_≤1048576
 val:∀ ρ,GoodR ρ→-s.s≤x.const_+sumP ρ (x.parts_.take s.k)∧x.const_+sumP ρ (x.parts_.take s.k)≤s.s
theorem absM {c k b:Int} (hb:-b≤k∧k≤b):-(absI c * b)≤c * k∧c * k≤absI c * b:=by
 have h1:c * k≤absI c * b∧-(absI c * b)≤c * k:=by
  rcases absI_cases c with ⟨h,e⟩ | ⟨h,e⟩ <;> rw [e]
  ·exact ⟨Int.mul_le_mul_of_nonneg_left hb.2 h,by rw [← Int.mul_neg]; exact Int.mul_le_mul_of_nonneg_left hb.1 h⟩
  ·have e1:c * k=-c * -k:=by simp [Int.neg_mul,Int.mul_neg]
   rw [e1]
   exact ⟨Int.mul_le_mul_of_nonneg_left (by omega) (by omega),by rw [← Int.mul_neg]; exact Int.mul_le_mul_of_nonneg_left (by omega) (by omega)⟩
 exact ⟨h1.2,h1.1⟩
theorem bdStep {x:GTm} {s:KS} {b:Int} (h:BdI x s) (hk:s.k < x.parts_.length) (hc:-1048576≤x.parts_[s.k].coef_∧x.parts_[s.k].coef_≤1048576) (hb:∀ ρ,GoodR ρ→-b≤keyV ρ x.parts_[s.k]∧keyV ρ x.parts_[s.k]≤b) (hm:0≤absI x.parts_[s.k].coef_ * b) (hle:s.s+absI x.parts_[s.k].coef_ * b≤1152921504606846976):BdI x ⟨s.k+1,s.s+absI x.parts_[s.k].coef_ * b⟩:=by
 refine ⟨⟨by have:=h.rng; show 0≤s.s+_; omega,hle⟩,fun j hl hj=>?_,fun ρ hρ=>?_⟩
 ·rcases Nat.lt_succ_iff_lt_or_eq.1 hj with hj | rfl
  ·exact h.cf j hl hj
  exact hc
 show _≤x.const_+sumP ρ (x.parts_.take (s.k+1))∧x.const_+sumP ρ (x.parts_.take (s.k+1))≤_
 rw [sumP_take ρ hk]
 have h1:=h.val ρ hρ
 have h2:=absM (c:=x.parts_[s.k].coef_) (hb ρ hρ)
 simp only [valP]
 show -(s.s+absI x.parts_[s.k].coef_ * b)≤_∧_≤s.s+absI x.parts_[s.k].coef_ * b
 constructor <;> omega
theorem bd0 {x:GTm} (h:-1099511627776≤x.const_∧x.const_≤1099511627776):BdI x ⟨0,absI x.const_⟩:=by
 have:=absI_cases x.const_
 exact ⟨⟨by show 0≤absI _; omega,by show absI _≤_; omega⟩,fun j _ h=>absurd h (Nat.not_lt_zero j),fun ρ _=>by simp only [List.take_zero,sumP]; show -absI x.const_≤_∧_≤absI x.const_; constructor <;> omega⟩
theorem bdEnd {x:GTm} {s:KS} (hc:-1099511627776≤x.const_∧x.const_≤1099511627776) (h:BdI x s) (hge:¬ s.k < x.parts_.length):(0≤s.s∧s.s≤1152921504606846977)∧(s.s≤1152921504606846976→Bd (tmA x) s.s∧Sm (tmA x)):=by
 refine ⟨⟨h.rng.1,by have:=h.rng; omega⟩,fun _=>⟨fun ρ hρ=>?_,x,rfl,hc,fun p hp=>?_⟩⟩
 ·have:=h.val ρ hρ
  rw [List.take_of_length_le (by omega)] at this
  rw [tvL_tm]; exact this
 obtain ⟨j,hj,rfl⟩:=List.getElem_of_mem hp
 exact h.cf j hj (by omega)
theorem key1 {p:GPart} (h:p.kind_=1):∀ ρ,GoodR ρ→-16≤keyV ρ p∧keyV ρ p≤16:=fun ρ hρ=>by
 unfold keyV; rw [if_neg (by omega),h]; exact ⟨(hρ _).2.1,(hρ _).2.2.1⟩
theorem key0 {p:GPart} (h:¬ p.kind_=2):∀ ρ,GoodR ρ→-2147483648≤keyV ρ p∧keyV ρ p≤2147483648:=fun ρ hρ=>by
 unfold keyV; rw [if_neg h]; exact (hρ _).1 _
theorem fdiv_le {n b m:Int} (hb:1≤b) (hm:0≤m) (h:-m≤n∧n≤m):-(m.tdiv b+1)≤n.fdiv b∧n.fdiv b≤m.tdiv b+1:=by
 rw [Int.fdiv_eq_ediv_of_nonneg _ (by omega),Int.tdiv_eq_ediv_of_nonneg hm]
 have h1:n / b≤m / b:=Int.ediv_le_ediv (by omega) h.2
 have h2:(-m) / b≤n / b:=Int.ediv_le_ediv (by omega) h.1
 have h3:-(m / b+1)≤(-m) / b:=by
  rw [Int.le_ediv_iff_mul_le (by omega)]
  have:=Int.emod_add_mul_ediv m b
  have h4:=Int.emod_lt_of_pos m (by omega:0 < b)
  rw [Int.neg_mul,Int.add_mul,Int.mul_comm (m / b) b]
  omega
 omega
theorem ofL_get {ρ:Int→Int→Int} (l:List (List AV)) (h:0 < l.length):ofL ρ l=tvL ρ l[0]:=by
 cases l with
 | nil=>simp at h
 | cons r t=>simp only [ofL]; rfl
theorem key2 {p:GPart} {v:Int} (h:p.kind_=2) (hp:FitPart p) (hv:0≤v∧v≤1152921504606846977) (hb:v≤1152921504606846976→Bd (p.of_[0]'(by have:=hp.dv h; omega)) v∧Sm (p.of_[0]'(by have:=hp.dv h; omega))):∀ ρ,GoodR ρ→-(v.tdiv p.by_+1)≤keyV ρ p∧keyV ρ p≤v.tdiv p.by_+1:=fun ρ hρ=>by
 have hd:=hp.dv h
 have h0:ofL ρ p.of_=tvL ρ (p.of_[0]'(by omega)):=ofL_get _ (by omega)
 have h2:-v≤tvL ρ (p.of_[0]'(by omega))∧tvL ρ (p.of_[0]'(by omega))≤v:=by
  by_cases hle:v≤1152921504606846976
  ·exact (hb hle).1 ρ hρ
  ·have:=hp.bd h _ (List.getElem_mem (by omega:0 < p.of_.length)) ρ hρ
   omega
 unfold keyV
 rw [if_pos h,h0,wr,if_pos (hρ 0).2.2.2]
 exact fdiv_le hd.2.1 hv.1 h2
theorem mulB {c b:Int} (hb:0≤b) (h:c=0∨¬ b > Int.tdiv 1152921504606846976 (absI c)):0≤absI c * b∧absI c * b≤1152921504606846976:=by
 have ha:=absI_cases c
 by_cases hz:c=0
 ·have:absI c=0:=by omega
  rw [this,Int.zero_mul]; omega
 rcases h with h | h
 ·exact absurd h hz
 have:=mul_le hb (by omega:1≤absI c) (by omega) (Int.not_lt.1 h)
 rw [Int.mul_comm]; exact this
theorem tdiv_q {v b:Int} (hv:0≤v∧v≤1152921504606846977) (hb:1≤b∧b≤1000):0≤v.tdiv b∧v.tdiv b≤1152921504606846977:=by
 rw [Int.tdiv_eq_ediv_of_nonneg hv.1]
 exact ⟨Int.ediv_nonneg hv.1 (by omega),Int.le_trans (Int.ediv_le_self _ hv.1) hv.2⟩
set_option maxRecDepth 100000 in
set_option maxHeartbeats 4000000 in
theorem times_p (a:Int) (b:Int):PRet Tryz.prog 208 [.v (.int .i64 a),.v (.int .i64 b)] (fun r=>∃ v:Int,r=.v (.int .i64 v)∧(v=1152921504606846976∨(v=a * b∧-1152921504606846976≤v∧v≤1152921504606846976))):=by
 refine PRet.of_vc infOk [24,29] [] Tryz.func208 rfl Tryz.ntmps208 rfl (by kernel_rfl) (cE (fun hq7=>?_) (fun hq7=>?_))
 ·refine cT (rV Tryz.results208 rfl ?_)
  (refine ⟨_,rfl,.inr ⟨?_,by omega,by omega⟩⟩; simp_all)
 refine cB (fun hc10=>?_) (fun hc10=>?_)
 ·have hq10:(b:Int)=(0:Int):=by simpa using hc10
  refine rV Tryz.results208 rfl ?_
  (refine ⟨_,rfl,.inr ⟨?_,by omega,by omega⟩⟩; simp_all)
 have hq10:¬ ((b:Int)=(0:Int)):=by simpa using hc10
 have hnz:b≠0:=by simpa using hc10
 refine ArgG.mk (within_p a ((-1152921504606846976)) 1152921504606846976) rfl ?_
 rintro _ ⟨b0,rfl,hb0⟩
 refine cB (fun hg14=>?_) (fun hg14=>?_)
 ·refine cT (cT ?_)
  exact rV Tryz.results208 rfl ⟨_,rfl,.inl rfl⟩
 have ha:=hb0.1 (by simpa using hg14)
 refine ArgG.mk (within_p b ((-1152921504606846976)) 1152921504606846976) rfl ?_
 rintro _ ⟨b1,rfl,hb1⟩
 refine cB (fun hg19=>?_) (fun hg19=>?_)
 ·exact cT (rV Tryz.results208 rfl ⟨_,rfl,.inl rfl⟩)
 have hbb:=hb1.1 (by simpa using hg19)
 refine ArgG.mk (abs13_p a (by omega)) rfl ?_
 rintro _ rfl
 have habs2:=absI_cases a
 refine ArgG.mk (abs13_p b (by omega)) rfl ?_
 rintro _ rfl
 have habs3:=absI_cases b
 refine OpG.lk (LOp.quoT rfl rfl (by omega) (by omega) (by omega)) (cB (fun hc26=>?_) (fun hc26=>?_))
 ·exact rV Tryz.results208 rfl ⟨_,rfl,.inl rfl⟩
 have hr:=times_rng hnz (of_decide_eq_false hc26)
 exact OpG.lk (LOp.mulI rfl rfl (by omega) (by omega)) (rV Tryz.results208 rfl ⟨_,rfl,.inr ⟨rfl,hr⟩⟩)
set_option maxRecDepth 100000 in
set_option maxHeartbeats 4000000 in
theorem bound_w (x:GTm) (hx:FitTm x) (ih:∀ p∈x.parts_,∀ r∈p.of_,PRet Tryz.prog 256 [.agg (rwA r)] (fun q=>∃ v:Int,q=.v (.int .i64 v)∧(0≤v∧v≤1152921504606846977)∧(v≤1152921504606846976→Bd r v∧Sm r))):PRet Tryz.prog 256 [.agg (tmA x)] (fun q=>∃ v:Int,q=.v (.int .i64 v)∧(0≤v∧v≤1152921504606846977)∧(v≤1152921504606846976→Bd (tmA x) v∧Sm (tmA x))):=by
 refine PRet.of_vc infOk [35,39,40,54,63,64] [15] Tryz.func256 rfl Tryz.ntmps256 rfl (by kernel_rfl) (ArgG.mk (within_p x.const_ ((-1099511627776)) 1099511627776) rfl ?_)
 rintro _ ⟨b0,rfl,hb0⟩
 refine cB (fun hc10=>?_) (fun hc10=>?_)
 ·exact rV Tryz.results256 rfl ⟨_,rfl,⟨by omega,by omega⟩,fun h=>absurd h (by omega)⟩
 have hcc:=hb0.1 (by simpa using hc10)
 refine ArgG.mk (abs13_p x.const_ (by omega)) rfl ?_
 rintro _ rfl
 have habs1:=absI_cases x.const_
 refine LpG.on (fun k0:KS=>(⟨fL [(1,.ptr 0 0 0),(3,.v (.int .i64 k0.s)),(4,.v (.int .i64 ((k0.k:Nat):Int)))],hLz [(0,⟨0,tmA x,0,false⟩)],1⟩:St)) (fun k0=>(x.parts_.length - k0.k)) (fun k0=>(k0.k≤x.parts_.length∧BdI x k0)) (⟨0,_⟩:KS) (cO (.cons rfl rfl (.cons rfl rfl (.cons rfl rfl .nil))) (.cons rfl rfl rfl .nil)) ⟨Nat.zero_le _,bd0 hcc⟩ ?_
 rintro k0 hinv
 have hgr_k0:x.parts_.length≤140737488355328:=hx.parts_.1
 obtain ⟨hle_k0,hi_k0⟩:=hinv
 refine LenG.of (cL (fun hlt18=>?_) (fun hge18=>?_))
 ·have hfp:=hx.parts_.2 _ (List.getElem_mem hlt18)
  have hrg:=hi_k0.rng
  refine IdxG.of (by assumption) (cB (fun hc28=>?_) (fun hc28=>?_))
  ·have hq28:(x.parts_[k0.k].kind_:Int)=(1:Int):=by simpa using hc28
   have hkey:=key1 (p:=x.parts_[k0.k]) (by simpa using hc28)
   refine cB (fun hc31=>?_) (fun hc31=>?_)
   ·have hq31:(x.parts_[k0.k].kind_:Int)=(2:Int):=by simpa using hc31
    have hk2:x.parts_[k0.k].kind_=2:=by simpa using hc31
    have hdv:=hfp.dv hk2
    refine IdxG.of (j:=0) (by omega) (OpG.lk (LOp.ldTN row72 rfl (tmTake ((hx.parts_.2 _ (List.getElem_mem _)).of_.2 _ (List.getElem_mem _)))) ?_)
    refine ArgG.mk (ih x.parts_[k0.k] (List.getElem_mem _) (x.parts_[k0.k].of_[0]) (List.getElem_mem _)) (show pureL [.agg (rwA x.parts_[k0.k].of_[0])]=true by simp [pureL,AV.pureB,tmPure ((hx.parts_.2 _ (List.getElem_mem _)).of_.2 _ (List.getElem_mem _))]) ?_
    rintro _ ⟨v2,rfl,hv2,hw2⟩
    have htq2:=tdiv_q hv2 hdv.2
    have hkey:=key2 hk2 hfp hv2 hw2
    refine OpG.lk (LOp.quoT rfl rfl (by omega) (by omega) (by omega)) (OpG.lk (lJ rfl rfl (by omega) (by omega)) ?_)
    refine ⟨by kernel_rfl,ArgG.mk (within_p (x.parts_[k0.k].coef_) ((-1048576)) 1048576) rfl ?_⟩
    rintro _ ⟨b3,rfl,hb3⟩
    refine cB (fun hg45=>?_) (fun hg45=>?_)
    ·exact cT (rV Tryz.results256 rfl ⟨_,rfl,⟨by omega,by omega⟩,fun h=>absurd h (by omega)⟩)
    have hcf:-1048576≤x.parts_[k0.k].coef_∧x.parts_[k0.k].coef_≤1048576:=hb3.1 (by simpa using hg45)
    refine cB (fun hg49=>?_) (fun hg49=>?_)
    ·have hq49:¬ ((x.parts_[k0.k].coef_:Int)=(0:Int)):=by simpa using hg49
     refine ArgG.mk (abs13_p (x.parts_[k0.k].coef_) (by omega)) rfl ?_
     rintro _ rfl
     have habs4:=absI_cases (x.parts_[k0.k].coef_)
     refine OpG.lk (LOp.quoT rfl rfl (by omega) (by omega) (by omega)) (cB (fun hc57=>?_) (fun hc57=>?_))
     ·exact rV Tryz.results256 rfl ⟨_,rfl,⟨by omega,by omega⟩,fun h=>absurd h (by omega)⟩
     have hab:0≤absI x.parts_[k0.k].coef_ * ((v2.tdiv x.parts_[k0.k].by_+1))∧absI x.parts_[k0.k].coef_ * ((v2.tdiv x.parts_[k0.k].by_+1))≤1152921504606846976:=mulB (by omega) (by exact .inr (of_decide_eq_false hc57))
     refine RegG.go (ArgG.mk (abs13_p (x.parts_[k0.k].coef_) (by omega)) rfl ?_)
     rintro _ rfl
     have habs5:=absI_cases (x.parts_[k0.k].coef_)
     refine OpG.lk (LOp.mulI rfl rfl (by omega) (by omega)) (OpG.lk (lJ rfl rfl (by omega) (by omega)) ?_)
     refine cB (fun hc66=>?_) (fun hc66=>?_)
     ·exact rV Tryz.results256 rfl ⟨_,rfl,⟨by omega,by omega⟩,fun h=>absurd h (by omega)⟩
     have hle:=of_decide_eq_false hc66
     refine ⟨by omega,⟨(⟨k0.k+1,_⟩:KS),(by show x.parts_.length - (k0.k+1) < x.parts_.length - k0.k; omega),(cO (.cons rfl rfl (.cons rfl rfl (.cons rfl rfl .nil))) (.cons rfl rfl rfl .nil)),?_⟩⟩
     exact ⟨by show k0.k+1≤_; omega,bdStep hi_k0 hlt18 hcf (by exact hkey) hab.1 (by omega)⟩
    have hq49:(x.parts_[k0.k].coef_:Int)=(0:Int):=by simpa using hg49
    refine cF ?_
    have hab:0≤absI x.parts_[k0.k].coef_ * ((v2.tdiv x.parts_[k0.k].by_+1))∧absI x.parts_[k0.k].coef_ * ((v2.tdiv x.parts_[k0.k].by_+1))≤1152921504606846976:=mulB (by omega) (by exact .inl (by simpa using hg49))
    refine RegG.go (ArgG.mk (abs13_p (x.parts_[k0.k].coef_) (by omega)) rfl ?_)
    rintro _ rfl
    have habs6:=absI_cases (x.parts_[k0.k].coef_)
    refine OpG.lk (LOp.mulI rfl rfl (by omega) (by omega)) (OpG.lk (lJ rfl rfl (by omega) (by omega)) ?_)
    refine cB (fun hc66=>?_) (fun hc66=>?_)
    ·exact rV Tryz.results256 rfl ⟨_,rfl,⟨by omega,by omega⟩,fun h=>absurd h (by omega)⟩
    have hle:=of_decide_eq_false hc66
    refine ⟨by omega,⟨(⟨k0.k+1,_⟩:KS),(by show x.parts_.length - (k0.k+1) < x.parts_.length - k0.k; omega),(cO (.cons rfl rfl (.cons rfl rfl (.cons rfl rfl .nil))) (.cons rfl rfl rfl .nil)),?_⟩⟩
    exact ⟨by show k0.k+1≤_; omega,bdStep hi_k0 hlt18 hcf (by exact hkey) hab.1 (by omega)⟩
   have hq31:¬ ((x.parts_[k0.k].kind_:Int)=(2:Int)):=by simpa using hc31
   have hkey0:=key0 (p:=x.parts_[k0.k]) (by simpa using hc31)
   refine ArgG.mk (within_p (x.parts_[k0.k].coef_) ((-1048576)) 1048576) rfl ?_
   rintro _ ⟨b7,rfl,hb7⟩
   refine cB (fun hg45=>?_) (fun hg45=>?_)
   ·exact cT (rV Tryz.results256 rfl ⟨_,rfl,⟨by omega,by omega⟩,fun h=>absurd h (by omega)⟩)
   have hcf:-1048576≤x.parts_[k0.k].coef_∧x.parts_[k0.k].coef_≤1048576:=hb7.1 (by simpa using hg45)
   refine cB (fun hg49=>?_) (fun hg49=>?_)
   ·have hq49:¬ ((x.parts_[k0.k].coef_:Int)=(0:Int)):=by simpa using hg49
    refine ArgG.mk (abs13_p (x.parts_[k0.k].coef_) (by omega)) rfl ?_
    rintro _ rfl
    have habs8:=absI_cases (x.parts_[k0.k].coef_)
    refine OpG.lk (LOp.quoT rfl rfl (by omega) (by omega) (by omega)) (cB (fun hc57=>?_) (fun hc57=>?_))
    ·exact rV Tryz.results256 rfl ⟨_,rfl,⟨by omega,by omega⟩,fun h=>absurd h (by omega)⟩
    have hab:0≤absI x.parts_[k0.k].coef_ * 16∧absI x.parts_[k0.k].coef_ * 16≤1152921504606846976:=mulB (by omega) (by exact .inr (of_decide_eq_false hc57))
    refine RegG.go (ArgG.mk (abs13_p (x.parts_[k0.k].coef_) (by omega)) rfl ?_)
    rintro _ rfl
    have habs9:=absI_cases (x.parts_[k0.k].coef_)
    refine OpG.lk (LOp.mulI rfl rfl (by omega) (by omega)) (OpG.lk (lJ rfl rfl (by omega) (by omega)) ?_)
    refine cB (fun hc66=>?_) (fun hc66=>?_)
    ·exact rV Tryz.results256 rfl ⟨_,rfl,⟨by omega,by omega⟩,fun h=>absurd h (by omega)⟩
    have hle:=of_decide_eq_false hc66
    refine ⟨by omega,⟨(⟨k0.k+1,_⟩:KS),(by show x.parts_.length - (k0.k+1) < x.parts_.length - k0.k; omega),(cO (.cons rfl rfl (.cons rfl rfl (.cons rfl rfl .nil))) (.cons rfl rfl rfl .nil)),?_⟩⟩
    exact ⟨by show k0.k+1≤_; omega,bdStep hi_k0 hlt18 hcf (by exact hkey) hab.1 (by omega)⟩
   have hq49:(x.parts_[k0.k].coef_:Int)=(0:Int):=by simpa using hg49
   refine cF ?_
   have hab:0≤absI x.parts_[k0.k].coef_ * 16∧absI x.parts_[k0.k].coef_ * 16≤1152921504606846976:=mulB (by omega) (by exact .inl (by simpa using hg49))
   refine RegG.go (ArgG.mk (abs13_p (x.parts_[k0.k].coef_) (by omega)) rfl ?_)
   rintro _ rfl
   have habs10:=absI_cases (x.parts_[k0.k].coef_)
   refine OpG.lk (LOp.mulI rfl rfl (by omega) (by omega)) (OpG.lk (lJ rfl rfl (by omega) (by omega)) ?_)
   refine cB (fun hc66=>?_) (fun hc66=>?_)
   ·exact rV Tryz.results256 rfl ⟨_,rfl,⟨by omega,by omega⟩,fun h=>absurd h (by omega)⟩
   have hle:=of_decide_eq_false hc66
   refine ⟨by omega,⟨(⟨k0.k+1,_⟩:KS),(by show x.parts_.length - (k0.k+1) < x.parts_.length - k0.k; omega),(cO (.cons rfl rfl (.cons rfl rfl (.cons rfl rfl .nil))) (.cons rfl rfl rfl .nil)),?_⟩⟩
   exact ⟨by show k0.k+1≤_; omega,bdStep hi_k0 hlt18 hcf (by exact hkey) hab.1 (by omega)⟩
  have hq28:¬ ((x.parts_[k0.k].kind_:Int)=(1:Int)):=by simpa using hc28
  refine cB (fun hc31=>?_) (fun hc31=>?_)
  ·have hq31:(x.parts_[k0.k].kind_:Int)=(2:Int):=by simpa using hc31
   have hk2:x.parts_[k0.k].kind_=2:=by simpa using hc31
   have hdv:=hfp.dv hk2
   refine IdxG.of (j:=0) (by omega) (OpG.lk (LOp.ldTN row72 rfl (tmTake ((hx.parts_.2 _ (List.getElem_mem _)).of_.2 _ (List.getElem_mem _)))) ?_)
   refine ArgG.mk (ih x.parts_[k0.k] (List.getElem_mem _) (x.parts_[k0.k].of_[0]) (List.getElem_mem _)) (show pureL [.agg (rwA x.parts_[k0.k].of_[0])]=true by simp [pureL,AV.pureB,tmPure ((hx.parts_.2 _ (List.getElem_mem _)).of_.2 _ (List.getElem_mem _))]) ?_
   rintro _ ⟨v11,rfl,hv11,hw11⟩
   have htq11:=tdiv_q hv11 hdv.2
   have hkey:=key2 hk2 hfp hv11 hw11
   refine OpG.lk (LOp.quoT rfl rfl (by omega) (by omega) (by omega)) (OpG.lk (lJ rfl rfl (by omega) (by omega)) ?_)
   refine ⟨by kernel_rfl,ArgG.mk (within_p (x.parts_[k0.k].coef_) ((-1048576)) 1048576) rfl ?_⟩
   rintro _ ⟨b12,rfl,hb12⟩
   refine cB (fun hg45=>?_) (fun hg45=>?_)
   ·exact cT (rV Tryz.results256 rfl ⟨_,rfl,⟨by omega,by omega⟩,fun h=>absurd h (by omega)⟩)
   have hcf:-1048576≤x.parts_[k0.k].coef_∧x.parts_[k0.k].coef_≤1048576:=hb12.1 (by simpa using hg45)
   refine cB (fun hg49=>?_) (fun hg49=>?_)
   ·have hq49:¬ ((x.parts_[k0.k].coef_:Int)=(0:Int)):=by simpa using hg49
    refine ArgG.mk (abs13_p (x.parts_[k0.k].coef_) (by omega)) rfl ?_
    rintro _ rfl
    have habs13:=absI_cases (x.parts_[k0.k].coef_)
    refine OpG.lk (LOp.quoT rfl rfl (by omega) (by omega) (by omega)) (cB (fun hc57=>?_) (fun hc57=>?_))
    ·exact rV Tryz.results256 rfl ⟨_,rfl,⟨by omega,by omega⟩,fun h=>absurd h (by omega)⟩
    have hab:0≤absI x.parts_[k0.k].coef_ * ((v11.tdiv x.parts_[k0.k].by_+1))∧absI x.parts_[k0.k].coef_ * ((v11.tdiv x.parts_[k0.k].by_+1))≤1152921504606846976:=mulB (by omega) (by exact .inr (of_decide_eq_false hc57))
    refine RegG.go (ArgG.mk (abs13_p (x.parts_[k0.k].coef_) (by omega)) rfl ?_)
    rintro _ rfl
    have habs14:=absI_cases (x.parts_[k0.k].coef_)
    refine OpG.lk (LOp.mulI rfl rfl (by omega) (by omega)) (OpG.lk (lJ rfl rfl (by omega) (by omega)) ?_)
    refine cB (fun hc66=>?_) (fun hc66=>?_)
    ·exact rV Tryz.results256 rfl ⟨_,rfl,⟨by omega,by omega⟩,fun h=>absurd h (by omega)⟩
    have hle:=of_decide_eq_false hc66
    refine ⟨by omega,⟨(⟨k0.k+1,_⟩:KS),(by show x.parts_.length - (k0.k+1) < x.parts_.length - k0.k; omega),(cO (.cons rfl rfl (.cons rfl rfl (.cons rfl rfl .nil))) (.cons rfl rfl rfl .nil)),?_⟩⟩
    exact ⟨by show k0.k+1≤_; omega,bdStep hi_k0 hlt18 hcf (by exact hkey) hab.1 (by omega)⟩
   have hq49:(x.parts_[k0.k].coef_:Int)=(0:Int):=by simpa using hg49
   refine cF ?_
   have hab:0≤absI x.parts_[k0.k].coef_ * ((v11.tdiv x.parts_[k0.k].by_+1))∧absI x.parts_[k0.k].coef_ * ((v11.tdiv x.parts_[k0.k].by_+1))≤1152921504606846976:=mulB (by omega) (by exact .inl (by simpa using hg49))
   refine RegG.go (ArgG.mk (abs13_p (x.parts_[k0.k].coef_) (by omega)) rfl ?_)
   rintro _ rfl
   have habs15:=absI_cases (x.parts_[k0.k].coef_)
   refine OpG.lk (LOp.mulI rfl rfl (by omega) (by omega)) (OpG.lk (lJ rfl rfl (by omega) (by omega)) ?_)
   refine cB (fun hc66=>?_) (fun hc66=>?_)
   ·exact rV Tryz.results256 rfl ⟨_,rfl,⟨by omega,by omega⟩,fun h=>absurd h (by omega)⟩
   have hle:=of_decide_eq_false hc66
   refine ⟨by omega,⟨(⟨k0.k+1,_⟩:KS),(by show x.parts_.length - (k0.k+1) < x.parts_.length - k0.k; omega),(cO (.cons rfl rfl (.cons rfl rfl (.cons rfl rfl .nil))) (.cons rfl rfl rfl .nil)),?_⟩⟩
   exact ⟨by show k0.k+1≤_; omega,bdStep hi_k0 hlt18 hcf (by exact hkey) hab.1 (by omega)⟩
  have hq31:¬ ((x.parts_[k0.k].kind_:Int)=(2:Int)):=by simpa using hc31
  have hkey0:=key0 (p:=x.parts_[k0.k]) (by simpa using hc31)
  refine ArgG.mk (within_p (x.parts_[k0.k].coef_) ((-1048576)) 1048576) rfl ?_
  rintro _ ⟨b16,rfl,hb16⟩
  refine cB (fun hg45=>?_) (fun hg45=>?_)
  ·exact cT (rV Tryz.results256 rfl ⟨_,rfl,⟨by omega,by omega⟩,fun h=>absurd h (by omega)⟩)
  have hcf:-1048576≤x.parts_[k0.k].coef_∧x.parts_[k0.k].coef_≤1048576:=hb16.1 (by simpa using hg45)
  refine cB (fun hg49=>?_) (fun hg49=>?_)
  ·have hq49:¬ ((x.parts_[k0.k].coef_:Int)=(0:Int)):=by simpa using hg49
   refine ArgG.mk (abs13_p (x.parts_[k0.k].coef_) (by omega)) rfl ?_
   rintro _ rfl
   have habs17:=absI_cases (x.parts_[k0.k].coef_)
   refine OpG.lk (LOp.quoT rfl rfl (by omega) (by omega) (by omega)) (cB (fun hc57=>?_) (fun hc57=>?_))
   ·exact rV Tryz.results256 rfl ⟨_,rfl,⟨by omega,by omega⟩,fun h=>absurd h (by omega)⟩
   have hab:0≤absI x.parts_[k0.k].coef_ * 2147483648∧absI x.parts_[k0.k].coef_ * 2147483648≤1152921504606846976:=mulB (by omega) (by exact .inr (of_decide_eq_false hc57))
   refine RegG.go (ArgG.mk (abs13_p (x.parts_[k0.k].coef_) (by omega)) rfl ?_)
   rintro _ rfl
   have habs18:=absI_cases (x.parts_[k0.k].coef_)
   refine OpG.lk (LOp.mulI rfl rfl (by omega) (by omega)) (OpG.lk (lJ rfl rfl (by omega) (by omega)) ?_)
   refine cB (fun hc66=>?_) (fun hc66=>?_)
   ·exact rV Tryz.results256 rfl ⟨_,rfl,⟨by omega,by omega⟩,fun h=>absurd h (by omega)⟩
   have hle:=of_decide_eq_false hc66
   refine ⟨by omega,⟨(⟨k0.k+1,_⟩:KS),(by show x.parts_.length - (k0.k+1) < x.parts_.length - k0.k; omega),(cO (.cons rfl rfl (.cons rfl rfl (.cons rfl rfl .nil))) (.cons rfl rfl rfl .nil)),?_⟩⟩
   exact ⟨by show k0.k+1≤_; omega,bdStep hi_k0 hlt18 hcf (by exact hkey0) hab.1 (by omega)⟩
  have hq49:(x.parts_[k0.k].coef_:Int)=(0:Int):=by simpa using hg49
  refine cF ?_
  have hab:0≤absI x.parts_[k0.k].coef_ * 2147483648∧absI x.parts_[k0.k].coef_ * 2147483648≤1152921504606846976:=mulB (by omega) (by exact .inl (by simpa using hg49))
  refine RegG.go (ArgG.mk (abs13_p (x.parts_[k0.k].coef_) (by omega)) rfl ?_)
  rintro _ rfl
  have habs19:=absI_cases (x.parts_[k0.k].coef_)
  refine OpG.lk (LOp.mulI rfl rfl (by omega) (by omega)) (OpG.lk (lJ rfl rfl (by omega) (by omega)) ?_)
  refine cB (fun hc66=>?_) (fun hc66=>?_)
  ·exact rV Tryz.results256 rfl ⟨_,rfl,⟨by omega,by omega⟩,fun h=>absurd h (by omega)⟩
  have hle:=of_decide_eq_false hc66
  refine ⟨by omega,⟨(⟨k0.k+1,_⟩:KS),(by show x.parts_.length - (k0.k+1) < x.parts_.length - k0.k; omega),(cO (.cons rfl rfl (.cons rfl rfl (.cons rfl rfl .nil))) (.cons rfl rfl rfl .nil)),?_⟩⟩
  exact ⟨by show k0.k+1≤_; omega,bdStep hi_k0 hlt18 hcf (by exact hkey0) hab.1 (by omega)⟩
 exact rV Tryz.results256 rfl ⟨_,rfl,bdEnd hcc hi_k0 hge18⟩
theorem bound_p (r:List AV) (hr:IsTm r):PRet Tryz.prog 256 [.agg (rwA r)] (fun q=>∃ v:Int,q=.v (.int .i64 v)∧(0≤v∧v≤1152921504606846977)∧(v≤1152921504606846976→Bd r v∧Sm r)):=IsTm.ind (M:=fun r=>PRet Tryz.prog 256 [.agg (rwA r)] (fun q=>∃ v:Int,q=.v (.int .i64 v)∧(0≤v∧v≤1152921504606846977)∧(v≤1152921504606846976→Bd r v∧Sm r))) (fun x hx ih=>bound_w x hx ih) hr
end Go.Proofs.YtjdblmpkeilbaaaGreatDoor
namespace Go.Proofs.YtjdblmpkeilbaaaGreatDoor
set_option linter.unusedVariables false
set_option linter.unusedSimpArgs false
open Go.RowKit
theorem OutR.cellN {P:Program} {N:Nat} {s:St} {ret:AV} (fn:Func) {t ty n id ver:Nat} {b:Blk} (ht:rowOf P ty=some (some n)) (hx:s.τ t=.ptr id ver 0) (hb:s.η id=some b) (hv:b.ver=ver) (hn:b.nilp=false) (hl:b.cs.length=n)
  (h:∃ fp,FzP fp s.η (.agg b.cs) ret):OutR P N s (.cell t ty) ret :=
 OutR.of_Outs (fn:={ fn with results:=#[.cell t ty] }) rfl (Outs.cell rfl ht hx hb hv hn hl h)
theorem FzP.zt {fp:List Nat} {η:Heap}:FzP fp η (.agg [.v (.int .i64 0),.v (.slice none 0 0)]) (.agg (tmA ⟨0,[]⟩)) :=
 FzP.agg rfl (fun i h h'=>match i,h with
  | 0,_=>FzP.pure rfl
  | 1,_=>FzP.nil)
theorem zt_fit:FitTm ⟨0,[]⟩:=⟨⟨Nat.zero_le _,fun x hx=>absurd hx (by simp)⟩⟩
theorem FzP.ct {fp:List Nat} {η:Heap} (c:Int):FzP fp η (.agg [.v (.int .i64 c),.v (.slice none 0 0)]) (.agg (tmA ⟨c,[]⟩)) :=
 FzP.agg rfl (fun i h h'=>match i,h with
  | 0,_=>FzP.pure rfl
  | 1,_=>FzP.nil)
def B60 (x:GTm):Prop:=Bd (tmA x) 1152921504606846976
theorem Bd.mono {r:List AV} {m n:Int} (h:Bd r m) (hm:m≤n):Bd r n:=fun ρ hρ=>by have:=h ρ hρ; omega
/-- Where a sum of terms stands after some parts of the second one. -/
structure AddI (x y:GTm) (s:KL GPart):Prop where
 len:s.L.length≤x.parts_.length+s.k
 fit:FitL s.L (fun p=>FitPart p)
 cf:∀ q∈s.L,-(1048576 * ((s.k:Int)+1))≤q.coef_∧q.coef_≤1048576 * ((s.k:Int)+1)
 val:∀ ρ,sumP ρ s.L=sumP ρ x.parts_+sumP ρ (y.parts_.take s.k)
theorem add0 {x y:GTm} (hx:FitTm x) (hc:cfOk x):AddI x y ⟨0,x.parts_⟩:=⟨Nat.le_refl _,hx.parts_,fun q hq=>by have:=hc.2 q hq; show -(1048576 * (((0:Nat):Int)+1))≤_∧_≤1048576 * (((0:Nat):Int)+1); omega,fun ρ=>by simp [sumP]⟩
theorem addStep {x y:GTm} {s:KL GPart} (h:AddI x y s) (hk:s.k < y.parts_.length) {L:List GPart} (h1:FitL L (fun p=>FitPart p)) (h2:L.length≤s.L.length+1) (h3:∀ q∈L,-(1048576 * ((s.k:Int)+1)+1048576)≤q.coef_∧q.coef_≤1048576 * ((s.k:Int)+1)+1048576) (h4:∀ ρ,sumP ρ L=sumP ρ s.L+valP ρ y.parts_[s.k]):AddI x y ⟨s.k+1,L⟩ :=
 ⟨by have:=h.len; show L.length≤_+(s.k+1); omega,h1,fun q hq=>by have:=h3 q hq; show -(1048576 * (((s.k+1:Nat):Int)+1))≤_∧_≤1048576 * (((s.k+1:Nat):Int)+1); omega,fun ρ=>by show sumP ρ L=_+sumP ρ (y.parts_.take (s.k+1)); rw [h4 ρ,h.val ρ,sumP_take ρ hk]; omega⟩
theorem addEnd {x y t:GTm} {s:KL GPart} (h:AddI x y s) (hge:¬ s.k < y.parts_.length) (hle:s.k≤y.parts_.length) (ht:t=⟨x.const_+y.const_,s.L⟩):t.parts_.length≤x.parts_.length+y.parts_.length∧∀ ρ,tvL ρ (tmA t)=tvL ρ (tmA x)+tvL ρ (tmA y):=by
 subst ht
 refine ⟨by have:=h.len; show s.L.length≤_; omega,fun ρ=>?_⟩
 rw [tvL_tm,tvL_tm,tvL_tm]
 show x.const_+y.const_+sumP ρ s.L=_
 rw [h.val ρ,List.take_of_length_le (by omega)]
 omega
set_option maxRecDepth 100000 in
set_option maxHeartbeats 4000000 in
theorem small13_p (x:GTm) (hx:FitTm x):PRet Tryz.prog 207 [.agg (tmA x)] (fun r=>∃ b:Bool,r=.v (.bool b)∧(b=true→B60 x∧cfOk x)):=by
 refine PRet.of_vc infOk [] [] Tryz.func207 rfl Tryz.ntmps207 rfl (by kernel_rfl) (ArgG.mk (bound_p (tmA x) (isTm hx)) rfl ?_)
 rintro _ ⟨v0,rfl,hv0,hw0⟩
 exact rV Tryz.results207 rfl ⟨_,rfl,fun hr=>by have:=hw0 (of_decide_eq_true hr); exact ⟨this.1.mono (of_decide_eq_true hr),this.2.of⟩⟩
set_option maxRecDepth 100000 in
set_option maxHeartbeats 4000000 in
theorem limited_p (x:GTm) (hx:FitTm x):PRet Tryz.prog 165 [.agg (tmA x)] (fun r=>∃ (t:GTm) (e:Int),r=.tup [.agg (tmA t),.v (.int .i64 e)]∧FitTm t∧(e=0→t=x∧B60 x∧cfOk x)):=by
 refine PRet.of_vc infOk [] [] Tryz.func165 rfl Tryz.ntmps165 rfl (by kernel_rfl) (ArgG.mk (small13_p x hx) rfl ?_)
 rintro _ ⟨b0,rfl,hb0⟩
 refine cB (fun hc6=>?_) (fun hc6=>?_)
 ·exact ⟨.inr rfl,_,Outs.two Tryz.results165 (OutR.cellN Tryz.f165 row72 rfl rfl rfl rfl rfl ⟨[],FzP.zt⟩) (OutR.tmp ⟨[],FzP.pure rfl⟩),⟨⟨0,[]⟩,3,rfl,zt_fit,fun h=>absurd h (by decide)⟩⟩
 exact ⟨.inr rfl,_,Outs.two Tryz.results165 (OutR.cellN Tryz.f165 row72 rfl rfl rfl rfl rfl ⟨[],FzP.pure rfl⟩) (OutR.tmp ⟨[],FzP.pure rfl⟩),⟨x,0,rfl,hx,fun _=>⟨rfl,hb0 (by simpa using hc6)⟩⟩⟩
set_option maxRecDepth 100000 in
set_option maxHeartbeats 4000000 in
theorem add_p (x:GTm) (hx:FitTm x) (y:GTm) (hy:FitTm y) (hcx:cfOk x) (hcy:cfOk y) (hlx:x.parts_.length≤200000) (hly:y.parts_.length≤200000):PRet Tryz.prog 209 [.agg (tmA x),.agg (tmA y)] (fun r=>∃ (t:GTm) (e:Int),r=.tup [.agg (tmA t),.v (.int .i64 e)]∧FitTm t∧(e=0→B60 t∧cfOk t∧t.parts_.length≤x.parts_.length+y.parts_.length∧∀ ρ,tvL ρ (tmA t)=tvL ρ (tmA x)+tvL ρ (tmA y))):=by
 have hc1:=hcx.1
 have hc2:=hcy.1
 refine PRet.of_vc infOk [] [] Tryz.func209 rfl Tryz.ntmps209 rfl (by kernel_rfl) ⟨by omega,LpG.on (fun k0:KL GPart=>(⟨fL [(3,.ptr 1 0 0),(4,.ptr 2 0 0),(6,.ptr 3 0 0),(7,.v (.int .i64 ((k0.k:Nat):Int)))],hLz [(1,⟨0,tmA y,0,false⟩),(2,⟨0,[.v (.int .i64 0),.v (.slice none 0 0)],0,false⟩),(3,⟨0,[.v (.int .i64 (x.const_+y.const_)),.tree 5 (k0.L.map ptA)],0,false⟩)],4⟩:St)) (fun k0=>(y.parts_.length - k0.k)) (fun k0=>(k0.k≤y.parts_.length∧AddI x y k0)) (⟨0,x.parts_⟩:KL GPart) (cO (.cons rfl rfl (.cons rfl rfl (.cons rfl rfl (.cons rfl rfl .nil)))) (.cons rfl rfl rfl (.cons rfl rfl rfl (.cons rfl rfl rfl .nil)))) ⟨Nat.zero_le _,add0 hx hcx⟩ ?_⟩
 rintro k0 hinv
 have hgr_k0:y.parts_.length≤140737488355328:=hy.parts_.1
 obtain ⟨hle_k0,hi_k0⟩:=hinv
 refine LenG.of (cL (fun hlt20=>?_) (fun hge20=>?_))
 ·refine IdxG.of (by assumption) (ArgG.mk (insert_p k0.L hi_k0.fit (y.parts_[k0.k]) (hy.parts_.2 _ (List.getElem_mem _)) (1048576 * ((k0.k:Int)+1)) 1048576 (by omega) (by omega) (by have:=hi_k0.len; omega) hi_k0.cf (hcy.2 _ (List.getElem_mem _))) rfl ?_)
  rintro _ ⟨L0,rfl,hLf0,hLl0,hLc0,hLv0⟩
  refine ⟨by kernel_rfl,⟨by omega,?_⟩⟩
  refine ⟨(⟨k0.k+1,L0⟩:KL GPart),(by show y.parts_.length - (k0.k+1) < y.parts_.length - k0.k; omega),(cO (.cons rfl rfl (.cons rfl rfl (.cons rfl rfl (.cons rfl rfl .nil)))) (.cons rfl rfl rfl (.cons rfl rfl rfl (.cons rfl rfl rfl .nil)))),⟨by show k0.k+1≤_; omega,?_⟩⟩
  exact addStep hi_k0 hlt20 hLf0 hLl0 hLc0 hLv0
 refine ArgG.mk (limited_p (⟨x.const_+y.const_,k0.L⟩:GTm) ⟨hi_k0.fit⟩) rfl ?_
 rintro _ ⟨t1,e1,rfl,ht1,he1⟩
 exact ⟨.inr rfl,_,Outs.two Tryz.results209 (OutR.cellN Tryz.f209 row72 rfl rfl rfl rfl rfl ⟨[],FzP.pure rfl⟩) (OutR.tmp ⟨[],FzP.pure rfl⟩),⟨_,_,rfl,ht1,fun h=>by obtain ⟨h1,h2,h3⟩:=he1 h; have h4:=addEnd hi_k0 hge20 hle_k0 h1; subst h1; exact ⟨h2,h3,h4⟩⟩⟩
end Go.Proofs.YtjdblmpkeilbaaaGreatDoor
namespace Go.Proofs.YtjdblmpkeilbaaaGreatDoor
set_option linter.unusedVariables false
set_option linter.unusedSimpArgs false
open Go.RowKit
/-- Where the product of a term and a number stands after some parts. -/
structure ScI (x:GTm) (n:Int) (s:KL GPart):Prop where
 len:s.L.length≤s.k
 fit:∀ p∈s.L,FitPart p
 val:(∀ q∈s.L,-1048576≤q.coef_∧q.coef_≤1048576)→∀ ρ,sumP ρ s.L=n * sumP ρ (x.parts_.take s.k)
theorem sc0 (x:GTm) (n:Int):ScI x n ⟨0,[]⟩:=⟨Nat.le_refl _,by simp,fun _ ρ=>by simp [sumP]⟩
section
variable {x:GTm} {n v:Int} {s:KL GPart}
theorem scStep (h:ScI x n s) (hk:s.k < x.parts_.length) (hf:FitPart x.parts_[s.k]) (hv:v=1152921504606846976∨(v=x.parts_[s.k].coef_ * n∧-1152921504606846976≤v∧v≤1152921504606846976)):ScI x n ⟨s.k+1,s.L++[{ x.parts_[s.k] with coef_:=v }]⟩ :=
 ⟨by have:=h.len; simp only [List.length_append,List.length_singleton]; omega,all_snoc h.fit ⟨hf.of_,hf.one,hf.dv,hf.bd⟩,fun hq ρ=>by
  show sumP ρ (s.L++[_])=n * sumP ρ (x.parts_.take (s.k+1))
  rw [sumP_app,sumP_take ρ hk,h.val (fun q hq'=>hq q (List.mem_append_left _ hq')) ρ,Int.mul_add]
  have h1:=hq { x.parts_[s.k] with coef_:=v } (List.mem_append_right _ (List.mem_singleton.2 rfl))
  have h2:v=x.parts_[s.k].coef_ * n:=by
   rcases hv with h | h
   ·rw [h] at h1; exact absurd h1.2 (by show ¬ ((1152921504606846976:Int)≤1048576); decide)
   ·exact h.1
  have h3:valP ρ { x.parts_[s.k] with coef_:=v }=n * valP ρ x.parts_[s.k]:=by
   show v * keyV ρ x.parts_[s.k]=n * (x.parts_[s.k].coef_ * keyV ρ x.parts_[s.k])
   rw [h2,Int.mul_comm _ n,Int.mul_assoc]
  simp only [sumP,h3]
  omega⟩
theorem scSkip (h:ScI x n s) (hk:s.k < x.parts_.length) (hv:v=1152921504606846976∨(v=x.parts_[s.k].coef_ * n∧-1152921504606846976≤v∧v≤1152921504606846976)) (hz:v=0):ScI x n ⟨s.k+1,s.L⟩ :=
 ⟨by have:=h.len; show s.L.length≤s.k+1; omega,h.fit,fun hq ρ=>by
  show sumP ρ s.L=n * sumP ρ (x.parts_.take (s.k+1))
  rw [sumP_take ρ hk,h.val hq ρ,Int.mul_add]
  have h2:x.parts_[s.k].coef_ * n=0:=by
   rcases hv with h | h <;> omega
  have h3:n * valP ρ x.parts_[s.k]=0:=by
   show n * (x.parts_[s.k].coef_ * keyV ρ x.parts_[s.k])=0
   rw [← Int.mul_assoc,Int.mul_comm n,h2,Int.zero_mul]
  omega⟩
end
theorem scEnd {x t:GTm} {n c:Int} {s:KL GPart} (h:ScI x n s) (hge:¬ s.k < x.parts_.length) (hle:s.k≤x.parts_.length) (hc:c=1152921504606846976∨(c=x.const_ * n∧-1152921504606846976≤c∧c≤1152921504606846976)) (ht:t=⟨c,s.L⟩) (hcf:cfOk ⟨c,s.L⟩):t.parts_.length≤x.parts_.length∧∀ ρ,tvL ρ (tmA t)=n * tvL ρ (tmA x):=by
 subst ht
 refine ⟨by have:=h.len; show s.L.length≤_; omega,fun ρ=>?_⟩
 have h1:c=x.const_ * n:=by
  rcases hc with h | h
  ·have:=hcf.1; simp only at this; omega
  ·exact h.1
 have h2:=h.val hcf.2 ρ
 rw [List.take_of_length_le (by omega)] at h2
 rw [tvL_tm,tvL_tm]
 show c+sumP ρ s.L=_
 rw [h2,h1,Int.mul_add,Int.mul_comm]
set_option maxRecDepth 100000 in
set_option maxHeartbeats 4000000 in
theorem scale_p (x:GTm) (hx:FitTm x) (n:Int) (hlx:x.parts_.length≤500000):PRet Tryz.prog 166 [.agg (tmA x),.v (.int .i64 n)] (fun r=>∃ (t:GTm) (e:Int),r=.tup [.agg (tmA t),.v (.int .i64 e)]∧FitTm t∧(e=0→B60 t∧cfOk t∧t.parts_.length≤x.parts_.length∧∀ ρ,tvL ρ (tmA t)=n * tvL ρ (tmA x))):=by
 refine PRet.of_vc infOk [] [9] Tryz.func166 rfl Tryz.ntmps166 rfl (by kernel_rfl) (ArgG.mk (times_p x.const_ n) rfl ?_)
 rintro _ ⟨v0,rfl,hv0⟩
 refine LpG.via (fun _ h=>AWP.lazyC 2 1 5 rfl rfl rfl rfl rfl 4 rfl h) (LpG.on (fun k0:KL GPart=>(⟨fL [(1,.v (.int .i64 n)),(2,.ptr 0 0 0),(4,.ptr 1 0 0),(6,.ptr 2 0 0),(7,.v (.int .i64 ((k0.k:Nat):Int)))],hLz [(0,⟨0,tmA x,0,false⟩),(1,⟨0,[.v (.int .i64 0),.v (.slice none 0 0)],0,false⟩),(2,⟨0,[.v (.int .i64 v0),.sl 3 k0.L.length 0 k0.L.length],0,false⟩),(3,⟨k0.L.length,rF ptA k0.L,5,Nat.beq k0.L.length 0⟩)],4⟩:St)) (fun k0=>(x.parts_.length - k0.k)) (fun k0=>(k0.k≤x.parts_.length∧ScI x n k0)) (⟨0,[]⟩:KL GPart) (cO (.cons rfl rfl (.cons rfl rfl (.cons rfl rfl (.cons rfl rfl (.cons rfl rfl .nil))))) (.cons rfl rfl rfl (.cons rfl rfl rfl (.cons (by rfl) rfl rfl (.cons (by rfl) rfl (rF_low row_ptA _ _) .nil))))) ⟨Nat.zero_le _,sc0 x n⟩ ?_)
 rintro k0 hinv
 have hgr_k0:x.parts_.length≤140737488355328:=hx.parts_.1
 obtain ⟨hle_k0,hi_k0⟩:=hinv
 refine LenG.of (cL (fun hlt18=>?_) (fun hge18=>?_))
 ·have hfk:=hx.parts_.2 _ (List.getElem_mem hlt18)
  have hll:=hi_k0.len
  refine IdxG.of (by assumption) (ArgG.mk (times_p (x.parts_[k0.k].coef_) n) rfl ?_)
  rintro _ ⟨v1,rfl,hv1⟩
  refine cB (fun hc33=>?_) (fun hc33=>?_)
  ·refine OpG.mk _ _ _ 6 (LOp.appRow row_ptA (a:=({ x.parts_[k0.k] with coef_:=v1 }:GPart)) Tryz.underlying70 sz69 zr69 by69 rfl rfl rfl (Src.slB rfl rfl rfl rfl) rfl (by omega) (by omega) (by unfold TV; omega)) rfl rfl ⟨by omega,⟨(⟨k0.k+1,k0.L++[({ x.parts_[k0.k] with coef_:=v1 }:GPart)]⟩:KL GPart),(by show x.parts_.length - (k0.k+1) < x.parts_.length - k0.k; omega),(cO (.cons rfl rfl (.cons rfl rfl (.cons rfl rfl (.cons rfl rfl (.cons rfl rfl .nil))))) (.cons rfl rfl rfl (.cons rfl rfl rfl (.cons (by (rw [List.length_append]; rfl)) rfl rfl (.cons (by (rw [List.length_append]; rfl)) rfl (rF_low row_ptA _ _) .nil))))),?_⟩⟩
   exact ⟨by show k0.k+1≤_; omega,scStep hi_k0 hlt18 hfk hv1⟩
  refine ⟨by omega,⟨(⟨k0.k+1,k0.L⟩:KL GPart),(by show x.parts_.length - (k0.k+1) < x.parts_.length - k0.k; omega),(cO (.cons rfl rfl (.cons rfl rfl (.cons rfl rfl (.cons rfl rfl (.cons rfl rfl .nil))))) (.cons rfl rfl rfl (.cons rfl rfl rfl (.cons (by rfl) rfl rfl (.cons (by rfl) rfl (rF_low row_ptA _ _) .nil))))),?_⟩⟩
  exact ⟨by show k0.k+1≤_; omega,scSkip hi_k0 hlt18 hv1 (by simpa using hc33)⟩
 refine RegG.via (fun _ h=>AWP.freezeB [3] 2 0 0 [.v (.int .i64 v0),.sl 3 k0.L.length 0 k0.L.length] [.v (.int .i64 v0),.tree 5 (k0.L.map ptA)] rfl rfl (.keep (.fz (FzP.rows row_ptA (List.mem_singleton.2 rfl) rfl) (.same _))) rfl h) (RegG.go ?_)
 refine ArgG.mk (limited_p ⟨v0,k0.L⟩ ⟨⟨by show k0.L.length≤_; have:=hi_k0.len; omega,hi_k0.fit⟩⟩) rfl ?_
 rintro _ ⟨t2,e2,rfl,ht2,he2⟩
 exact ⟨.inr rfl,_,Outs.two Tryz.results166 (OutR.cellN Tryz.f166 row72 rfl rfl rfl rfl rfl ⟨[],FzP.pure rfl⟩) (OutR.tmp ⟨[],FzP.pure rfl⟩),⟨_,_,rfl,ht2,fun h=>by obtain ⟨h1,h2,h3⟩:=he2 h; have h4:=scEnd hi_k0 hge18 hle_k0 hv0 h1 h3; subst h1; exact ⟨h2,h3,h4⟩⟩⟩
end Go.Proofs.YtjdblmpkeilbaaaGreatDoor
namespace Go.Proofs.YtjdblmpkeilbaaaGreatDoor
set_option linter.unusedVariables false
set_option linter.unusedSimpArgs false
open Go.RowKit
theorem FzP.row1 {fp:List Nat} {η:Heap} {id n v:Nat} {cs ds:List AV} (hid:id∈fp) (hb:η id=some ⟨v,cs,n,false⟩) (hl:cs.length=n) (hd:ds.length=n) (h:∀ i (h:i < cs.length) (h':i < ds.length),FzP fp η cs[i] ds[i]):FzP fp η (.sl id v 0 1) (.tree n [ds]) :=
 FzP.sl (b:=⟨v,cs,n,false⟩) (rows:=[ds]) hid hb rfl rfl rfl (fun k hk=>by
  have:k=0:=by simp at hk; omega
  subst this; exact hd) (fun k hk j hj=>by
  have:k=0:=by simp at hk; omega
  subst this
  have hj':j < ds.length:=hj
  refine ⟨cs[j]'(by omega),?_,h j (by omega) hj'⟩
  simp only [Nat.zero_mul,Nat.zero_add]
  exact List.getElem?_eq_getElem (by show j < cs.length; omega))
theorem pure_at {fp:List Nat} {η:Heap} {cs:List AV} (h:pureL cs=true):∀ i (h:i < cs.length) (h':i < cs.length),FzP fp η cs[i] cs[i]:=fun i h1 _=>FzP.pure (pureL_at h i h1)
def dvP (x:GTm) (b:Int):GPart:=⟨1,2,0,b,[tmA x]⟩
def dvT (x:GTm) (b:Int):GTm:=⟨0,[dvP x b]⟩
theorem dv_fit {x:GTm} {b:Int} (hx:FitTm x) (hb:1≤b∧b≤1000) (h6:B60 x):FitTm (dvT x b) :=
 ⟨⟨by show 1≤_; decide,fun p hp=>by
  rw [List.mem_singleton.1 hp]
  exact ⟨⟨by show 1≤_; decide,fun r hr=>by rw [List.mem_singleton.1 hr]; exact isTm hx⟩,Nat.le_refl _,fun _=>⟨rfl,hb.1,hb.2⟩,fun _ r hr=>by rw [List.mem_singleton.1 hr]; exact h6⟩⟩⟩
theorem dv_val {x:GTm} {b:Int} (ρ:Int→Int→Int):tvL ρ (tmA (dvT x b))=(wr (ρ 2 0) (tvL ρ (tmA x))).fdiv b:=by
 rw [tvL_tm]
 simp [dvT,dvP,sumP,valP,keyV,ofL]
theorem FzP.dv {η:Heap} {x:GTm} {b:Int} {i j v w:Nat} (hi:η i=some ⟨v,tmA x,2,false⟩) (hj:η j=some ⟨w,[.v (.int .i64 1),.v (.int .i64 2),.v (.int .i64 0),.v (.int .i64 b),.sl i v 0 1],5,false⟩):FzP [i,j] η (.agg [.v (.int .i64 0),.sl j w 0 1]) (.agg (tmA (dvT x b))) :=
 FzP.agg rfl (fun k h h'=>match k,h with
  | 0,_=>FzP.pure rfl
  | 1,_=>FzP.row1 (by simp) hj rfl rfl (fun k h h'=>match k,h with
   | 0,_=>FzP.pure rfl
   | 1,_=>FzP.pure rfl
   | 2,_=>FzP.pure rfl
   | 3,_=>FzP.pure rfl
   | 4,_=>FzP.row1 (by simp) hi rfl rfl (pure_at rfl)))
theorem fdiv_rng {a b m:Int} (hb:1≤b) (hm:0≤m) (h:-m≤a∧a≤m):-m≤a.fdiv b∧a.fdiv b≤m:=by
 rw [Int.fdiv_eq_ediv_of_nonneg _ (by omega)]
 have h1:a / b≤m / b:=Int.ediv_le_ediv (by omega) h.2
 have h2:=Int.ediv_le_self b hm
 have h3:-m≤a / b:=by
  rw [Int.le_ediv_iff_mul_le (by omega)]
  have:m * 1≤m * b:=Int.mul_le_mul_of_nonneg_left hb hm
  rw [Int.neg_mul]; omega
 have h4:m / b≤m:=Int.ediv_le_self b hm
 omega
def DivOk (x t:GTm) (b:Int):Prop:=(1≤b∧b≤1000)∧B60 t∧cfOk t∧t.parts_.length≤x.parts_.length+1∧∀ ρ,wr (ρ 2 0) (tvL ρ (tmA t))=wr (ρ 2 0) ((wr (ρ 2 0) (tvL ρ (tmA x))).fdiv b)
theorem wr_in {m x:Int} (h:-9223372036854775808≤x∧x≤9223372036854775807):wr m x=x:=by
 unfold wr; split
 ·rfl
 rw [IntKind.wrap_i64]; omega
theorem wr_rng {m x:Int} (h:m≠0):-9223372036854775808≤wr m x∧wr m x≤9223372036854775807:=by
 unfold wr; rw [if_neg h,IntKind.wrap_i64]; omega
theorem wr_wr (m x:Int):wr m (wr m x)=wr m x:=by
 by_cases h:m=0
 ·simp only [wr,if_pos h]
 exact wr_in (wr_rng h)
theorem div1 {x:GTm} {b:Int} (h:b=1) (h6:B60 x) (hc:cfOk x):DivOk x x b:=by
 subst h; exact ⟨by decide,h6,hc,Nat.le_succ _,fun ρ=>by rw [Int.fdiv_one,wr_wr]⟩
theorem divC {x:GTm} {b f:Int} (hb:1≤b∧b≤1000) (hc:cfOk x) (hz:((x.parts_.length:Nat):Int)=0) (hf:f=x.const_.fdiv b):DivOk x ⟨f,[]⟩ b:=by
 subst hf
 have h1:=fdiv_rng hb.1 (by decide:(0:Int)≤1099511627776) hc.1
 have e:x.parts_=[]:=List.eq_nil_of_length_eq_zero (by omega)
 refine ⟨hb,fun ρ _=>?_,⟨h1,fun p hp=>absurd hp (by simp)⟩,Nat.zero_le _,fun ρ=>?_⟩
 ·rw [tvL_tm]; show -1152921504606846976≤x.const_.fdiv b+sumP ρ []∧x.const_.fdiv b+sumP ρ []≤_; simp only [sumP]; omega
 rw [tvL_tm,tvL_tm,e]; simp only [sumP,Int.add_zero]; rw [wr_in (x:=x.const_) (by have:=hc.1; omega)]
theorem divD {x t:GTm} {b:Int} (hb:1≤b∧b≤1000) (h1:t=dvT x b) (h2:B60 t) (h3:cfOk t):DivOk x t b:=by
 subst h1; exact ⟨hb,h2,h3,by show 1≤_+1; omega,fun ρ=>by rw [dv_val ρ]⟩
theorem isTm_small {c:Int}:FitTm ⟨c,[]⟩:=⟨⟨Nat.zero_le _,fun x hx=>absurd hx (by simp)⟩⟩
theorem bod165:bodied Tryz.prog 165=true:=by kernel_rfl
set_option maxRecDepth 100000 in
set_option maxHeartbeats 4000000 in
theorem div_p (x:GTm) (hx:FitTm x) (by_:Int) (h6:B60 x) (hcx:cfOk x):PRet Tryz.prog 211 [.agg (tmA x),.v (.int .i64 by_)] (fun r=>∃ (t:GTm) (e:Int),r=.tup [.agg (tmA t),.v (.int .i64 e)]∧FitTm t∧(e=0→DivOk x t by_)):=by
 have hcc:=hcx.1
 refine PRet.of_vc infOk [28] [] Tryz.func211 rfl Tryz.ntmps211 rfl (by kernel_rfl) (ArgG.mk (within_p by_ 1 1000) rfl ?_)
 rintro _ ⟨b0,rfl,hb0⟩
 refine cB (fun hc8=>?_) (fun hc8=>?_)
 ·exact ⟨.inr rfl,_,Outs.two Tryz.results211 (OutR.cellN Tryz.f211 row72 rfl rfl rfl rfl rfl ⟨[],FzP.zt⟩) (OutR.tmp ⟨[],FzP.pure rfl⟩),⟨⟨0,[]⟩,1,rfl,zt_fit,fun h=>absurd h (by decide)⟩⟩
 have hby:=hb0.1 (by simpa using hc8)
 refine cB (fun hc11=>?_) (fun hc11=>?_)
 ·have hq11:(by_:Int)=(1:Int):=by simpa using hc11
  exact ⟨.inr rfl,_,Outs.two Tryz.results211 (OutR.cellN Tryz.f211 row72 rfl rfl rfl rfl rfl ⟨[],FzP.pure rfl⟩) (OutR.tmp ⟨[],FzP.pure rfl⟩),⟨x,0,rfl,hx,fun _=>div1 (by simpa using hc11) h6 hcx⟩⟩
 have hq11:¬ ((by_:Int)=(1:Int)):=by simpa using hc11
 refine LenG.of (cE (fun hq16=>?_) (fun hq16=>?_))
 ·refine ArgG.mk (floor13_p x.const_ by_ (by omega) (by omega)) rfl ?_
  rintro _ ⟨f1,rfl,hf1⟩
  exact ⟨.inr rfl,_,Outs.two Tryz.results211 (OutR.cellN Tryz.f211 row72 rfl rfl rfl rfl rfl ⟨[],FzP.ct _⟩) (OutR.tmp ⟨[],FzP.pure rfl⟩),⟨⟨_,[]⟩,0,rfl,isTm_small,fun _=>divC hby hcx (by assumption) hf1⟩⟩
 obtain ⟨_,⟨t2,e2,rfl,ht2,he2⟩,hcl2⟩:=limited_p (dvT x by_) (dv_fit hx hby h6)
 exact OpG.mk _ _ _ 4 (LOp.callF [2,3] bod165 rfl (fun i h h'=>match i,h with | 0,_=>FzP.dv rfl rfl) (fun id hid=>by simp at hid; rcases hid with rfl | rfl <;> rfl) hcl2) rfl rfl ⟨.inr rfl,_,Outs.two Tryz.results211 (OutR.cellN Tryz.f211 row72 rfl rfl rfl rfl rfl ⟨[],FzP.pure rfl⟩) (OutR.tmp ⟨[],FzP.pure rfl⟩),⟨_,_,rfl,ht2,fun h=>by obtain ⟨h1,h2,h3⟩:=he2 h; subst h1; exact divD hby rfl h2 h3⟩⟩
end Go.Proofs.YtjdblmpkeilbaaaGreatDoor
namespace Go.Proofs.YtjdblmpkeilbaaaGreatDoor
set_option linter.unusedVariables false
set_option linter.unusedSimpArgs false
open Go.RowKit
def colT (kd i:Int):GTm:=⟨0,[⟨1,kd,i,0,[]⟩]⟩
theorem col_fit {kd i:Int} (h:kd≠2):FitTm (colT kd i):=⟨⟨by show 1≤_; decide,fun p hp=>by
  rw [List.mem_singleton.1 hp]
  exact ⟨⟨Nat.zero_le _,fun r hr=>absurd hr (by simp)⟩,Nat.zero_le _,fun h'=>absurd h' h,fun h'=>absurd h' h⟩⟩⟩
theorem FzP.col {η:Heap} {kd i:Int} {j w:Nat} (hj:η j=some ⟨w,[.v (.int .i64 1),.v (.int .i64 kd),.v (.int .i64 i),.v (.int .i64 0),.v (.slice none 0 0)],5,false⟩):FzP [j] η (.agg [.v (.int .i64 0),.sl j w 0 1]) (.agg (tmA (colT kd i))) :=
 FzP.agg rfl (fun k h h'=>match k,h with
  | 0,_=>FzP.pure rfl
  | 1,_=>FzP.row1 (by simp) hj rfl rfl (fun k h h'=>match k,h with
   | 0,_=>FzP.pure rfl
   | 1,_=>FzP.pure rfl
   | 2,_=>FzP.pure rfl
   | 3,_=>FzP.pure rfl
   | 4,_=>FzP.nil))
/-- LENGTH of a literal text or of a column. -/
def LenOk (x:GEx) (t:GTm):Prop:=x.op_=9∧∃ a:GEx,x.args_=[exA a]∧a.args_=[]∧((a.op_=1∧a.value_.kind_=2∧t=⟨((a.value_.text_.size:Nat):Int),[]⟩)∨(a.op_=2∧0≤a.index_∧t=colT 1 a.index_))
/-- The term of an operator. -/
structure BinOk (op:Int) (a b t:GTm):Prop where
 b6:B60 t
 cf:cfOk t
 len:t.parts_.length≤2 * max a.parts_.length b.parts_.length+1
 add:op=4→∀ ρ,tvL ρ (tmA t)=tvL ρ (tmA a)+tvL ρ (tmA b)
 sub:op=5→∀ ρ,tvL ρ (tmA t)=tvL ρ (tmA a) - tvL ρ (tmA b)
 mul:op=6→∀ ρ,tvL ρ (tmA t)=tvL ρ (tmA a) * tvL ρ (tmA b)
 dv:op=7∨op=8→b.parts_=[]∧1≤b.const_∧b.const_≤1000
 quo:op=7→∀ ρ,wr (ρ 2 0) (tvL ρ (tmA t))=wr (ρ 2 0) ((wr (ρ 2 0) (tvL ρ (tmA a))).fdiv b.const_)
 md:op=8→∀ ρ,∃ q,wr (ρ 2 0) q=wr (ρ 2 0) ((wr (ρ 2 0) (tvL ρ (tmA a))).fdiv b.const_)∧tvL ρ (tmA t)=tvL ρ (tmA a) - b.const_ * q
theorem BinOk.quo0 {op:Int} {a b t:GTm} (h:BinOk op a b t) (o:op=7) (ρ:Int→Int→Int) (hz:ρ 2 0=0):tvL ρ (tmA t)=(tvL ρ (tmA a)).fdiv b.const_:=by
 have:=h.quo o ρ; simpa only [wr,if_pos hz] using this
theorem BinOk.md0 {op:Int} {a b t:GTm} (h:BinOk op a b t) (o:op=8) (ρ:Int→Int→Int) (hz:ρ 2 0=0):tvL ρ (tmA t)=tvL ρ (tmA a) - b.const_ * (tvL ρ (tmA a)).fdiv b.const_:=by
 obtain ⟨q,h1,h2⟩:=h.md o ρ; simp only [wr,if_pos hz] at h1; rw [h2,h1]
theorem tv_const {b:GTm} (h:¬ ((b.parts_.length:Nat):Int) > 0) (ρ:Int→Int→Int):tvL ρ (tmA b)=b.const_:=by
 rw [tvL_tm,List.eq_nil_of_length_eq_zero (by omega:b.parts_.length=0)]; simp [sumP]
section
variable {op:Int} {a b t s u:GTm}
theorem bin4 (h:op=4) (h1:B60 t∧cfOk t∧t.parts_.length≤a.parts_.length+b.parts_.length∧∀ ρ,tvL ρ (tmA t)=tvL ρ (tmA a)+tvL ρ (tmA b)):BinOk op a b t:=by
 subst h; exact ⟨h1.1,h1.2.1,by omega,fun _=>h1.2.2.2,by omega,by omega,by omega,by omega,by omega⟩
theorem bin5 (h:op=5) (h0:B60 s∧cfOk s∧s.parts_.length≤b.parts_.length∧∀ ρ,tvL ρ (tmA s)=-1 * tvL ρ (tmA b)) (h1:B60 t∧cfOk t∧t.parts_.length≤a.parts_.length+s.parts_.length∧∀ ρ,tvL ρ (tmA t)=tvL ρ (tmA a)+tvL ρ (tmA s)):BinOk op a b t:=by
 subst h; exact ⟨h1.1,h1.2.1,by omega,by omega,fun _ ρ=>by rw [h1.2.2.2 ρ,h0.2.2.2 ρ]; omega,by omega,by omega,by omega,by omega⟩
theorem bin6a (h:op=6) (hz:¬ ((a.parts_.length:Nat):Int) > 0) (h1:B60 t∧cfOk t∧t.parts_.length≤b.parts_.length∧∀ ρ,tvL ρ (tmA t)=a.const_ * tvL ρ (tmA b)):BinOk op a b t:=by
 subst h; exact ⟨h1.1,h1.2.1,by omega,by omega,by omega,fun _ ρ=>by rw [h1.2.2.2 ρ,tv_const hz],by omega,by omega,by omega⟩
theorem bin6b (h:op=6) (hz:¬ ((b.parts_.length:Nat):Int) > 0) (h1:B60 t∧cfOk t∧t.parts_.length≤a.parts_.length∧∀ ρ,tvL ρ (tmA t)=b.const_ * tvL ρ (tmA a)):BinOk op a b t:=by
 subst h; exact ⟨h1.1,h1.2.1,by omega,by omega,by omega,fun _ ρ=>by rw [h1.2.2.2 ρ,tv_const hz,Int.mul_comm],by omega,by omega,by omega⟩
theorem bin7 (h:op=7) (hz:¬ ((b.parts_.length:Nat):Int) > 0) (h1:DivOk a t b.const_):BinOk op a b t:=by
 subst h; obtain ⟨h1,h2,h3,h4,h5⟩:=h1
 exact ⟨h2,h3,by omega,by omega,by omega,by omega,fun _=>⟨List.eq_nil_of_length_eq_zero (by omega),h1.1,h1.2⟩,fun _=>h5,by omega⟩
theorem bin8 (h:op=8) (hz:¬ ((b.parts_.length:Nat):Int) > 0) (h1:DivOk a s b.const_) (h2:B60 u∧cfOk u∧u.parts_.length≤s.parts_.length∧∀ ρ,tvL ρ (tmA u)=-b.const_ * tvL ρ (tmA s)) (h3:B60 t∧cfOk t∧t.parts_.length≤a.parts_.length+u.parts_.length∧∀ ρ,tvL ρ (tmA t)=tvL ρ (tmA a)+tvL ρ (tmA u)):BinOk op a b t:=by
 subst h; obtain ⟨g1,g2,g3,g4,g5⟩:=h1
 exact ⟨h3.1,h3.2.1,by omega,by omega,by omega,by omega,fun _=>⟨List.eq_nil_of_length_eq_zero (by omega),g1.1,g1.2⟩,by omega,fun _ ρ=>⟨_,g5 ρ,by rw [h3.2.2.2 ρ,h2.2.2.2 ρ,Int.neg_mul]; omega⟩⟩
end
set_option maxRecDepth 100000 in
set_option maxHeartbeats 4000000 in
theorem length_w (x:GEx) (hx:FitEx x):PRet Tryz.prog 164 [.agg (exA x)] (fun r=>∃ (t:GTm) (b:Bool),r=.tup [.agg (tmA t),.v (.bool b)]∧FitTm t∧(b=true→LenOk x t)):=by
 refine PRet.of_vc infOk [] [] Tryz.func164 rfl Tryz.ntmps164 rfl (by kernel_rfl) ?_
 refine cB (fun hg8=>?_) (fun hg8=>?_)
 ·have hq8:¬ ((x.op_:Int)=(9:Int)):=by simpa using hg8
  refine cT (cT ?_)
  refine ⟨.inr rfl,_,Outs.two Tryz.results164 (OutR.cellN Tryz.f164 row72 rfl rfl rfl rfl rfl ⟨_,FzP.zt (fp:=[])⟩) (OutR.tmp ⟨[],FzP.pure rfl⟩),?_⟩
  exact ⟨⟨0,[]⟩,false,rfl,zt_fit,fun h=>absurd h Bool.false_ne_true⟩
 have hq8:(x.op_:Int)=(9:Int):=by simpa using hg8
 refine LenG.of (cB (fun hg14=>?_) (fun hg14=>?_))
 ·have hq14:¬ (((x.args_.length:Nat):Int)=(1:Int)):=by simpa using hg14
  exact cT ⟨.inr rfl,_,Outs.two Tryz.results164 (OutR.cellN Tryz.f164 row72 rfl rfl rfl rfl rfl ⟨_,FzP.zt (fp:=[])⟩) (OutR.tmp ⟨[],FzP.pure rfl⟩),⟨⟨0,[]⟩,false,rfl,zt_fit,fun h=>absurd h Bool.false_ne_true⟩⟩
 have hq14:((x.args_.length:Nat):Int)=(1:Int):=by simpa using hg14
 obtain ⟨a0,he_a0,ha0⟩:=openAt hx 0 (by omega)
 refine IdxG.as (j:=0) (by omega) he_a0 (LenG.of ?_)
 refine cB (fun hc22=>?_) (fun hc22=>?_)
 ·have hq22:¬ (((a0.args_.length:Nat):Int)=(0:Int)):=by simpa using hc22
  refine ⟨.inr rfl,_,Outs.two Tryz.results164 (OutR.cellN Tryz.f164 row72 rfl rfl rfl rfl rfl ⟨_,FzP.zt (fp:=[])⟩) (OutR.tmp ⟨[],FzP.pure rfl⟩),?_⟩
  exact ⟨⟨0,[]⟩,false,rfl,zt_fit,fun h=>absurd h Bool.false_ne_true⟩
 have hq22:((a0.args_.length:Nat):Int)=(0:Int):=by simpa using hc22
 refine IdxG.as (j:=0) (by omega) he_a0 (cB (fun hg31=>?_) (fun hg31=>?_))
 ·have hq31:(a0.op_:Int)=(1:Int):=by simpa using hg31
  refine cB (fun hc36=>?_) (fun hc36=>?_)
  ·have hq36:(a0.value_.kind_:Int)=(2:Int):=by simpa using hc36
   refine ⟨.inr rfl,_,Outs.two Tryz.results164 (OutR.cellN Tryz.f164 row72 rfl rfl rfl rfl rfl ⟨_,FzP.ct (fp:=[]) _⟩) (OutR.tmp ⟨[],FzP.pure rfl⟩),?_⟩
   exact ⟨⟨_,[]⟩,true,rfl,isTm_small,fun _=>⟨by assumption,a0,one_list (by assumption) he_a0,by simpa using (by assumption:((a0.args_.length:Nat):Int)=0),.inl ⟨by assumption,by simp_all,rfl⟩⟩⟩
  have hq36:¬ ((a0.value_.kind_:Int)=(2:Int)):=by simpa using hc36
  refine cB (fun hg45=>?_) (fun hg45=>?_)
  ·have hq45:(a0.op_:Int)=(2:Int):=by simpa using hg45
   refine cB (fun hc49=>?_) (fun hc49=>?_)
   ·have hq49:(a0.index_:Int)≥(0:Int):=of_decide_eq_true hc49
    refine ⟨.inr rfl,_,Outs.two Tryz.results164 (OutR.cellN Tryz.f164 row72 rfl rfl rfl rfl rfl ⟨_,FzP.col rfl⟩) (OutR.tmp ⟨[],FzP.pure rfl⟩),?_⟩
    exact ⟨colT 1 _,true,rfl,col_fit (by decide),fun _=>⟨by assumption,a0,one_list (by assumption) he_a0,by simpa using (by assumption:((a0.args_.length:Nat):Int)=0),.inr ⟨by assumption,by simp_all,rfl⟩⟩⟩
   have hq49:¬ ((a0.index_:Int)≥(0:Int)):=of_decide_eq_false hc49
   refine ⟨.inr rfl,_,Outs.two Tryz.results164 (OutR.cellN Tryz.f164 row72 rfl rfl rfl rfl rfl ⟨_,FzP.zt (fp:=[])⟩) (OutR.tmp ⟨[],FzP.pure rfl⟩),?_⟩
   exact ⟨⟨0,[]⟩,false,rfl,zt_fit,fun h=>absurd h Bool.false_ne_true⟩
  have hq45:¬ ((a0.op_:Int)=(2:Int)):=by simpa using hg45
  exact cF ⟨.inr rfl,_,Outs.two Tryz.results164 (OutR.cellN Tryz.f164 row72 rfl rfl rfl rfl rfl ⟨_,FzP.zt (fp:=[])⟩) (OutR.tmp ⟨[],FzP.pure rfl⟩),⟨⟨0,[]⟩,false,rfl,zt_fit,fun h=>absurd h Bool.false_ne_true⟩⟩
 have hq31:¬ ((a0.op_:Int)=(1:Int)):=by simpa using hg31
 refine cF (cB (fun hg45=>?_) (fun hg45=>?_))
 ·have hq45:(a0.op_:Int)=(2:Int):=by simpa using hg45
  refine cB (fun hc49=>?_) (fun hc49=>?_)
  ·have hq49:(a0.index_:Int)≥(0:Int):=of_decide_eq_true hc49
   refine ⟨.inr rfl,_,Outs.two Tryz.results164 (OutR.cellN Tryz.f164 row72 rfl rfl rfl rfl rfl ⟨_,FzP.col rfl⟩) (OutR.tmp ⟨[],FzP.pure rfl⟩),?_⟩
   exact ⟨colT 1 _,true,rfl,col_fit (by decide),fun _=>⟨by assumption,a0,one_list (by assumption) he_a0,by simpa using (by assumption:((a0.args_.length:Nat):Int)=0),.inr ⟨by assumption,by simp_all,rfl⟩⟩⟩
  have hq49:¬ ((a0.index_:Int)≥(0:Int)):=of_decide_eq_false hc49
  refine ⟨.inr rfl,_,Outs.two Tryz.results164 (OutR.cellN Tryz.f164 row72 rfl rfl rfl rfl rfl ⟨_,FzP.zt (fp:=[])⟩) (OutR.tmp ⟨[],FzP.pure rfl⟩),?_⟩
  exact ⟨⟨0,[]⟩,false,rfl,zt_fit,fun h=>absurd h Bool.false_ne_true⟩
 have hq45:¬ ((a0.op_:Int)=(2:Int)):=by simpa using hg45
 exact cF ⟨.inr rfl,_,Outs.two Tryz.results164 (OutR.cellN Tryz.f164 row72 rfl rfl rfl rfl rfl ⟨_,FzP.zt (fp:=[])⟩) (OutR.tmp ⟨[],FzP.pure rfl⟩),⟨⟨0,[]⟩,false,rfl,zt_fit,fun h=>absurd h Bool.false_ne_true⟩⟩
end Go.Proofs.YtjdblmpkeilbaaaGreatDoor
namespace Go.Proofs.YtjdblmpkeilbaaaGreatDoor
set_option linter.unusedVariables false
set_option linter.unusedSimpArgs false
open Go.RowKit
set_option maxRecDepth 100000 in
set_option maxHeartbeats 4000000 in
theorem binary_p (op:Int) (a:GTm) (ha:FitTm a) (b:GTm) (hb:FitTm b) (hop:4≤op∧op≤8) (h6a:B60 a) (hca:cfOk a) (hcb:cfOk b) (hla:a.parts_.length≤50000) (hlb:b.parts_.length≤50000):PRet Tryz.prog 167 [.v (.int .i64 op),.agg (tmA a),.agg (tmA b)] (fun r=>∃ (t:GTm) (e:Int),r=.tup [.agg (tmA t),.v (.int .i64 e)]∧FitTm t∧(e=0→BinOk op a b t)):=by
 have hka:=hca.1
 have hkb:=hcb.1
 refine PRet.of_vc infOk [96] [] Tryz.func167 rfl Tryz.ntmps167 rfl (by kernel_rfl) (cE (fun hq14=>?_) (fun hq14=>?_))
 refine ArgG.mk (add_p a ha b hb hca hcb (by omega) (by omega)) rfl ?_
 rintro _ ⟨t0,e0,rfl,ht0,he0⟩
 exact ⟨.inr rfl,_,Outs.two Tryz.results167 (OutR.cellN Tryz.f167 row72 rfl rfl rfl rfl rfl ⟨_,FzP.pure (fp:=[]) rfl⟩) (OutR.tmp ⟨[],FzP.pure rfl⟩),⟨_,_,rfl,ht0,fun h=>bin4 (by omega) (he0 h)⟩⟩
 refine cE (fun hq21=>?_) (fun hq21=>?_)
 refine ArgG.mk (scale_p b hb (-1) (by omega)) rfl ?_
 rintro _ ⟨t1,e1,rfl,ht1,he1⟩
 refine cB (fun hc29=>?_) (fun hc29=>?_)
 ·have hq29:¬ ((e1:Int)=(0:Int)):=by simpa using hc29
  exact ⟨.inr rfl,_,Outs.two Tryz.results167 (OutR.cellN Tryz.f167 row72 rfl rfl rfl rfl rfl ⟨_,FzP.zt (fp:=[])⟩) (OutR.tmp ⟨[],FzP.pure rfl⟩),⟨_,_,rfl,zt_fit,fun h=>absurd h (by assumption)⟩⟩
 ·have hq29:(e1:Int)=(0:Int):=by simpa using hc29
  have hs1:=he1 (by simpa using hc29)
  refine ArgG.mk (add_p a ha t1 ht1 hca hs1.2.1 (by omega) (by have:=hs1.2.2.1; omega)) rfl ?_
  rintro _ ⟨t2,e2,rfl,ht2,he2⟩
  exact ⟨.inr rfl,_,Outs.two Tryz.results167 (OutR.cellN Tryz.f167 row72 rfl rfl rfl rfl rfl ⟨_,FzP.pure (fp:=[]) rfl⟩) (OutR.tmp ⟨[],FzP.pure rfl⟩),⟨_,_,rfl,ht2,fun h=>bin5 (by omega) hs1 (he2 h)⟩⟩
 refine cE (fun hq37=>?_) (fun hq37=>?_)
 ·refine LenG.of (cD (fun hq43=>?_) (fun hq43=>?_))
  ·refine LenG.of (cD (fun hq48=>?_) (fun hq48=>?_))
   ·exact ⟨.inr rfl,_,Outs.two Tryz.results167 (OutR.cellN Tryz.f167 row72 rfl rfl rfl rfl rfl ⟨_,FzP.zt (fp:=[])⟩) (OutR.tmp ⟨[],FzP.pure rfl⟩),⟨_,_,rfl,zt_fit,fun h=>absurd h (by decide)⟩⟩
   refine LenG.of (cD (fun hq53=>?_) (fun hq53=>?_))
   ·refine ArgG.mk (scale_p b hb a.const_ (by omega)) rfl ?_
    rintro _ ⟨t3,e3,rfl,ht3,he3⟩
    exact ⟨.inr rfl,_,Outs.two Tryz.results167 (OutR.cellN Tryz.f167 row72 rfl rfl rfl rfl rfl ⟨_,FzP.pure (fp:=[]) rfl⟩) (OutR.tmp ⟨[],FzP.pure rfl⟩),⟨_,_,rfl,ht3,fun h=>bin6a (by omega) (by omega) (he3 h)⟩⟩
   refine ArgG.mk (scale_p a ha b.const_ (by omega)) rfl ?_
   rintro _ ⟨t4,e4,rfl,ht4,he4⟩
   exact ⟨.inr rfl,_,Outs.two Tryz.results167 (OutR.cellN Tryz.f167 row72 rfl rfl rfl rfl rfl ⟨_,FzP.pure (fp:=[]) rfl⟩) (OutR.tmp ⟨[],FzP.pure rfl⟩),⟨_,_,rfl,ht4,fun h=>bin6b (by omega) (by omega) (he4 h)⟩⟩
  refine cF (LenG.of ?_)
  refine cD (fun hq53=>?_) (fun hq53=>?_)
  ·refine ArgG.mk (scale_p b hb a.const_ (by omega)) rfl ?_
   rintro _ ⟨t5,e5,rfl,ht5,he5⟩
   exact ⟨.inr rfl,_,Outs.two Tryz.results167 (OutR.cellN Tryz.f167 row72 rfl rfl rfl rfl rfl ⟨_,FzP.pure (fp:=[]) rfl⟩) (OutR.tmp ⟨[],FzP.pure rfl⟩),⟨_,_,rfl,ht5,fun h=>bin6a (by omega) (by omega) (he5 h)⟩⟩
  refine ArgG.mk (scale_p a ha b.const_ (by omega)) rfl ?_
  rintro _ ⟨t6,e6,rfl,ht6,he6⟩
  exact ⟨.inr rfl,_,Outs.two Tryz.results167 (OutR.cellN Tryz.f167 row72 rfl rfl rfl rfl rfl ⟨_,FzP.pure (fp:=[]) rfl⟩) (OutR.tmp ⟨[],FzP.pure rfl⟩),⟨_,_,rfl,ht6,fun h=>bin6b (by omega) (by omega) (he6 h)⟩⟩
 refine LenG.of (cD (fun hq70=>?_) (fun hq70=>?_))
 ·exact cT ⟨.inr rfl,_,Outs.two Tryz.results167 (OutR.cellN Tryz.f167 row72 rfl rfl rfl rfl rfl ⟨_,FzP.zt (fp:=[])⟩) (OutR.tmp ⟨[],FzP.pure rfl⟩),⟨_,_,rfl,zt_fit,fun h=>absurd h (by decide)⟩⟩
 refine ArgG.mk (within_p b.const_ 1 1000) rfl ?_
 rintro _ ⟨b7,rfl,hb7⟩
 refine cB (fun hc75=>?_) (fun hc75=>?_)
 ·exact ⟨.inr rfl,_,Outs.two Tryz.results167 (OutR.cellN Tryz.f167 row72 rfl rfl rfl rfl rfl ⟨_,FzP.zt (fp:=[])⟩) (OutR.tmp ⟨[],FzP.pure rfl⟩),⟨_,_,rfl,zt_fit,fun h=>absurd h (by decide)⟩⟩
 refine ArgG.mk (div_p a ha b.const_ h6a hca) rfl ?_
 rintro _ ⟨t8,e8,rfl,ht8,he8⟩
 refine cB (fun hg86=>?_) (fun hg86=>?_)
 ·have hq86:¬ ((e8:Int)=(0:Int)):=by simpa using hg86
  exact cT ⟨.inr rfl,_,Outs.two Tryz.results167 (OutR.cellN Tryz.f167 row72 rfl rfl rfl rfl rfl ⟨_,FzP.pure (fp:=[]) rfl⟩) (OutR.tmp ⟨[],FzP.pure rfl⟩),⟨_,_,rfl,ht8,fun h=>absurd h (by assumption)⟩⟩
 have hq86:(e8:Int)=(0:Int):=by simpa using hg86
 have hd:=he8 (by simpa using hg86)
 refine cE (fun hq89=>?_) (fun hq89=>?_)
 ·exact ⟨.inr rfl,_,Outs.two Tryz.results167 (OutR.cellN Tryz.f167 row72 rfl rfl rfl rfl rfl ⟨_,FzP.pure (fp:=[]) rfl⟩) (OutR.tmp ⟨[],FzP.pure rfl⟩),⟨_,_,rfl,ht8,fun h=>bin7 (by omega) (by omega) (he8 h)⟩⟩
 refine OpG.lk (LOp.negI rfl (by omega) (by omega)) (ArgG.mk (scale_p t8 ht8 (-b.const_) (by have:=hd.2.2.2.1; omega)) rfl ?_)
 rintro _ ⟨t9,e9,rfl,ht9,he9⟩
 refine cB (fun hc101=>?_) (fun hc101=>?_)
 ·have hq101:¬ ((e9:Int)=(0:Int)):=by simpa using hc101
  exact ⟨.inr rfl,_,Outs.two Tryz.results167 (OutR.cellN Tryz.f167 row72 rfl rfl rfl rfl rfl ⟨_,FzP.zt (fp:=[])⟩) (OutR.tmp ⟨[],FzP.pure rfl⟩),⟨_,_,rfl,zt_fit,fun h=>absurd h (by assumption)⟩⟩
 have hq101:(e9:Int)=(0:Int):=by simpa using hc101
 have hs7:=he9 (by simpa using hc101)
 refine ArgG.mk (add_p a ha t9 ht9 hca hs7.2.1 (by omega) (by have:=hs7.2.2.1; have:=hd.2.2.2.1; omega)) rfl ?_
 rintro _ ⟨t10,e10,rfl,ht10,he10⟩
 exact ⟨.inr rfl,_,Outs.two Tryz.results167 (OutR.cellN Tryz.f167 row72 rfl rfl rfl rfl rfl ⟨_,FzP.pure (fp:=[]) rfl⟩) (OutR.tmp ⟨[],FzP.pure rfl⟩),⟨_,_,rfl,ht10,fun h=>bin8 (by omega) (by omega) hd hs7 (he10 h)⟩⟩
end Go.Proofs.YtjdblmpkeilbaaaGreatDoor
namespace Go.Proofs.YtjdblmpkeilbaaaGreatDoor
set_option linter.unusedVariables false
set_option linter.unusedSimpArgs false
open Go.RowKit
theorem row_tmA:RowF tmA 2:=⟨fun _=>rfl,fun _=>rfl,fun _ _=>rfl,fun _ _=>rfl,fun _ _=>rfl,fun _=>rfl⟩
/-- What the term of an expression is. -/
inductive OfR:List AV→GTm→Prop
 | len (x:GEx) (t:GTm) (h:LenOk x t) (h6:B60 t):OfR (exA x) t
 | lit (x:GEx) (h:x.op_=1) (ha:x.args_=[]) (hk:x.value_.kind_=1) (h6:B60 ⟨x.value_.int_,[]⟩):OfR (exA x) ⟨x.value_.int_,[]⟩
 | col (x:GEx) (h:x.op_=2) (ha:x.args_=[]) (hi:0≤x.index_) (h6:B60 (colT 0 x.index_)):OfR (exA x) (colT 0 x.index_)
 | neg (x:GEx) (r:List AV) (s t:GTm) (h:x.op_=3) (ha:x.args_=[r]) (hr:OfR r s) (ht:∀ ρ,tvL ρ (tmA t)=-1 * tvL ρ (tmA s)) (h6:B60 t):OfR (exA x) t
 | bin (x:GEx) (r q:List AV) (a b t:GTm) (h:4≤x.op_∧x.op_≤8) (ha:x.args_=[r,q]) (hr:OfR r a) (hq:OfR q b) (ht:BinOk x.op_ a b t):OfR (exA x) t
theorem OfR.b6 {r:List AV} {t:GTm} (h:OfR r t):B60 t:=by
 cases h with
 | len x t h h6=>exact h6
 | lit x h ha hk h6=>exact h6
 | col x h ha hi h6=>exact h6
 | neg x r s t h ha hr ht h6=>exact h6
 | bin x r q a b t h ha hr hq ht=>exact ht.b6
/-- .. and that it is small; d: how deep the expression is nested. -/
def OfP (d:Nat) (r:List AV) (t:GTm):Prop:=OfR r t∧B60 t∧cfOk t∧t.parts_.length+1≤2 ^ (d+1)
theorem pow12 {d:Nat} (h:d≤12):2 ^ (d+1)≤8192:=Nat.pow_le_pow_right (by decide) (by omega:d+1≤13)
theorem two_le {d:Nat}:2≤2 ^ (d+1):=by
 have:=Nat.pow_le_pow_right (by decide:0 < 2) (by omega:1≤d+1)
 simpa using this
theorem of_snoc {P:List AV→GTm→Prop} {L:List GTm} {rs:List (List AV)} {t:GTm} {n:Nat} (h:∀ j (hl:j < L.length) (h2:j < rs.length),P rs[j] L[j]) (hL:L.length=n) (hn:n < rs.length) (ht:P rs[n] t):∀ j (hl:j < (L++[t]).length) (h2:j < rs.length),P rs[j] (L++[t])[j]:=by
 intro j hl h2
 by_cases e:j < L.length
 ·rw [List.getElem_append_left e]; exact h j e h2
 have e2:j=n:=by simp at hl; omega
 subst e2
 rw [List.getElem_append_right (by omega)]
 simpa [hL] using ht
section
variable {x:GEx} {d:Nat} {t s:GTm} {k:Nat} {L:List GTm}
theorem ofLen (h:LenOk x s) (h1:t=s∧B60 s∧cfOk s):OfP (d+1) (exA x) t:=by
 obtain ⟨rfl,h2,h3⟩:=h1
 refine ⟨.len x t h h2,h2,h3,?_⟩
 obtain ⟨_,a,_,_,⟨_,_,e⟩ | ⟨_,_,e⟩⟩:=h
 ·rw [e]; exact Nat.le_trans (by show 0+1≤2; decide) (two_le (d:=d+1))
 rw [e]; exact two_le (d:=d+1)
theorem ofLit (h:x.op_=1) (hL:L.length=k) (hge:¬ k < x.args_.length) (hz:((L.length:Nat):Int)=0) (hle:k≤x.args_.length) (hk:x.value_.kind_=1) (h1:t=⟨x.value_.int_,[]⟩∧B60 ⟨x.value_.int_,[]⟩∧cfOk ⟨x.value_.int_,[]⟩):OfP (d+1) (exA x) t:=by
 obtain ⟨rfl,h2,h3⟩:=h1
 exact ⟨.lit x h (List.eq_nil_of_length_eq_zero (by omega)) hk h2,h2,h3,Nat.le_trans (by show 0+1≤2; decide) (two_le (d:=d+1))⟩
theorem ofCol (h:x.op_=2) (hL:L.length=k) (hge:¬ k < x.args_.length) (hz:((L.length:Nat):Int)=0) (hi:¬ x.index_ < 0):OfP (d+1) (exA x) (colT 0 x.index_):=by
 have h6:B60 (colT 0 x.index_):=fun ρ hρ=>by
  have:=(hρ x.index_).1 0
  rw [tvL_tm]
  simp [colT,sumP,valP,keyV]
  omega
 exact ⟨.col x h (List.eq_nil_of_length_eq_zero (by omega)) (by omega) h6,h6,⟨⟨by show -1099511627776≤(0:Int); decide,by show (0:Int)≤_; decide⟩,fun p hp=>by rw [List.mem_singleton.1 hp]; exact ⟨by show -1048576≤(1:Int); decide,by show (1:Int)≤_; decide⟩⟩,two_le (d:=d+1)⟩
theorem ofNeg (h:x.op_=3) (hL:L.length=k) (hge:¬ k < x.args_.length) (hle:k≤x.args_.length) (hz:((L.length:Nat):Int)=1) (hi:∀ j (hl:j < L.length) (h2:j < x.args_.length),OfP d x.args_[j] L[j]) (h1:B60 t∧cfOk t∧t.parts_.length≤(L[0]'(by omega)).parts_.length∧∀ ρ,tvL ρ (tmA t)=-1 * tvL ρ (tmA (L[0]'(by omega)))):OfP (d+1) (exA x) t:=by
 have h0:=hi 0 (by omega) (by omega)
 have hp:2 ^ (d+1)≤2 ^ (d+1+1):=Nat.pow_le_pow_right (by decide) (by omega)
 exact ⟨.neg x _ _ t h (one_list (by omega) rfl) h0.1 h1.2.2.2 h1.1,h1.1,h1.2.1,by have:=h0.2.2.2; have:=h1.2.2.1; omega⟩
theorem two_list {α:Type} {l:List α} (h:l.length=2):l=[l[0]'(by omega),l[1]'(by omega)]:=by
 match l,h with
 | [a,b],_=>rfl
theorem ofBin (h:4≤x.op_∧x.op_≤8) (hL:L.length=k) (hge:¬ k < x.args_.length) (hle:k≤x.args_.length) (hz:((L.length:Nat):Int)=2) (hi:∀ j (hl:j < L.length) (h2:j < x.args_.length),OfP d x.args_[j] L[j]) (h1:BinOk x.op_ (L[0]'(by omega)) (L[1]'(by omega)) t):OfP (d+1) (exA x) t:=by
 have h0:=hi 0 (by omega) (by omega)
 have h2:=hi 1 (by omega) (by omega)
 have hp:2 ^ (d+1+1)=2 * 2 ^ (d+1):=by rw [Nat.pow_succ]; omega
 exact ⟨.bin x _ _ _ _ t h (two_list (by omega)) h0.1 h2.1 h1,h1.b6,h1.cf,by have:=h0.2.2.2; have:=h2.2.2.2; have:=h1.len; omega⟩
end
theorem isSh_open {d:Nat} {x:GEx} (h:IsSh d (exA x)):∃ d',d=d'+1∧x.args_.length≤2∧∀ r∈x.args_,IsSh d' r:=by
 generalize e:exA x=r at h
 cases h with
 | mk y h1 h2=>rw [exA_inj e]; exact ⟨_,rfl,h1,h2⟩
theorem by72:(Tryz.prog.info? 72).map (·.bytes)=some 32:=by kernel_rfl
theorem sz72:sizeInfo Tryz.prog 72=some 2:=by kernel_rfl
theorem zr72:zeroOf Tryz.prog 72=some (.agg #[.int .i64 0,.slice none 0 0]):=by kernel_rfl
set_option maxRecDepth 100000 in
set_option maxHeartbeats 4000000 in
theorem of_w (x:GEx) (hx:FitEx x) (d:Nat) (hd:d≤11) (hsh:x.args_.length≤2) (ih:∀ r∈x.args_,PRet Tryz.prog 136 [.agg (rwA r)] (fun q=>∃ (t:GTm) (e:Int),q=.tup [.agg (tmA t),.v (.int .i64 e)]∧FitTm t∧(e=0→OfP d r t))):PRet Tryz.prog 136 [.agg (exA x)] (fun q=>∃ (t:GTm) (e:Int),q=.tup [.agg (tmA t),.v (.int .i64 e)]∧FitTm t∧(e=0→OfP (d+1) (exA x) t)):=by
 have hpw:=pow12 (d:=d) (by omega)
 refine PRet.of_vc infOk [32,62] [12] Tryz.func136 rfl Tryz.ntmps136 rfl (by kernel_rfl) ?_
 refine ArgG.mk (length_w x hx) rfl ?_
 rintro _ ⟨t0,b0,rfl,ht0,he0⟩
 refine cB (fun hc15=>?_) (fun hc15=>?_)
 ·refine ArgG.mk (limited_p t0 ht0) rfl ?_
  rintro _ ⟨t1,e1,rfl,ht1,he1⟩
  refine ⟨.inr rfl,_,Outs.two Tryz.results136 (OutR.cellN Tryz.f136 row72 rfl rfl rfl rfl rfl ⟨_,FzP.pure (fp:=[]) rfl⟩) (OutR.tmp ⟨[],FzP.pure rfl⟩),?_⟩
  exact ⟨_,_,rfl,ht1,fun h=>ofLen (he0 (by assumption)) (he1 h)⟩
 refine LpG.via (fun _ h=>AWP.lazyT 6 2 rfl 4 rfl h) ?_
 refine LpG.on (fun k0:KL GTm=>(⟨fL [(1,.ptr 0 0 0),(2,.ptr 1 0 0),(6,.sl 3 k0.L.length 0 k0.L.length),(7,.v (.int .i64 ((k0.k:Nat):Int)))],hLz [(0,⟨0,exA x,0,false⟩),(1,⟨0,[.v (.int .i64 0),.v (.slice none 0 0)],0,false⟩),(3,⟨k0.L.length,rF tmA k0.L,2,Nat.beq k0.L.length 0⟩)],4⟩:St)) (fun k0=>(x.args_.length - k0.k)) (fun k0=>(k0.k≤x.args_.length∧k0.L.length=k0.k∧(∀ x∈k0.L,FitTm x)∧(∀ j (hl:j < k0.L.length) (h2:j < x.args_.length),OfP d x.args_[j] k0.L[j]))) (⟨0,[]⟩:KL GTm) (cO (.cons rfl rfl (.cons rfl rfl (.cons (by rfl) rfl (.cons rfl rfl .nil)))) (.cons rfl rfl rfl (.cons rfl rfl rfl (.cons (by rfl) rfl (rF_low row_tmA _ _) .nil)))) ⟨Nat.zero_le _,rfl,by simp,by simp⟩ ?_
 rintro k0 hinv
 have hgr_k0:x.args_.length≤140737488355328:=hx.args_.1
 obtain ⟨hle_k0,hL_k0,hf_k0,hi_k0⟩:=hinv
 refine LenG.of (cB (fun hc24=>?_) (fun hc24=>?_))
 ·have hlt24:k0.k < x.args_.length:=Int.ofNat_lt.1 (of_decide_eq_true hc24)
  refine IdxG.of (by assumption) (OpG.lk (LOp.ldTN row32 rfl (exTake (hx.args_.2 _ (List.getElem_mem _)))) ?_)
  refine ArgG.mk (ih x.args_[k0.k] (List.getElem_mem _)) (show pureL [.agg (rwA x.args_[k0.k])]=true by simp [pureL,AV.pureB,exPure (hx.args_.2 _ (List.getElem_mem _))]) ?_
  rintro _ ⟨t2,e2,rfl,ht2,he2⟩
  refine cB (fun hc37=>?_) (fun hc37=>?_)
  ·have hq37:¬ ((e2:Int)=(0:Int)):=by simpa using hc37
   refine ⟨.inr rfl,_,Outs.two Tryz.results136 (OutR.cellN Tryz.f136 row72 rfl rfl rfl rfl rfl ⟨_,FzP.zt (fp:=[])⟩) (OutR.tmp ⟨[],FzP.pure rfl⟩),?_⟩
   exact ⟨_,_,rfl,zt_fit,fun h=>absurd h (by assumption)⟩
  have hq37:(e2:Int)=(0:Int):=by simpa using hc37
  refine OpG.mk _ _ _ 6 (LOp.appRow row_tmA (a:=t2) Tryz.underlying67 sz72 zr72 by72 rfl rfl rfl (Src.slB rfl rfl rfl rfl) rfl (by omega) (by omega) (by unfold TV; omega)) rfl rfl ?_
  refine ⟨by omega,?_⟩
  refine ⟨(⟨k0.k+1,k0.L++[t2]⟩:KL GTm),(by show x.args_.length - (k0.k+1) < x.args_.length - k0.k; omega),(cO (.cons rfl rfl (.cons rfl rfl (.cons (by (rw [List.length_append]; rfl)) rfl (.cons rfl rfl .nil)))) (.cons rfl rfl rfl (.cons rfl rfl rfl (.cons (by (rw [List.length_append]; rfl)) rfl (rF_low row_tmA _ _) .nil)))),?_⟩
  refine ⟨by show k0.k+1≤_; omega,by show (_++[_]).length=k0.k+1; rw [List.length_append,hL_k0]; rfl,fun y_ hy_=>(List.mem_append.1 hy_).elim (hf_k0 y_) (fun hy_=>by rw [List.mem_singleton.1 hy_]; exact ht2),?_⟩
  exact of_snoc hi_k0 hL_k0 hlt24 (he2 (by simpa using hc37))
 have hge24:¬ k0.k < x.args_.length:=fun h=>of_decide_eq_false hc24 (Int.ofNat_lt.2 h)
 refine RegG.via (fun _ h=>AWP.freeze [3] 6 (.tree 2 (k0.L.map tmA)) (FzP.rows row_tmA (List.mem_singleton.2 rfl) rfl) rfl h) ?_
 refine RegG.go ?_
 refine cB (fun hc46=>?_) (fun hc46=>?_)
 ·have hq46:(x.op_:Int)=(1:Int):=by simpa using hc46
  refine LenG.of (cB (fun hg51=>?_) (fun hg51=>?_))
  ·have hq51:¬ (((k0.L.length:Nat):Int)=(0:Int)):=by simpa using hg51
   exact cT ⟨.inr rfl,_,Outs.two Tryz.results136 (OutR.cellN Tryz.f136 row72 rfl rfl rfl rfl rfl ⟨_,FzP.zt (fp:=[])⟩) (OutR.tmp ⟨[],FzP.pure rfl⟩),⟨_,_,rfl,zt_fit,fun h=>absurd h (by decide)⟩⟩
  have hq51:((k0.L.length:Nat):Int)=(0:Int):=by simpa using hg51
  refine cB (fun hc56=>?_) (fun hc56=>?_)
  ·have hq56:¬ ((x.value_.kind_:Int)=(1:Int)):=by simpa using hc56
   refine ⟨.inr rfl,_,Outs.two Tryz.results136 (OutR.cellN Tryz.f136 row72 rfl rfl rfl rfl rfl ⟨_,FzP.zt (fp:=[])⟩) (OutR.tmp ⟨[],FzP.pure rfl⟩),?_⟩
   exact ⟨_,_,rfl,zt_fit,fun h=>absurd h (by decide)⟩
  have hq56:(x.value_.kind_:Int)=(1:Int):=by simpa using hc56
  obtain ⟨_,⟨t3,e3,rfl,ht3,he3⟩,hcl3⟩:=limited_p ⟨x.value_.int_,[]⟩ isTm_small
  refine OpG.lk (LOp.callF [] bod165 rfl (fun i h h'=>match i,h with | 0,_=>FzP.ct _) (fun id hid=>absurd hid (by simp)) hcl3) ?_
  refine ⟨.inr rfl,_,Outs.two Tryz.results136 (OutR.cellN Tryz.f136 row72 rfl rfl rfl rfl rfl ⟨_,FzP.pure (fp:=[]) rfl⟩) (OutR.tmp ⟨[],FzP.pure rfl⟩),?_⟩
  exact ⟨_,_,rfl,ht3,fun h=>ofLit (by assumption) hL_k0 hge24 (by assumption) hle_k0 (by assumption) (he3 h)⟩
 have hq46:¬ ((x.op_:Int)=(1:Int)):=by simpa using hc46
 refine cB (fun hc65=>?_) (fun hc65=>?_)
 ·have hq65:(x.op_:Int)=(2:Int):=by simpa using hc65
  refine LenG.of (cB (fun hg70=>?_) (fun hg70=>?_))
  ·have hq70:¬ (((k0.L.length:Nat):Int)=(0:Int)):=by simpa using hg70
   exact cT ⟨.inr rfl,_,Outs.two Tryz.results136 (OutR.cellN Tryz.f136 row72 rfl rfl rfl rfl rfl ⟨_,FzP.zt (fp:=[])⟩) (OutR.tmp ⟨[],FzP.pure rfl⟩),⟨_,_,rfl,zt_fit,fun h=>absurd h (by decide)⟩⟩
  have hq70:((k0.L.length:Nat):Int)=(0:Int):=by simpa using hg70
  refine cB (fun hc74=>?_) (fun hc74=>?_)
  ·have hq74:(x.index_:Int) < (0:Int):=of_decide_eq_true hc74
   refine ⟨.inr rfl,_,Outs.two Tryz.results136 (OutR.cellN Tryz.f136 row72 rfl rfl rfl rfl rfl ⟨_,FzP.zt (fp:=[])⟩) (OutR.tmp ⟨[],FzP.pure rfl⟩),?_⟩
   exact ⟨_,_,rfl,zt_fit,fun h=>absurd h (by decide)⟩
  have hq74:¬ ((x.index_:Int) < (0:Int)):=of_decide_eq_false hc74
  refine ⟨.inr rfl,_,Outs.two Tryz.results136 (OutR.cellN Tryz.f136 row72 rfl rfl rfl rfl rfl ⟨_,FzP.col rfl⟩) (OutR.tmp ⟨[],FzP.pure rfl⟩),?_⟩
  exact ⟨_,_,rfl,col_fit (by decide),fun h=>ofCol (by assumption) hL_k0 hge24 (by assumption) (by assumption)⟩
 have hq65:¬ ((x.op_:Int)=(2:Int)):=by simpa using hc65
 refine cB (fun hc81=>?_) (fun hc81=>?_)
 ·have hq81:(x.op_:Int)=(3:Int):=by simpa using hc81
  refine LenG.of (cB (fun hc85=>?_) (fun hc85=>?_))
  ·have hq85:((k0.L.length:Nat):Int)=(1:Int):=by simpa using hc85
   have g0:=hi_k0 0 (by omega) (by omega)
   refine IdxG.of (j:=0) (by omega) (ArgG.mk (scale_p k0.L[0] (hf_k0 _ (List.getElem_mem _)) (-1) (by have:=g0.2.2.2; omega)) rfl ?_)
   rintro _ ⟨t4,e4,rfl,ht4,he4⟩
   refine ⟨.inr rfl,_,Outs.two Tryz.results136 (OutR.cellN Tryz.f136 row72 rfl rfl rfl rfl rfl ⟨_,FzP.pure (fp:=[]) rfl⟩) (OutR.tmp ⟨[],FzP.pure rfl⟩),?_⟩
   exact ⟨_,_,rfl,ht4,fun h=>ofNeg (by assumption) hL_k0 hge24 hle_k0 (by assumption) hi_k0 (he4 h)⟩
  have hq85:¬ (((k0.L.length:Nat):Int)=(1:Int)):=by simpa using hc85
  refine ⟨.inr rfl,_,Outs.two Tryz.results136 (OutR.cellN Tryz.f136 row72 rfl rfl rfl rfl rfl ⟨_,FzP.zt (fp:=[])⟩) (OutR.tmp ⟨[],FzP.pure rfl⟩),?_⟩
  exact ⟨_,_,rfl,zt_fit,fun h=>absurd h (by decide)⟩
 have hq81:¬ ((x.op_:Int)=(3:Int)):=by simpa using hc81
 refine cB (fun hc92=>?_) (fun hc92=>?_)
 ·have hq92:(x.op_:Int)=(4:Int):=by simpa using hc92
  refine cB (fun hc92=>?_) (fun hc92=>?_)
  ·have hq92:(x.op_:Int)=(4:Int):=by simpa using hc92
   refine LenG.of (cB (fun hc100=>?_) (fun hc100=>?_))
   ·have hq100:((k0.L.length:Nat):Int)=(2:Int):=by simpa using hc100
    have g0:=hi_k0 0 (by omega) (by omega)
    have g1:=hi_k0 1 (by omega) (by omega)
    refine IdxG.of (j:=0) (by omega) (IdxG.of (j:=1) (by omega) ?_)
    refine ArgG.mk (binary_p x.op_ k0.L[0] (hf_k0 _ (List.getElem_mem _)) k0.L[1] (hf_k0 _ (List.getElem_mem _)) (by omega) g0.2.1 g0.2.2.1 g1.2.2.1 (by have:=g0.2.2.2; omega) (by have:=g1.2.2.2; omega)) rfl ?_
    rintro _ ⟨t5,e5,rfl,ht5,he5⟩
    refine ⟨by kernel_rfl,?_⟩
    refine ⟨.inr rfl,_,Outs.two Tryz.results136 (OutR.cellN Tryz.f136 row72 rfl rfl rfl rfl rfl ⟨_,FzP.pure (fp:=[]) rfl⟩) (OutR.tmp ⟨[],FzP.pure rfl⟩),?_⟩
    exact ⟨_,_,rfl,ht5,fun h=>ofBin (by omega) hL_k0 hge24 hle_k0 (by assumption) hi_k0 (he5 h)⟩
   have hq100:¬ (((k0.L.length:Nat):Int)=(2:Int)):=by simpa using hc100
   refine ⟨.inr rfl,_,Outs.two Tryz.results136 (OutR.cellN Tryz.f136 row72 rfl rfl rfl rfl rfl ⟨_,FzP.zt (fp:=[])⟩) (OutR.tmp ⟨[],FzP.pure rfl⟩),?_⟩
   exact ⟨_,_,rfl,zt_fit,fun h=>absurd h (by decide)⟩
  have hq92:¬ ((x.op_:Int)=(4:Int)):=by simpa using hc92
  refine ⟨.inr rfl,_,Outs.two Tryz.results136 (OutR.cellN Tryz.f136 row72 rfl rfl rfl rfl rfl ⟨_,FzP.zt (fp:=[])⟩) (OutR.tmp ⟨[],FzP.pure rfl⟩),?_⟩
  exact ⟨_,_,rfl,zt_fit,fun h=>absurd h (by decide)⟩
 have hq92:¬ ((x.op_:Int)=(4:Int)):=by simpa using hc92
 refine cB (fun hc92=>?_) (fun hc92=>?_)
 ·have hq92:(x.op_:Int)=(5:Int):=by simpa using hc92
  refine cB (fun hc92=>?_) (fun hc92=>?_)
  ·have hq92:(x.op_:Int)=(5:Int):=by simpa using hc92
   refine LenG.of (cB (fun hc100=>?_) (fun hc100=>?_))
   ·have hq100:((k0.L.length:Nat):Int)=(2:Int):=by simpa using hc100
    have g0:=hi_k0 0 (by omega) (by omega)
    have g1:=hi_k0 1 (by omega) (by omega)
    refine IdxG.of (j:=0) (by omega) (IdxG.of (j:=1) (by omega) ?_)
    refine ArgG.mk (binary_p x.op_ k0.L[0] (hf_k0 _ (List.getElem_mem _)) k0.L[1] (hf_k0 _ (List.getElem_mem _)) (by omega) g0.2.1 g0.2.2.1 g1.2.2.1 (by have:=g0.2.2.2; omega) (by have:=g1.2.2.2; omega)) rfl ?_
    rintro _ ⟨t6,e6,rfl,ht6,he6⟩
    refine ⟨by kernel_rfl,?_⟩
    refine ⟨.inr rfl,_,Outs.two Tryz.results136 (OutR.cellN Tryz.f136 row72 rfl rfl rfl rfl rfl ⟨_,FzP.pure (fp:=[]) rfl⟩) (OutR.tmp ⟨[],FzP.pure rfl⟩),?_⟩
    exact ⟨_,_,rfl,ht6,fun h=>ofBin (by omega) hL_k0 hge24 hle_k0 (by assumption) hi_k0 (he6 h)⟩
   have hq100:¬ (((k0.L.length:Nat):Int)=(2:Int)):=by simpa using hc100
   refine ⟨.inr rfl,_,Outs.two Tryz.results136 (OutR.cellN Tryz.f136 row72 rfl rfl rfl rfl rfl ⟨_,FzP.zt (fp:=[])⟩) (OutR.tmp ⟨[],FzP.pure rfl⟩),?_⟩
   exact ⟨_,_,rfl,zt_fit,fun h=>absurd h (by decide)⟩
  have hq92:¬ ((x.op_:Int)=(5:Int)):=by simpa using hc92
  refine ⟨.inr rfl,_,Outs.two Tryz.results136 (OutR.cellN Tryz.f136 row72 rfl rfl rfl rfl rfl ⟨_,FzP.zt (fp:=[])⟩) (OutR.tmp ⟨[],FzP.pure rfl⟩),?_⟩
  exact ⟨_,_,rfl,zt_fit,fun h=>absurd h (by decide)⟩
 have hq92:¬ ((x.op_:Int)=(5:Int)):=by simpa using hc92
 refine cB (fun hc92=>?_) (fun hc92=>?_)
 ·have hq92:(x.op_:Int)=(6:Int):=by simpa using hc92
  refine cB (fun hc92=>?_) (fun hc92=>?_)
  ·have hq92:(x.op_:Int)=(6:Int):=by simpa using hc92
   refine LenG.of (cB (fun hc100=>?_) (fun hc100=>?_))
   ·have hq100:((k0.L.length:Nat):Int)=(2:Int):=by simpa using hc100
    have g0:=hi_k0 0 (by omega) (by omega)
    have g1:=hi_k0 1 (by omega) (by omega)
    refine IdxG.of (j:=0) (by omega) (IdxG.of (j:=1) (by omega) ?_)
    refine ArgG.mk (binary_p x.op_ k0.L[0] (hf_k0 _ (List.getElem_mem _)) k0.L[1] (hf_k0 _ (List.getElem_mem _)) (by omega) g0.2.1 g0.2.2.1 g1.2.2.1 (by have:=g0.2.2.2; omega) (by have:=g1.2.2.2; omega)) rfl ?_
    rintro _ ⟨t7,e7,rfl,ht7,he7⟩
    refine ⟨by kernel_rfl,?_⟩
    refine ⟨.inr rfl,_,Outs.two Tryz.results136 (OutR.cellN Tryz.f136 row72 rfl rfl rfl rfl rfl ⟨_,FzP.pure (fp:=[]) rfl⟩) (OutR.tmp ⟨[],FzP.pure rfl⟩),?_⟩
    exact ⟨_,_,rfl,ht7,fun h=>ofBin (by omega) hL_k0 hge24 hle_k0 (by assumption) hi_k0 (he7 h)⟩
   have hq100:¬ (((k0.L.length:Nat):Int)=(2:Int)):=by simpa using hc100
   refine ⟨.inr rfl,_,Outs.two Tryz.results136 (OutR.cellN Tryz.f136 row72 rfl rfl rfl rfl rfl ⟨_,FzP.zt (fp:=[])⟩) (OutR.tmp ⟨[],FzP.pure rfl⟩),?_⟩
   exact ⟨_,_,rfl,zt_fit,fun h=>absurd h (by decide)⟩
  have hq92:¬ ((x.op_:Int)=(6:Int)):=by simpa using hc92
  refine ⟨.inr rfl,_,Outs.two Tryz.results136 (OutR.cellN Tryz.f136 row72 rfl rfl rfl rfl rfl ⟨_,FzP.zt (fp:=[])⟩) (OutR.tmp ⟨[],FzP.pure rfl⟩),?_⟩
  exact ⟨_,_,rfl,zt_fit,fun h=>absurd h (by decide)⟩
 have hq92:¬ ((x.op_:Int)=(6:Int)):=by simpa using hc92
 refine cB (fun hc92=>?_) (fun hc92=>?_)
 ·have hq92:(x.op_:Int)=(7:Int):=by simpa using hc92
  refine cB (fun hc92=>?_) (fun hc92=>?_)
  ·have hq92:(x.op_:Int)=(7:Int):=by simpa using hc92
   refine LenG.of (cB (fun hc100=>?_) (fun hc100=>?_))
   ·have hq100:((k0.L.length:Nat):Int)=(2:Int):=by simpa using hc100
    have g0:=hi_k0 0 (by omega) (by omega)
    have g1:=hi_k0 1 (by omega) (by omega)
    refine IdxG.of (j:=0) (by omega) (IdxG.of (j:=1) (by omega) ?_)
    refine ArgG.mk (binary_p x.op_ k0.L[0] (hf_k0 _ (List.getElem_mem _)) k0.L[1] (hf_k0 _ (List.getElem_mem _)) (by omega) g0.2.1 g0.2.2.1 g1.2.2.1 (by have:=g0.2.2.2; omega) (by have:=g1.2.2.2; omega)) rfl ?_
    rintro _ ⟨t8,e8,rfl,ht8,he8⟩
    refine ⟨by kernel_rfl,?_⟩
    refine ⟨.inr rfl,_,Outs.two Tryz.results136 (OutR.cellN Tryz.f136 row72 rfl rfl rfl rfl rfl ⟨_,FzP.pure (fp:=[]) rfl⟩) (OutR.tmp ⟨[],FzP.pure rfl⟩),?_⟩
    exact ⟨_,_,rfl,ht8,fun h=>ofBin (by omega) hL_k0 hge24 hle_k0 (by assumption) hi_k0 (he8 h)⟩
   have hq100:¬ (((k0.L.length:Nat):Int)=(2:Int)):=by simpa using hc100
   refine ⟨.inr rfl,_,Outs.two Tryz.results136 (OutR.cellN Tryz.f136 row72 rfl rfl rfl rfl rfl ⟨_,FzP.zt (fp:=[])⟩) (OutR.tmp ⟨[],FzP.pure rfl⟩),?_⟩
   exact ⟨_,_,rfl,zt_fit,fun h=>absurd h (by decide)⟩
  have hq92:¬ ((x.op_:Int)=(7:Int)):=by simpa using hc92
  refine ⟨.inr rfl,_,Outs.two Tryz.results136 (OutR.cellN Tryz.f136 row72 rfl rfl rfl rfl rfl ⟨_,FzP.zt (fp:=[])⟩) (OutR.tmp ⟨[],FzP.pure rfl⟩),?_⟩
  exact ⟨_,_,rfl,zt_fit,fun h=>absurd h (by decide)⟩
 have hq92:¬ ((x.op_:Int)=(7:Int)):=by simpa using hc92
 refine cB (fun hc92=>?_) (fun hc92=>?_)
 ·have hq92:(x.op_:Int)=(8:Int):=by simpa using hc92
  refine LenG.of (cB (fun hc100=>?_) (fun hc100=>?_))
  ·have hq100:((k0.L.length:Nat):Int)=(2:Int):=by simpa using hc100
   have g0:=hi_k0 0 (by omega) (by omega)
   have g1:=hi_k0 1 (by omega) (by omega)
   refine IdxG.of (j:=0) (by omega) (IdxG.of (j:=1) (by omega) ?_)
   refine ArgG.mk (binary_p x.op_ k0.L[0] (hf_k0 _ (List.getElem_mem _)) k0.L[1] (hf_k0 _ (List.getElem_mem _)) (by omega) g0.2.1 g0.2.2.1 g1.2.2.1 (by have:=g0.2.2.2; omega) (by have:=g1.2.2.2; omega)) rfl ?_
   rintro _ ⟨t9,e9,rfl,ht9,he9⟩
   refine ⟨by kernel_rfl,?_⟩
   refine ⟨.inr rfl,_,Outs.two Tryz.results136 (OutR.cellN Tryz.f136 row72 rfl rfl rfl rfl rfl ⟨_,FzP.pure (fp:=[]) rfl⟩) (OutR.tmp ⟨[],FzP.pure rfl⟩),?_⟩
   exact ⟨_,_,rfl,ht9,fun h=>ofBin (by omega) hL_k0 hge24 hle_k0 (by assumption) hi_k0 (he9 h)⟩
  have hq100:¬ (((k0.L.length:Nat):Int)=(2:Int)):=by simpa using hc100
  refine ⟨.inr rfl,_,Outs.two Tryz.results136 (OutR.cellN Tryz.f136 row72 rfl rfl rfl rfl rfl ⟨_,FzP.zt (fp:=[])⟩) (OutR.tmp ⟨[],FzP.pure rfl⟩),?_⟩
  exact ⟨_,_,rfl,zt_fit,fun h=>absurd h (by decide)⟩
 have hq92:¬ ((x.op_:Int)=(8:Int)):=by simpa using hc92
 refine ⟨.inr rfl,_,Outs.two Tryz.results136 (OutR.cellN Tryz.f136 row72 rfl rfl rfl rfl rfl ⟨_,FzP.zt (fp:=[])⟩) (OutR.tmp ⟨[],FzP.pure rfl⟩),?_⟩
 exact ⟨_,_,rfl,zt_fit,fun h=>absurd h (by decide)⟩
theorem of_p (r:List AV) (hr:IsEx r):∀ d,d≤12→IsSh d r→PRet Tryz.prog 136 [.agg (rwA r)] (fun q=>∃ (t:GTm) (e:Int),q=.tup [.agg (tmA t),.v (.int .i64 e)]∧FitTm t∧(e=0→OfP d r t)):=IsEx.ind (M:=fun r=>∀ d,d≤12→IsSh d r→PRet Tryz.prog 136 [.agg (rwA r)] (fun q=>∃ (t:GTm) (e:Int),q=.tup [.agg (tmA t),.v (.int .i64 e)]∧FitTm t∧(e=0→OfP d r t))) (fun x hx ih d hd hs=>by
 obtain ⟨d',h1,h2,h3⟩:=isSh_open hs
 subst h1
 exact of_w x hx d' (by omega) h2 (fun r hr=>ih r hr d' (by omega) (h3 r hr))) hr
end Go.Proofs.YtjdblmpkeilbaaaGreatDoor
namespace Go.Proofs.YtjdblmpkeilbaaaGreatDoor
set_option linter.unusedVariables false
set_option linter.unusedSimpArgs false
open Go.RowKit
/-- The parts of an expression that do not contain NULL have terms. -/
inductive FitE:Nat→List AV→Prop
 | tm (d:Nat) (r:List AV) (t:GTm) (hn:¬ HasN r) (h:OfP d r t):FitE d r
 | nul (d:Nat) (x:GEx) (hn:HasN (exA x)) (h:¬ (x.op_=6∨x.op_=7∨x.op_=8)) (ha:x.op_≠9→∀ r∈x.args_,FitE d r):FitE (d+1) (exA x)
/-- A valid operand. -/
def OpE (l:List PVar) (d:Nat) (r:List AV):Prop:=(∃ x:GEx,r=exA x∧x.op_=1∧x.value_.kind_=0∧x.args_=[])∨(TextE l r∧∀ y,r=exA y→y.op_=1→CanV y.value_)∨(IntE l r∧FitE d r)
theorem canV_zero {v:GVal} (h:(v.kind_==0&&(v.int_==0&&v.text_.toList==(⟨#[]⟩:ByteArray).toList))=true):CanV v:=by
 simp only [Bool.and_eq_true,beq_iff_eq] at h
 exact ⟨fun _=>⟨h.2.1,emptyB_of (by unfold emptyB; rw [beq_iff_eq]; exact h.2.2)⟩,fun h1=>by omega,fun h1=>by omega⟩
theorem opNull {l:List PVar} {d:Nat} {x:GEx} (h:HasN (exA x)) (h1:x.op_=1) (h2:((x.args_.length:Nat):Int)=0):OpE l d (exA x):=by
 have e:x.args_=[]:=List.eq_nil_of_length_eq_zero (by omega)
 refine .inl ⟨x,rfl,h1,?_,e⟩
 rcases hasN_open.1 h with h | ⟨r,hr,_⟩
 ·exact h.2
 rw [e] at hr; exact absurd hr (by simp)
set_option maxRecDepth 100000 in
set_option maxHeartbeats 4000000 in
theorem fits_w (x:GEx) (hx:FitEx x) (d:Nat) (hd:d≤11) (hsh:IsSh (d+1) (exA x)) (ih:∀ r∈x.args_,PRet Tryz.prog 95 [.agg (rwA r)] (fun q=>∃ b:Bool,q=.v (.bool b)∧(b=true→FitE d r))):PRet Tryz.prog 95 [.agg (exA x)] (fun r=>∃ b:Bool,r=.v (.bool b)∧(b=true→FitE (d+1) (exA x))):=by
 refine PRet.of_vc infOk [44] [] Tryz.func95 rfl Tryz.ntmps95 rfl (by kernel_rfl) ?_
 refine ArgG.mk (null_p (exA x) (isEx hx)) rfl ?_
 rintro _ ⟨b0,rfl,hb0⟩
 refine cB (fun hc8=>?_) (fun hc8=>?_)
 ·refine ArgG.mk (of_p (exA x) (isEx hx) (d+1) (by omega) hsh) rfl ?_
  rintro _ ⟨t1,e1,rfl,ht1,he1⟩
  exact rV Tryz.results95 rfl ⟨_,rfl,fun hr=>.tm _ _ t1 (fun h=>by have:=hb0.2 h; simp_all) (he1 (by simpa using hr))⟩
 refine cB (fun hg19=>?_) (fun hg19=>?_)
 ·have hq19:(x.op_:Int)=(7:Int):=by simpa using hg19
  refine cT (cT ?_)
  exact rV Tryz.results95 rfl bF
 have hq19:¬ ((x.op_:Int)=(7:Int)):=by simpa using hg19
 refine cB (fun hg24=>?_) (fun hg24=>?_)
 ·have hq24:(x.op_:Int)=(8:Int):=by simpa using hg24
  exact cT (rV Tryz.results95 rfl bF)
 have hq24:¬ ((x.op_:Int)=(8:Int)):=by simpa using hg24
 refine cB (fun hc28=>?_) (fun hc28=>?_)
 ·have hq28:(x.op_:Int)=(6:Int):=by simpa using hc28
  exact rV Tryz.results95 rfl bF
 have hq28:¬ ((x.op_:Int)=(6:Int)):=by simpa using hc28
 refine LpG.on (fun k0:Nat=>(⟨fL [(1,.ptr 0 0 0),(5,.v (.int .i64 ((k0:Nat):Int)))],hLz [(0,⟨0,exA x,0,false⟩)],1⟩:St)) (fun k0=>(x.args_.length - k0)) (fun k0=>(k0≤x.args_.length∧∀ j (hl:j < x.args_.length),j < k0→x.op_≠9→FitE d x.args_[j])) 0 (cO (.cons rfl rfl (.cons rfl rfl .nil)) (.cons rfl rfl rfl .nil)) ⟨Nat.zero_le _,fun j _ h=>absurd h (Nat.not_lt_zero j)⟩ ?_
 rintro k0 hinv
 have hgr_k0:x.args_.length≤140737488355328:=hx.args_.1
 obtain ⟨hle_k0,hj_k0⟩:=hinv
 refine LenG.of (cB (fun hc33=>?_) (fun hc33=>?_))
 ·have hlt33:k0 < x.args_.length:=Int.ofNat_lt.1 (of_decide_eq_true hc33)
  refine cB (fun hg39=>?_) (fun hg39=>?_)
  ·have hq39:¬ ((x.op_:Int)=(9:Int)):=by simpa using hg39
   refine IdxG.of (by assumption) (OpG.lk (LOp.ldTN row32 rfl (exTake (hx.args_.2 _ (List.getElem_mem _)))) ?_)
   refine ArgG.mk (ih (x.args_[k0]) (List.getElem_mem _)) (show pureL [.agg (rwA x.args_[k0])]=true by simp [pureL,AV.pureB,exPure (hx.args_.2 _ (List.getElem_mem _))]) ?_
   rintro _ ⟨b2,rfl,hb2⟩
   refine cB (fun hc47=>?_) (fun hc47=>?_)
   ·exact rV Tryz.results95 rfl bF
   refine ⟨by omega,?_⟩
   refine ⟨(k0+1),by omega,(cO (.cons rfl rfl (.cons rfl rfl .nil)) (.cons rfl rfl rfl .nil)),?_⟩
   refine ⟨by omega,fun j hl h=>?_⟩
   rcases Nat.lt_succ_iff_lt_or_eq.1 h with h | rfl
   ·exact hj_k0 j hl h
   intro h9; exact hb2 (by simpa using hc47)
  have hq39:(x.op_:Int)=(9:Int):=by simpa using hg39
  refine cF ⟨by omega,⟨(k0+1),by omega,(cO (.cons rfl rfl (.cons rfl rfl .nil)) (.cons rfl rfl rfl .nil)),?_⟩⟩
  refine ⟨by omega,fun j hl h=>?_⟩
  rcases Nat.lt_succ_iff_lt_or_eq.1 h with h | rfl
  ·exact hj_k0 j hl h
  intro h9; exact absurd (by assumption) h9
 have hge33:¬ k0 < x.args_.length:=fun h=>of_decide_eq_false hc33 (Int.ofNat_lt.2 h)
 exact rV Tryz.results95 rfl ⟨_,rfl,fun _=>.nul d x (hb0.1 (by simpa using hc8)) (by omega) (fun h9 r hr=>by obtain ⟨j,hj,rfl⟩:=List.getElem_of_mem hr; exact hj_k0 j hj (by omega) h9)⟩
theorem fits_p (r:List AV) (hr:IsEx r):∀ d,d≤12→IsSh d r→PRet Tryz.prog 95 [.agg (rwA r)] (fun q=>∃ b:Bool,q=.v (.bool b)∧(b=true→FitE d r)):=IsEx.ind (M:=fun r=>∀ d,d≤12→IsSh d r→PRet Tryz.prog 95 [.agg (rwA r)] (fun q=>∃ b:Bool,q=.v (.bool b)∧(b=true→FitE d r))) (fun x hx ih d hd hs=>by
 obtain ⟨d',h1,h2,h3⟩:=isSh_open hs
 subst h1
 exact fits_w x hx d' (by omega) hs (fun r hr=>ih r hr d' (by omega) (h3 r hr))) hr
set_option maxRecDepth 100000 in
set_option maxHeartbeats 4000000 in
theorem operand_w (x:GEx) (hx:FitEx x) (l:List PVar) (hl:FitL l (fun y=>True)) (d:Nat) (hd:d≤12) (hsh:IsSh d (exA x)):PRet Tryz.prog 56 [.agg (exA x),.tree 5 (l.map vA)] (fun r=>∃ b:Bool,r=.v (.bool b)∧(b=true→OpE l d (exA x))):=by
 refine PRet.of_vc infOk [] [] Tryz.func56 rfl Tryz.ntmps56 rfl (by kernel_rfl) (ArgG.mk (null_p (exA x) (isEx hx)) rfl ?_)
 rintro _ ⟨b0,rfl,hb0⟩
 refine cB (fun hg7=>?_) (fun hg7=>?_)
 ·refine cE (fun hq12=>?_) (fun hq12=>?_)
  ·refine LenG.of (cE (fun hq18=>?_) (fun hq18=>?_))
   ·refine cT (cE (fun hq26=>?_) (fun hq26=>?_))
    ·exact cT (rV Tryz.results56 rfl ⟨_,rfl,fun _=>opNull (hb0.1 (by assumption)) (by assumption) (by assumption)⟩)
    refine OpG.lk (LOp.eqVal rfl rfl) (cB (fun hg32=>?_) (fun hg32=>?_))
    ·exact rV Tryz.results56 rfl ⟨_,rfl,fun _=>opNull (hb0.1 (by assumption)) (by assumption) (by assumption)⟩
    refine ArgG.mk (valid04_p x.value_ hx.value_) rfl ?_
    rintro _ ⟨b1,rfl,hb1,hbc1⟩
    exact rV Tryz.results56 rfl ⟨_,rfl,fun _=>opNull (hb0.1 (by assumption)) (by assumption) (by assumption)⟩
   refine ArgG.mk (text_p (exA x) (isEx hx) l hl) rfl ?_
   rintro _ ⟨b2,rfl,hb2,hbn2⟩
   refine cB (fun hc22=>?_) (fun hc22=>?_)
   ·refine cE (fun hq26=>?_) (fun hq26=>?_)
    ·exact cT (rV Tryz.results56 rfl ⟨_,rfl,fun hr=>.inr (.inl ⟨by first | exact hb2 (by assumption) | exact hb1 (by assumption),fun y hy h1=>by obtain rfl:=exA_inj hy; first | omega | exact hbc2 hr | exact canV_zero hg32⟩)⟩)
    refine OpG.lk (LOp.eqVal rfl rfl) (cB (fun hg32=>?_) (fun hg32=>?_))
    ·exact rV Tryz.results56 rfl ⟨_,rfl,fun hr=>.inr (.inl ⟨by first | exact hb2 (by assumption) | exact hb1 (by assumption),fun y hy h1=>by obtain rfl:=exA_inj hy; first | omega | exact hbc2 hr | exact canV_zero hg32⟩)⟩
    refine ArgG.mk (valid04_p x.value_ hx.value_) rfl ?_
    rintro _ ⟨b3,rfl,hb3,hbc3⟩
    exact rV Tryz.results56 rfl ⟨_,rfl,fun hr=>.inr (.inl ⟨by first | exact hb3 (by assumption) | exact hb2 (by assumption),fun y hy h1=>by obtain rfl:=exA_inj hy; first | omega | exact hbc3 hr | exact canV_zero hg32⟩)⟩
   refine ArgG.mk (integer_p (exA x) (isEx hx) l hl) rfl ?_
   rintro _ ⟨b4,rfl,hb4⟩
   refine cB (fun hg40=>?_) (fun hg40=>?_)
   ·refine ArgG.mk (fits_p (exA x) (isEx hx) d hd hsh) rfl ?_
    rintro _ ⟨b5,rfl,hb5⟩
    exact rV Tryz.results56 rfl ⟨_,rfl,fun hr=>.inr (.inr ⟨hb4 (by assumption),hb5 hr⟩)⟩
   exact rV Tryz.results56 rfl bF
  refine cF (ArgG.mk (text_p (exA x) (isEx hx) l hl) rfl ?_)
  rintro _ ⟨b6,rfl,hb6,hbn6⟩
  refine cB (fun hc22=>?_) (fun hc22=>?_)
  ·refine cE (fun hq26=>?_) (fun hq26=>?_)
   ·exact cT (rV Tryz.results56 rfl ⟨_,rfl,fun hr=>.inr (.inl ⟨by first | exact hb6 (by assumption) | exact hb5 (by assumption),fun y hy h1=>by obtain rfl:=exA_inj hy; first | omega | exact hbc6 hr | exact canV_zero hg32⟩)⟩)
   refine OpG.lk (LOp.eqVal rfl rfl) (cB (fun hg32=>?_) (fun hg32=>?_))
   ·exact rV Tryz.results56 rfl ⟨_,rfl,fun hr=>.inr (.inl ⟨by first | exact hb6 (by assumption) | exact hb5 (by assumption),fun y hy h1=>by obtain rfl:=exA_inj hy; first | omega | exact hbc6 hr | exact canV_zero hg32⟩)⟩
   refine ArgG.mk (valid04_p x.value_ hx.value_) rfl ?_
   rintro _ ⟨b7,rfl,hb7,hbc7⟩
   exact rV Tryz.results56 rfl ⟨_,rfl,fun hr=>.inr (.inl ⟨by first | exact hb7 (by assumption) | exact hb6 (by assumption),fun y hy h1=>by obtain rfl:=exA_inj hy; first | omega | exact hbc7 hr | exact canV_zero hg32⟩)⟩
  refine ArgG.mk (integer_p (exA x) (isEx hx) l hl) rfl ?_
  rintro _ ⟨b8,rfl,hb8⟩
  refine cB (fun hg40=>?_) (fun hg40=>?_)
  ·refine ArgG.mk (fits_p (exA x) (isEx hx) d hd hsh) rfl ?_
   rintro _ ⟨b9,rfl,hb9⟩
   exact rV Tryz.results56 rfl ⟨_,rfl,fun hr=>.inr (.inr ⟨hb8 (by assumption),hb9 hr⟩)⟩
  exact rV Tryz.results56 rfl bF
 refine cF (cF ?_)
 refine ArgG.mk (text_p (exA x) (isEx hx) l hl) rfl ?_
 rintro _ ⟨b10,rfl,hb10,hbn10⟩
 refine cB (fun hc22=>?_) (fun hc22=>?_)
 ·refine cE (fun hq26=>?_) (fun hq26=>?_)
  ·exact cT (rV Tryz.results56 rfl ⟨_,rfl,fun hr=>.inr (.inl ⟨by first | exact hb10 (by assumption) | exact hb9 (by assumption),fun y hy h1=>by obtain rfl:=exA_inj hy; first | omega | exact hbc10 hr | exact canV_zero hg32⟩)⟩)
  refine OpG.lk (LOp.eqVal rfl rfl) (cB (fun hg32=>?_) (fun hg32=>?_))
  ·exact rV Tryz.results56 rfl ⟨_,rfl,fun hr=>.inr (.inl ⟨by first | exact hb10 (by assumption) | exact hb9 (by assumption),fun y hy h1=>by obtain rfl:=exA_inj hy; first | omega | exact hbc10 hr | exact canV_zero hg32⟩)⟩
  refine ArgG.mk (valid04_p x.value_ hx.value_) rfl ?_
  rintro _ ⟨b11,rfl,hb11,hbc11⟩
  exact rV Tryz.results56 rfl ⟨_,rfl,fun hr=>.inr (.inl ⟨by first | exact hb11 (by assumption) | exact hb10 (by assumption),fun y hy h1=>by obtain rfl:=exA_inj hy; first | omega | exact hbc11 hr | exact canV_zero hg32⟩)⟩
 refine ArgG.mk (integer_p (exA x) (isEx hx) l hl) rfl ?_
 rintro _ ⟨b12,rfl,hb12⟩
 refine cB (fun hg40=>?_) (fun hg40=>?_)
 ·refine ArgG.mk (fits_p (exA x) (isEx hx) d hd hsh) rfl ?_
  rintro _ ⟨b13,rfl,hb13⟩
  exact rV Tryz.results56 rfl ⟨_,rfl,fun hr=>.inr (.inr ⟨hb12 (by assumption),hb13 hr⟩)⟩
 exact rV Tryz.results56 rfl bF
theorem operand_p (r:List AV) (hr:IsEx r) (l:List PVar) (hl:FitL l (fun y=>True)) (d:Nat) (hd:d≤12) (hsh:IsSh d r):PRet Tryz.prog 56 [.agg (rwA r),.tree 5 (l.map vA)] (fun q=>∃ b:Bool,q=.v (.bool b)∧(b=true→OpE l d r)):=by
 obtain ⟨x,rfl,hx⟩:=hr.open_
 exact operand_w x hx l hl d hd hsh
end Go.Proofs.YtjdblmpkeilbaaaGreatDoor
