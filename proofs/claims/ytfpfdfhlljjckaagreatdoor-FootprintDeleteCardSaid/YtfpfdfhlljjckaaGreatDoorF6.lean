/- Texts of the claim. -/
import Derived.Shelf.Spec.SlicesGrow
import Derived.Test.YtfpfdfhlljjckaaGreatDoorProg
import Derived.Test.YtfpfdfhlljjckaaGreatDoorF5
import Derived.Test.YtfpfdfhlljjckaaGreatDoorQ2
import Derived.Test.YtfpfdfhlljjckaaGreatDoorQ1
set_option linter.all false
namespace Go.Proofs.YtfpfdfhlljjckaaGreatDoor
open Tryz
set_option maxRecDepth 1000000
set_option maxHeartbeats 0
set_option linter.unusedVariables false
set_option linter.unusedSimpArgs false
open Go.RowKit
variable{af:Array Edge}{x:GFm}{p q:GPart}{c e n s v:Int}{es:List (Int×Int)}{o r:List AV}{ps:List GPart}{N nn vs z:List Int}{S fp:List Nat}{A' L:List PAux}{C:List PCl}{gs:List PLin}{l:List PVar}{B i j k m t t':Nat}{τ:Nat->AV}{y:Operand}{d:Option Tmp}{f:PLin}{P:Program}{pos:String}{α:Type}{ty:TypeId}
def Zt(l:List PVar)(v:Int):Bool:=(l.getD v.toNat default).nl
mutual
def mc(l:List PVar):List AV->List AV
 | [.v (.int k0 kd),.v (.int k1 ak),.v (.int k2 av),c,d,e,f,g,h,i,.tree q es]=>
  if kd=2 then(if(ak=0\/ak=1)/\Zt l av=false then fmA (cnF (ak==1))else[.v (.int k0 kd),.v (.int k1 ak),.v (.int k2 av),c,d,e,f,g,h,i,.tree q es])
  else fmA ⟨kd,zAt,R3 l es⟩
 |r=>r
def R3(l:List PVar):List (List AV)->List (List AV)
 | []=>[]
 |r :: rs=>mc l r :: R3 l rs
end
theorem Gl(l:List PVar):∀es,R3 l es=es.map (mc l)
 |[]=>by rw[R3];rfl
 |r::rs=>by rw[R3,Gl l rs];rfl
theorem ou(l:List PVar)(x:GFm):mc l (fmA x)=if x.c_=2 then(if(x.e_.c_=0\/x.e_.c_=1)/\Zt l x.e_.o_=false then fmA (cnF (x.e_.c_==1))else fmA x)else fmA ⟨x.c_,zAt,x.b_.map (mc l)⟩:=by simp only[fmA,mc,ip,Gl]
def B8(L:List Int):Int:=L.foldl (fun s n=>min (s+n) 257) 0
def xf(L:List Int):Int:=L.foldl (fun s n=>min (s*n) 257) 1
mutual
def i9:List AV->Int
 | [.v (.int _ kd),.v (.int _ ak),_,_,_,_,_,_,_,_,.tree _ es]=>if kd=2 then(if ak=4 then 2 else 1)else if kd=1 then B8 (Pu es)else xf (Pu es)
 |_=>0
def Pu:List (List AV)->List Int
 | []=>[]
 |r :: rs=>i9 r :: Pu rs
end
mutual
def lq(l:List PVar):List AV->Int
 | [.v (.int _ kd),.v (.int _ ak),.v (.int _ av),_,_,_,_,_,_,_,.tree _ es]=>if kd=2 then(if ak=0/\Zt l av=false then 0 else if ak=4 then 2 else 1)else if kd=0 then xf (Ps l es)else B8 (Ps l es)
 |_=>0
def Ps(l:List PVar):List (List AV)->List Int
 | []=>[]
 |r :: rs=>lq l r :: Ps l rs
end
theorem H6:∀es,Pu es=es.map i9
 |[]=>by rw[Pu];rfl
 |r::rs=>by rw[Pu,H6 rs];rfl
theorem H5(l:List PVar):∀es,Ps l es=es.map (lq l)
 |[]=>by rw[Ps];rfl
 |r::rs=>by rw[Ps,H5 l rs];rfl
theorem km(x:GFm):i9 (fmA x)=if x.c_=2 then(if x.e_.c_=4 then 2 else 1)else if x.c_=1 then B8 (x.b_.map i9)else xf (x.b_.map i9):=by simp only[fmA,i9,ip,H6]
theorem ow(l:List PVar)(x:GFm):lq l (fmA x)=if x.c_=2 then(if x.e_.c_=0/\Zt l x.e_.o_=false then 0 else if x.e_.c_=4 then 2 else 1)else if x.c_=0 then xf (x.b_.map (lq l))else B8 (x.b_.map (lq l)):=by simp only[fmA,lq,ip,H5]
theorem Gi(L:List Int)(n:Int):B8 (L++[n])=min (B8 L+n) 257:=by simp[B8,List.foldl_append]
theorem Gx(L:List Int)(n:Int):xf (L++[n])=min (xf L*n) 257:=by simp[xf,List.foldl_append]
theorem vz{α β:Type}{P:β->Prop}{f:β->α->β}:∀(l:List α) (b:β),P b->(∀b a,a∈l->P b->P (f b a))->P (l.foldl f b)
 |[],b,h,_=>h
 |a::l,b,h,hf=>vz l (f b a) (hf b a (by simp) h) fun b a ha hb=>hf b a (List.mem_cons_of_mem _ ha) hb
def y3{L:List Int}(h:∀n∈L,0<=n):0<=B8 L/\B8 L<=257:=
 vz (P:=fun s=>0<=s/\s<=257) L 0 (by decide) fun b a ha hb=>by have:=h a ha;omega
def vm{L:List Int}(h:∀n∈L,0<=n):0<=xf L/\xf L<=257:=
 vz (P:=fun s=>0<=s/\s<=257) L 1 (by decide) fun b a ha hb=>by have:=Int.mul_nonneg hb.1 (h a ha);omega
def zn(hr:IsFm r):0<=i9 r/\i9 r<=257:=
 IsFm.ind (M:=fun r=>0<=i9 r/\i9 r<=257) (fun x hx ih=>by
  have hn:∀n∈x.b_.map i9,0<=n:=fun n h=>by obtain⟨r,hr,rfl⟩:=a0v.1 h;exact(ih r hr).1
  rw[km];split;split<;>decide;split;exact y3 hn;exact vm hn) hr
def Fa(l:List PVar)(hr:IsFm r):0<=lq l r/\lq l r<=257:=
 IsFm.ind (M:=fun r=>0<=lq l r/\lq l r<=257) (fun x hx ih=>by
  have hn:∀n∈x.b_.map (lq l),0<=n:=fun n h=>by obtain⟨r,hr,rfl⟩:=a0v.1 h;exact(ih r hr).1
  rw[ow];split;split;decide;split<;>decide;split;exact vm hn;exact y3 hn) hr
section
variable{es:List (List AV)}{k:Nat}{f:List AV->Int}
theorem ac1(hk:k<es.length)(h:s=B8 ((es.take k).map f)):min (s+f es[k]) 257=B8 ((es.take (k+1)).map f):=by grind[a0g,List.map_singleton,Gi]
theorem adh(hk:k<es.length)(h:s=xf ((es.take k).map f)):min (s*f es[k]) 257=xf ((es.take (k+1)).map f):=by grind[a0g,List.map_singleton,Gx]
end
inductive FmK(l:List PVar):List AV->Prop
 |mk (x:GFm) (hk:x.c_=0\/x.c_=1\/x.c_=2) (hl:x.b_.length<=100000) (ha:x.c_=2->(x.e_.c_=0\/x.e_.c_=1)->∃j,j<l.length/\x.e_.o_=((j:Nat):Int)) (h:x.c_≠2->∀r∈x.b_,FmK l r):FmK l (fmA x)
theorem Uz(h:FmK l (fmA x)):x.b_.length<=100000:=by
 generalize e:fmA x=r at h
 cases h with
 |mk y hk hl ha h=>rw[Bg e];exact hl
theorem zh(h:FmK l (fmA x)):(x.c_=0\/x.c_=1\/x.c_=2)/\(x.c_=2->(x.e_.c_=0\/x.e_.c_=1)->∃j,j<l.length/\x.e_.o_=((j:Nat):Int))/\(x.c_≠2->∀r∈x.b_,FmK l r):=by
 generalize e:fmA x=r at h
 cases h with
 |mk y hk hl ha h=>rw[Bg e];exact⟨hk,ha,h⟩
theorem G6(h:j<l.length)(hv:v=((j:Nat):Int)):Zt l v=l[j].nl:=by unfold Zt;subst hv;simp[h]
theorem V9(l:List PVar)(h:FmK l r):i9 (mc l r)=lq l r:=by
 induction h with
 |mk x hk hl ha h ih=>
  rw[ou,ow]
  by_cases h2:x.c_=2
  ·rw[a0d h2,a0d h2]
   by_cases hn:(x.e_.c_=0\/x.e_.c_=1)/\Zt l x.e_.o_=false
   ·rw[a0d hn]
    obtain⟨h0|h0,hn⟩:=hn
    ·rw[a0d ⟨h0,hn⟩,h0];simp[km,cnF,B8]
    ·rw[a0c (by omega),a0c (by omega),h0];simp[km,cnF,xf]
   ·have h3:¬(x.e_.c_=0/\Zt l x.e_.o_=false):=fun g=>hn ⟨.inl g.1,g.2⟩
    rw[a0c hn,km,a0d h2,a0c h3]
  ·rw[a0c h2,a0c h2,km]
   have e:(x.b_.map (mc l)).map i9=x.b_.map (lq l):=by
    rw[List.map_map];exact List.map_congr_left fun r hr=>ih h2 r hr
   show(if x.c_=2 then _ else if x.c_=1 then B8 ((x.b_.map (mc l)).map i9)else xf ((x.b_.map (mc l)).map i9))=_
   rw[a0c h2,e]
   obtain h0|h0|h0:=hk
   ·rw[a0c (by omega),a0d h0]
   ·rw[a0d h0,a0c (by omega)]
   ·exact absurd h0 h2
theorem sf(l:List PVar)(hr:IsFm r):IsFm (mc l r):=
 IsFm.ind (M:=fun r=>IsFm (mc l r)) (fun x hx ih=>by rw[ou];split;split;exact B9 fo;exact B9 hx;exact B9 ⟨ub,by simpa using hx.b_.1,fun r hr=>by obtain⟨q,hq,rfl⟩:=a0v.1 hr;exact ih q hq⟩) hr
structure KSP where
 k:Nat
 s:Int
 p:Int
def cR_0(h:x.c_=2)(h0:x.e_.c_=0)(hj:j<l.length)(hv:x.e_.o_=((j:Nat):Int))(hn:l[j].nl=false):(0:Int)=lq l (fmA x):=by rw[ow,a0d h,a0d ⟨h0,by rw[G6 hj hv];exact hn⟩]
def cR_1(h:x.c_=2)(h0:x.e_.c_=0)(hj:j<l.length)(hv:x.e_.o_=((j:Nat):Int))(hn:l[j].nl=true):(1:Int)=lq l (fmA x):=by grind[ow,G6]
def cR_2(h:x.c_=2)(h0:x.e_.c_=4):(2:Int)=lq l (fmA x):=by rw[ow,a0d h,a0c (fun g=>by omega),a0d h0]
def cR_3(h:x.c_=2)(h0:¬x.e_.c_=0)(h1:¬x.e_.c_=4):(1:Int)=lq l (fmA x):=by rw[ow,a0d h,a0c (fun g=>h0 g.1),a0c h1]
def stR(x:GFm)(l:List PVar)(k:Nat):Int:=if x.c_=0 then xf ((x.b_.take k).map (lq l))else B8 ((x.b_.take k).map (lq l))
def Rw(h:¬x.c_=2)(hk:¬k<x.b_.length):stR x l k=lq l (fmA x):=by rw[ow,a0c h,stR,a0x (by omega)]
theorem am2 :stR x l 0=if x.c_=0 then 1 else 0:=by unfold stR;simp[xf,B8]
theorem am1(h:x.c_=0)(hk:k<x.b_.length):stR x l (k+1)=min (stR x l k*lq l x.b_[k]) 257:=by unfold stR;rw[a0d h,a0d h,adh hk rfl]
theorem am0(h:¬x.c_=0)(hk:k<x.b_.length):stR x l (k+1)=min (stR x l k+lq l x.b_[k]) 257:=by unfold stR;rw[a0c h,a0c h,ac1 hk rfl]
def Rv(h:∀r∈x.b_,IsFm r):0<=stR x l k/\stR x l k<=257:=by
 have hn:∀n∈(x.b_.take k).map (lq l),0<=n:=fun n hn=>by obtain⟨r,hr,rfl⟩:=a0v.1 hn;exact(Fa l (h r (List.mem_of_mem_take hr))).1
 unfold stR;split;exact vm hn;exact y3 hn
def av1(h:e=stR x l k)(h0:x.c_=0)(hk:k<x.b_.length)(hg:e*lq l x.b_[k]>256):(257:Int)=stR x l (k+1):=by rw[am1 h0 hk,<-h];omega
def av2(h:e=stR x l k)(h0:x.c_=0)(hk:k<x.b_.length)(hg:¬e*lq l x.b_[k]>256):e*lq l x.b_[k]=stR x l (k+1):=by rw[am1 h0 hk,<-h];omega
def avz(h:e=stR x l k)(h0:¬x.c_=0)(hk:k<x.b_.length)(hg:e+lq l x.b_[k]>256):(257:Int)=stR x l (k+1):=by rw[am0 h0 hk,<-h];omega
def av0(h:e=stR x l k)(h0:¬x.c_=0)(hk:k<x.b_.length)(hg:¬e+lq l x.b_[k]>256):e+lq l x.b_[k]=stR x l (k+1):=by rw[am0 h0 hk,<-h];omega
def To{a b:Int}(ha:0<=a/\a<=257)(hb:0<=b/\b<=257):0<=a*b/\a*b<=66049:=⟨Int.mul_nonneg ha.1 hb.1,Int.mul_le_mul ha.2 hb.2 hb.1 (by decide)⟩
def cG_2(h:x.c_=2)(h0:x.e_.c_=4):(2:Int)=i9 (fmA x):=by rw[km,a0d h,a0d h0]
def cG_1(h:x.c_=2)(h0:¬x.e_.c_=4):(1:Int)=i9 (fmA x):=by rw[km,a0d h,a0c h0]
structure CtI(x:GFm)(q:KSP):Prop where
 s:q.s=B8 ((x.b_.take q.k).map i9)
 p:q.p=xf ((x.b_.take q.k).map i9)
section
variable{x:GFm}{q:KSP}
def ct0:CtI x ⟨0,0,1⟩:=⟨rfl,rfl⟩
def ara(h:CtI x q)(hx:∀r∈x.b_,IsFm r):(0<=q.s/\q.s<=257)/\0<=q.p/\q.p<=257:=by
 have hn:∀n∈(x.b_.take q.k).map i9,0<=n:=fun n hn=>by obtain⟨r,hr,rfl⟩:=a0v.1 hn;exact(zn (hx r (List.mem_of_mem_take hr))).1
 rw[h.s,h.p];exact⟨y3 hn,vm hn⟩
def ctA(h:CtI x q)(hk:q.k<x.b_.length):CtI x ⟨q.k+1,min (q.s+i9 x.b_[q.k]) 257,min (q.p*i9 x.b_[q.k]) 257⟩:=⟨ac1 hk h.s,adh hk h.p⟩
def ctB(h:CtI x q)(hk:q.k<x.b_.length)(hc:i9 x.b_[q.k]<=0)(hr:0<=i9 x.b_[q.k]):CtI x ⟨q.k+1,min (q.s+i9 x.b_[q.k]) 257,q.p*i9 x.b_[q.k]⟩:=by have h2:=ctA h hk;have e:i9 x.b_[q.k]=0:=(by omega);have e2:min (q.p*0) 257=q.p*0:=(by rw[Int.mul_zero];decide);rw[e,e2]at h2;rw[e];exact h2
def ct_s(h:CtI x q)(hk:¬q.k<x.b_.length)(h1:x.c_=1):q.s=i9 (fmA x):=by rw[km,a0c (by omega),a0d h1,h.s,a0x (by omega)]
def ct_p(h:CtI x q)(hk:¬q.k<x.b_.length)(h1:¬x.c_=1)(h2:¬x.c_=2):q.p=i9 (fmA x):=by rw[km,a0c h2,a0c h1,h.p,a0x (by omega)]
end
def sm_1{b:Bool}(h:x.c_=2)(h0:x.e_.c_=0\/x.e_.c_=1)(hj:j<l.length)(hv:x.e_.o_=((j:Nat):Int))(hn:l[j].nl=false)(hb:b=(x.e_.c_==1)):mc l (fmA x)=fmA (cnF b):=by rw[ou,a0d h,a0d ⟨h0,by rw[G6 hj hv];exact hn⟩,hb]
def av6(h:x.c_=2)(h0:x.e_.c_=0)(hj:j<l.length)(hv:x.e_.o_=((j:Nat):Int))(hn:l[j].nl=false):fmA (cnF false)=rwA (mc l (fmA x)):=(sm_1 h (.inl h0) hj hv hn (by rw[h0];rfl)).symm
def av5(h:x.c_=2)(h0:x.e_.c_=1)(hj:j<l.length)(hv:x.e_.o_=((j:Nat):Int))(hn:l[j].nl=false):fmA (cnF true)=rwA (mc l (fmA x)):=(sm_1 h (.inr h0) hj hv hn (by rw[h0];rfl)).symm
def sm_2(h:x.c_=2)(hj:j<l.length)(hv:x.e_.o_=((j:Nat):Int))(hn:l[j].nl=true):mc l (fmA x)=fmA x:=by grind[ou,G6]
def sm_3(h:x.c_=2)(h0:¬(x.e_.c_=0\/x.e_.c_=1)):mc l (fmA x)=fmA x:=by rw[ou,a0d h,a0c (fun g=>h0 g.1)]
def sm_4{L:List GFm}(h:¬x.c_=2)(hL:(x.b_.take k).map (mc l)=L.map fmA)(hk:¬k<x.b_.length):mc l (fmA x)=fmA ⟨x.c_,zAt,L.map fmA⟩:=by rw[ou,a0c h,<-hL,a0x (by omega)]
def av4{L:List GFm}{f:GFm}(hk:k<x.b_.length)(hL:(x.b_.take k).map (mc l)=L.map fmA)(hf:mc l x.b_[k]=fmA f):(x.b_.take (k+1)).map (mc l)=(L++[f]).map fmA:=by grind[a0g,List.map_singleton]
def Vq(x:GFm)(hx:FitFm x)(vs:List PVar)(hvs:bn vs (fun y=>True))(hi:FmK vs (fmA x))(ih:∀r∈x.b_,FmK vs r->PRet prog 32 [.agg (rwA r),.tree 5 (vs.map vA),vI 256] (fun q=>q=vI (lq vs r))):PRet prog 32 [.agg (fmA x),.tree 5 (vs.map vA),vI 256] (fun q=>q=vI (lq vs (fmA x))):=by
 have hj:=zh hi;refine ovT [24,47,56,59,64] [] func32 rfl rfl ?_;apply cB<;>intro he;have h2:(x.c_:Int)=(2:Int):=by simpa using he
 apply cB<;>intro hf;have h7:(x.e_.c_:Int)=(0:Int):=by simpa using hf
 obtain⟨j,hk,hl⟩:=hj.2.1 (by omega) (by omega);refine OpG.lk (ah underlying54 xa rfl rfl hl hk) ?_;apply cB<;>intro hg;have hm:vs[j].nl=false:=by simpa using hg
 exact rV rfl rfl (congrArg vI (cR_0 h2 h7 hk hl hm));have hm:vs[j].nl=true:=by simpa using hg
 refine cB (fun hz=>by exfalso;have h:=(by simpa using hz:(x.e_.c_:Int)=4);omega) (fun _=>?_);exact rV rfl rfl (congrArg vI (cR_1 h2 h7 hk hl hm));have h7:¬((x.e_.c_:Int)=(0:Int)):=by simpa using hf
 refine cF (cB (fun h8=>?_) (fun h8=>?_));have h9:(x.e_.c_:Int)=(4:Int):=by simpa using h8
 exact rV rfl rfl (congrArg vI (cR_2 h2 h9));have h9:¬((x.e_.c_:Int)=(4:Int)):=by simpa using h8
 exact rV rfl rfl (congrArg vI (cR_3 h2 h7 h9));have h2:¬((x.c_:Int)=(2:Int)):=by simpa using he
 apply cB<;>intro hh
 ·have h4:(x.c_:Int)=(0:Int):=by simpa using hh
  refine LpG.on (fun k1:KE=>(⟨fL [(1,.tree 5 (vs.map vA)),(2,vI 256),(3,.ptr 0 0 0),(8,vI k1.e),(9,vI k1.k)],hLz [(0,⟨0,fmA x,0,false⟩)],1⟩:St)) (fun k1=>(x.b_.length-k1.k)) (fun k1=>(k1.k<=x.b_.length/\(k1.e=stR x vs k1.k))) (⟨0,_⟩:KE) (cnR rfl) ⟨a0h _,(by rw[am2];(rw[a0d ‹_›];done))⟩ ?_;rintro k1 ha;have hb:x.b_.length<=140737488355328:=hx.b_.1
  obtain⟨hc,h0⟩:=ha;refine LenG.of (cB (fun h3=>?_) (fun h3=>?_));have h1:k1.k<x.b_.length:=Int.ofNat_lt.1 (a0f h3)
  have hn:0<=k1.e/\k1.e<=257:=by rw[h0];exact Rv hx.b_.2
  have ho:=Fa vs (hx.b_.2 x.b_[k1.k] (az4 h1));have hp:=To hn ho
  refine IdxG.of ‹_› (OpG.lk (co cw rfl (aef (hx.b_.2 _ (az4 _)))) ?_);refine ArgG.mk (ih x.b_[k1.k] (az4 _) (hj.2.2 h2 _ (az4 _))) (show cj [.agg (rwA x.b_[k1.k]),.tree 5 (vs.map vA),vI 256]=true by simp[cj,AV.pureB,aeg (hx.b_.2 _ (az4 _))]) ?_;rintro _ rfl;refine cB (fun _=>?_) (fun hz=>by exfalso;have h:=(by simpa using hz:¬(x.c_:Int)=0);omega);refine OpG.lk (ji rfl rfl (by omega) (by omega)) ?_;apply cB<;>intro h5;have hd:=a0f h5
  refine OpG.lk (lJ (m:=256) (n:=1) rfl rfl (by decide) (by decide)) ?_;refine⟨by omega,?_⟩;refine⟨(⟨k1.k+1,_⟩:KE),(nsA ‹_›),(cnR rfl),?_⟩;refine⟨‹_›,?_⟩;exact av1 h0 h4 h1 hd;have hd:=a0e h5
  refine⟨by omega,?_⟩;refine⟨(⟨k1.k+1,_⟩:KE),(nsA ‹_›),(cnR rfl),?_⟩;refine⟨‹_›,?_⟩;exact av2 h0 h4 h1 hd;have h6:¬k1.k<x.b_.length:=fun h=>a0e h3 (Int.ofNat_lt.2 h)
  exact rV rfl rfl (congrArg vI (h0.trans (Rw h2 h6)))
 have h4:¬((x.c_:Int)=(0:Int)):=by simpa using hh
 refine LpG.on (fun k1:KE=>(⟨fL [(1,.tree 5 (vs.map vA)),(2,vI 256),(3,.ptr 0 0 0),(8,vI k1.e),(9,vI k1.k)],hLz [(0,⟨0,fmA x,0,false⟩)],1⟩:St)) (fun k1=>(x.b_.length-k1.k)) (fun k1=>(k1.k<=x.b_.length/\(k1.e=stR x vs k1.k))) (⟨0,_⟩:KE) (cnR rfl) ⟨a0h _,(by rw[am2];(rw[a0c ‹_›];done))⟩ ?_;rintro k1 ha;have hb:x.b_.length<=140737488355328:=hx.b_.1
 obtain⟨hc,h0⟩:=ha;refine LenG.of (cB (fun h3=>?_) (fun h3=>?_));have h1:k1.k<x.b_.length:=Int.ofNat_lt.1 (a0f h3)
 have hn:0<=k1.e/\k1.e<=257:=by rw[h0];exact Rv hx.b_.2
 have ho:=Fa vs (hx.b_.2 x.b_[k1.k] (az4 h1));have hp:=To hn ho
 refine IdxG.of ‹_› (OpG.lk (co cw rfl (aef (hx.b_.2 _ (az4 _)))) ?_);refine ArgG.mk (ih x.b_[k1.k] (az4 _) (hj.2.2 h2 _ (az4 _))) (show cj [.agg (rwA x.b_[k1.k]),.tree 5 (vs.map vA),vI 256]=true by simp[cj,AV.pureB,aeg (hx.b_.2 _ (az4 _))]) ?_;rintro _ rfl;refine cB (fun hz=>by exfalso;have h:=(by simpa using hz:(x.c_:Int)=0);omega) (fun _=>?_);refine OpG.lk (lJ rfl rfl (by omega) (by omega)) ?_;apply cB<;>intro h5;have hd:=a0f h5
 refine OpG.lk (lJ (m:=256) (n:=1) rfl rfl (by decide) (by decide)) ?_;refine⟨by omega,?_⟩;refine⟨(⟨k1.k+1,_⟩:KE),(nsA ‹_›),(cnR rfl),?_⟩;refine⟨‹_›,?_⟩;exact avz h0 h4 h1 hd;have hd:=a0e h5
 refine⟨by omega,?_⟩;refine⟨(⟨k1.k+1,_⟩:KE),(nsA ‹_›),(cnR rfl),?_⟩;refine⟨‹_›,?_⟩;exact av0 h0 h4 h1 hd;have h6:¬k1.k<x.b_.length:=fun h=>a0e h3 (Int.ofNat_lt.2 h)
 exact rV rfl rfl (congrArg vI (h0.trans (Rw h2 h6)))
def Vr(vs:List PVar)(h0:bn vs (fun _=>True))(r:List AV)(hr:IsFm r):FmK vs r->PRet prog 32 [.agg (rwA r),.tree 5 (vs.map vA),vI 256] (fun q=>q=vI (lq vs r)):=IsFm.ind (M:=fun r=>FmK vs r->PRet prog 32 [.agg (rwA r),.tree 5 (vs.map vA),vI 256] (fun q=>q=vI (lq vs r))) (fun x hx ih hk=>Vq x hx vs h0 hk ih) hr
def aa6(x:GFm)(hx:FitFm x)(ih:∀r∈x.b_,PRet prog 189 [.agg (rwA r)] (fun q=>q=vI (i9 r))):PRet prog 189 [.agg (fmA x)] (fun q=>q=vI (i9 (fmA x))):=by refine ovT [26,27,30,34] [] func189 rfl rfl ?_;apply cB<;>intro h8;have h3:=h8;simp at h3;apply cB<;>intro h9;have h4:=h9;simp at h4;exact rV rfl rfl (congrArg vI (cG_2 h3 h4));have h4:=h9;simp at h4;exact rV rfl rfl (congrArg vI (cG_1 h3 h4));have h3:=h8;simp at h3;refine LenG.of (LpG.on (fun k0:KSP=>(⟨fL [(1,.ptr 0 0 0),(3,vI k0.s),(4,vI k0.p),(16,.tree 11 (x.b_.map rwA)),(17,vI x.b_.length),(18,vI k0.k)],hLz [(0,⟨0,fmA x,0,false⟩)],1⟩:St)) (fun k0=>(x.b_.length-k0.k)) (fun k0=>(k0.k<=x.b_.length/\CtI x k0)) (⟨0,0,1⟩:KSP) (cnR rfl) ⟨a0h _,ct0⟩ ?_);rintro k0 hc;have hgr_k0:x.b_.length<=140737488355328:=hx.b_.1;obtain⟨hle_k0,h1⟩:=hc;apply cB<;>intro ha;have h2:k0.k<x.b_.length:=Int.ofNat_lt.1 (a0f ha);obtain⟨x1,h0,hf⟩:=(hx.b_.2 _ (az4 h2)).open_;have hg:fmA x1∈x.b_:=h0▸az4 h2;have hh:=ara h1 hx.b_.2;have he:=zn (B9 hf);have hmm:=To hh.2 he;refine cz (j:=k0.k) ‹_› h0 (ArgG.mk (ih (fmA x1) hg) rfl ?_);rintro _ rfl;refine OpG.lk (lJ rfl rfl (by omega) (by omega)) ?_;refine OpG.lk (m3 rfl rfl) ?_;refine OpG.lk (ji rfl rfl (by omega) (by omega)) ?_;apply cB<;>intro h7;have hd:=a0f h7;skip;refine OpG.lk (m3 rfl rfl) ?_;refine⟨by omega,?_⟩;refine⟨(⟨k0.k+1,_,_⟩:KSP),(nsA ‹_›),(cnR rfl),?_⟩;refine⟨‹_›,?_⟩;exact h0▸ctA h1 h2;have hd:=a0e h7;have hz:=h7;simp at hz;refine⟨by omega,?_⟩;refine⟨(⟨k0.k+1,_,_⟩:KSP),(nsA ‹_›),(cnR rfl),?_⟩;refine⟨‹_›,?_⟩;exact h0▸ctB h1 h2 (h0.symm▸hz) (h0.symm▸he.1);have h6:¬k0.k<x.b_.length:=fun h=>a0e ha (Int.ofNat_lt.2 h);apply cB<;>intro hb;have h5:=hb;simp at h5;exact rV rfl rfl (congrArg vI (ct_s h1 h6 h5));have h5:=hb;simp at h5;exact rV rfl rfl (congrArg vI (ct_p h1 h6 h5 h3))
def Np(r:List AV)(hr:IsFm r):PRet prog 189 [.agg (rwA r)] (fun q=>q=vI (i9 r)):=IsFm.ind (M:=fun r=>PRet prog 189 [.agg (rwA r)] (fun q=>q=vI (i9 r))) (fun x hx ih=>aa6 x hx ih) hr
def On(x:GFm)(hx:FitFm x)(vs:List PVar)(hvs:bn vs (fun y=>True))(ha:FmK vs (fmA x))(ih:∀r∈x.b_,FmK vs r->PRet prog 188 [.agg (rwA r),.tree 5 (vs.map vA)] (fun q=>q=.agg (rwA (mc vs r)))):PRet prog 188 [.agg (fmA x),.tree 5 (vs.map vA)] (fun q=>q=.agg (rwA (mc vs (fmA x)))):=by have hh:=zh ha;have hfl:=Uz ha;refine ovT [26] [14] func188 rfl rfl ?_;apply cB<;>intro hb;have h0:=hb;simp at h0;apply cB<;>intro hc;have h2:=hc;simp at h2;obtain⟨j,h8,h9⟩:=hh.2.1 (by omega) (by omega);refine cT (OpG.lk (ah underlying54 xa rfl rfl h9 h8) ?_);apply cB<;>intro h3;have h4:=h3;simp at h4;refine cB (fun _=>?_) (fun hz=>by exfalso;have h:=(by simpa using hz:¬(x.e_.c_:Int)=0);omega);refine rtK rfl cw rfl ⟨[],je⟩ ?_;exact congrArg AV.agg (av6 h0 h2 h8 h9 h4);have h4:=h3;simp at h4;refine rtK rfl cw rfl ⟨[],FzP.pure rfl⟩ ?_;exact congrArg AV.agg (sm_2 h0 h8 h9 h4).symm;have h2:=hc;simp at h2;apply cB<;>intro hd;have h5:=hd;simp at h5;obtain⟨j,h8,h9⟩:=hh.2.1 (by omega) (by omega);refine OpG.lk (ah underlying54 xa rfl rfl h9 h8) ?_;apply cB<;>intro h3;have h4:=h3;simp at h4;refine cB (fun hz=>by exfalso;have h:=(by simpa using hz:(x.e_.c_:Int)=0);omega) (fun _=>?_);refine rtK rfl cw rfl ⟨[],je⟩ ?_;exact congrArg AV.agg (av5 h0 h5 h8 h9 h4);have h4:=h3;simp at h4;refine rtK rfl cw rfl ⟨[],FzP.pure rfl⟩ ?_;exact congrArg AV.agg (sm_2 h0 h8 h9 h4).symm;have h5:=hd;simp at h5;exact cF (rtK rfl cw rfl ⟨[],FzP.pure rfl⟩ (congrArg AV.agg (sm_3 h0 (fun h=>h.elim h2 h5)).symm));have h0:=hb;simp at h0;refine LenG.of (LpG.via (fun _ h=>dg 2 10 11 rfl rfl rfl rfl rfl 4 rfl h) ?_);refine LpG.on (fun k0:KL GFm=>(⟨fL [(1,.tree 5 (vs.map vA)),(4,.ptr 1 0 0),(6,.ptr 2 0 0),(41,.tree 11 (x.b_.map rwA)),(42,vI x.b_.length),(43,vI k0.k)],hLz [(1,⟨0,[vI 0,vI 0,vI 0,vI 0,vI 0,.v (.slice none 0 0),vI 0,vI 0,vB false,.v (.string ⟨#[]⟩),.v (.slice none 0 0)],0,false⟩),(2,⟨0,[vI x.c_,vI 0,vI 0,vI 0,vI 0,.v (.slice none 0 0),vI 0,vI 0,vB false,.v (.string ⟨#[]⟩),.sl 3 k0.L.length 0 k0.L.length],0,false⟩),(3,⟨k0.L.length,rF fmA k0.L,11,Nat.beq k0.L.length 0⟩)],4⟩:St)) (fun k0=>(x.b_.length-k0.k)) (fun k0=>(k0.k<=x.b_.length/\((x.b_.take k0.k).map (mc vs)=k0.L.map fmA/\k0.L.length=k0.k))) (⟨0,[]⟩:KL GFm) (cnS rfl (hpR rfl (hpR (by rfl) (hpS (aa aw _ _) (by rfl) trivial)))) ⟨a0h _,⟨rfl,rfl⟩⟩ ?_;rintro k0 hi;have hgr_k0:x.b_.length<=140737488355328:=hx.b_.1;obtain⟨hle_k0,h1⟩:=hi;apply cB<;>intro he;have h6:k0.k<x.b_.length:=Int.ofNat_lt.1 (a0f he);obtain⟨x1,h7,hk⟩:=(hx.b_.2 _ (az4 h6)).open_;have hj:fmA x1∈x.b_:=h7▸az4 h6;have hll:=h1.2;refine cz (j:=k0.k) ‹_› h7 (ArgG.mk ((show PRet prog 188 [.agg (fmA x1),.tree 5 (vs.map vA)] (fun q=>∃f:GFm,q=.agg (fmA f)/\FitFm f/\mc vs (fmA x1)=fmA f)by obtain⟨_,rfl,h⟩:=ih (fmA x1) hj (hh.2.2 h0 _ hj);obtain⟨f,e,hf⟩:=(sf vs (B9 hk)).open_;exact⟨_,⟨f,by rw[e],hf,e⟩,h⟩)) rfl ?_);rintro _ ⟨f0,rfl,hf0,hl⟩;refine OpG.mk _ _ _ 6 (ae aw (a:=f0) underlying67 Ct Ca Fe rfl rfl rfl (ap rfl rfl rfl rfl) rfl (by omega) (by omega) (by unfold TV;omega)) rfl rfl ?_;refine⟨by kernel_rfl,?_⟩;refine⟨by omega,?_⟩;refine⟨(⟨k0.k+1,k0.L++[f0]⟩:KL GFm),(nsA ‹_›),(cnS rfl (hpR rfl (.cons (by(rw[az8];rfl)) rfl rfl (.cons (by(rw[az8];rfl)) rfl (aa aw _ _) .nil)))),?_⟩;refine⟨‹_›,?_⟩;exact⟨av4 h6 h1.1 (h7.symm▸hl),by show(_++[_]).length=_;rw[az8,h1.2];rfl⟩;have hg:¬k0.k<x.b_.length:=fun h=>a0e he (Int.ofNat_lt.2 h);refine RegG.via (fun _ h=>dt [3] 2 0 0 [vI x.c_,vI 0,vI 0,vI 0,vI 0,.v (.slice none 0 0),vI 0,vI 0,vB false,.v (.string ⟨#[]⟩),.sl 3 k0.L.length 0 k0.L.length] [vI x.c_,vI 0,vI 0,vI 0,vI 0,.v (.slice none 0 0),vI 0,vI 0,vB false,.v (.string ⟨#[]⟩),.tree 11 (k0.L.map fmA)] rfl rfl (.keep (.keep (.keep (.keep (.keep (.keep (.keep (.keep (.keep (.keep (.fz (FzP.rows aw (az9.2 rfl) rfl) (.same _)))))))))))) rfl h) ?_;refine bh ?_;refine rtK rfl cw rfl ⟨[],Le⟩ ?_;exact congrArg AV.agg (sm_4 h0 h1.1 hg).symm
def Oo(vs:List PVar)(h0:bn vs (fun _=>True))(r:List AV)(hr:IsFm r):FmK vs r->PRet prog 188 [.agg (rwA r),.tree 5 (vs.map vA)] (fun q=>q=.agg (rwA (mc vs r))):=IsFm.ind (M:=fun r=>FmK vs r->PRet prog 188 [.agg (rwA r),.tree 5 (vs.map vA)] (fun q=>q=.agg (rwA (mc vs r)))) (fun x hx ih hk=>On x hx vs h0 hk ih) hr
def dcP:List AV->GPart
 |[.v (.int _ c),.v (.int _ k),.v (.int _ v),.v (.int _ b),.tree _ o]=>⟨c,k,v,b,o⟩
 |_=>⟨0,0,0,0,[]⟩
def aq9(p:GPart):dcP (ptA p)=p:=by simp only[ptA,dcP,ip]
def aep:List AV->GAt
 |[.v (.int _ ak),.v (.int _ av),.v (.int _ ao),.v (.int _ c),.tree _ ps,.v (.int _ tv),.v (.int _ tk),.v (.bool ng),.v (.string s)]=>⟨ak,av,ao,⟨c,ps.map dcP⟩,⟨tv,tk,ng,s⟩⟩
 |_=>zAt
def Kj(a:GAt):aep (atA a)=a:=by have e:(a.q_.a_.map ptA).map dcP=a.q_.a_:=(by rw[List.map_map];have:dcP∘ptA=id:=funext aq9;rw[this,List.map_id]);simp only[atA,aep,e]
structure GLit where
 e_:GAt
 F_:Bool
variable{M X:List (List GLit)}{xs:List GLit}
abbrev lyA(x:GLit):List AV:=[.v (.int .i64 x.e_.c_),.v (.int .i64 x.e_.o_),.v (.int .i64 x.e_.v_),.v (.int .i64 x.e_.q_.g_),.tree 5 (x.e_.q_.a_.map ptA),.v (.int .i64 x.e_.w_.v),.v (.int .i64 x.e_.w_.kd),.v (.bool x.e_.w_.ng),.v (.string x.e_.w_.s),.v (.bool x.F_)]
abbrev He(l:List GLit):List AV:=[.tree 10 (l.map lyA)]
def tt(a:GAt):List (List GLit):=if a.c_=4 then[[⟨a,false⟩],[⟨a,true⟩]]else[[⟨a,false⟩]]
def F1(L:List (List (List GLit))):List (List GLit):=L.foldl (fun out more=>out.flatMap fun f=>more.map (f++·)) [[]]
mutual
def exR:List AV->List (List GLit)
 | [.v (.int k0 kd),a1,a2,a3,a4,a5,a6,a7,a8,a9,.tree q es]=>
  if i9 [.v (.int k0 kd),a1,a2,a3,a4,a5,a6,a7,a8,a9,.tree q es]=0 then[]else
  if kd=2 then tt (aep [a1,a2,a3,a4,a5,a6,a7,a8,a9])else if kd=1 then(alw es).flatten else F1 (alw es)
 |_=>[]
def alw:List (List AV)->List (List (List GLit))
 | []=>[]
 |r :: rs=>exR r :: alw rs
end
theorem Nk:∀es,alw es=es.map exR
 |[]=>by rw[alw];rfl
 |r::rs=>by rw[alw,Nk rs];rfl
theorem we(x:GFm):exR (fmA x)=if i9 (fmA x)=0 then[]else if x.c_=2 then tt x.e_ else if x.c_=1 then(x.b_.map exR).flatten else F1 (x.b_.map exR):=by have h:=Kj x.e_;simp only[fmA,exR,ip,Nk];rw[show aep _=x.e_ from h]
theorem rg(L:List (List (List GLit)))(M:List (List GLit)):F1 (L++[M])=(F1 L).flatMap fun f=>M.map (f++·):=by simp[F1,List.foldl_append]
theorem Rn:∀(L:List Int) (s:Int),(∀n∈L,0<=n)->L.foldl (fun s n=>min (s+n) 257) s<=256->s<=256/\∀n∈L,n<=256-s
 |[],s,_,h=>⟨h,by simp⟩
 |a::L,s,hn,h=>by have ha:=hn a (by simp);obtain⟨h1,h2⟩:=Rn L (min (s+a) 257) (fun n h=>hn n (List.mem_cons_of_mem _ h)) h;refine⟨by omega,fun n hm=>?_⟩;rcases a0w.1 hm with rfl|hm;omega;have:=h2 n hm;omega
theorem Sp:∀(L:List Int) (s:Int),0<=s->(∀n∈L,0<=n)->0<L.foldl (fun s n=>min (s*n) 257) s->L.foldl (fun s n=>min (s*n) 257) s<=256->(0<s/\s<=256)/\∀n∈L,0<n/\n<=256
 |[],s,_,_,h0,h=>⟨⟨h0,h⟩,by simp⟩
 |a::L,s,hs,hn,h0,h=>by
  have ha:=hn a (by simp);have hm:=Int.mul_nonneg hs ha
  obtain⟨h1,h2⟩:=Sp L (min (s*a) 257) (by omega) (fun n h=>hn n (List.mem_cons_of_mem _ h)) h0 h;have h3:0<s*a/\s*a<=256:=by omega
  have h4:0<s:=by
   rcases Int.lt_or_eq_of_le hs with h|h;exact h;rw[<-h,Int.zero_mul]at h3;omega
  have ha0:0<a:=by
   rcases Int.lt_or_eq_of_le ha with h|h;exact h;rw[<-h,Int.mul_zero]at h3;omega
  have e1:s<=s*a:=by have:=Int.mul_le_mul_of_nonneg_left (show 1<=a by omega) hs;rwa [Int.mul_one]at this
  have e2:a<=s*a:=by have:=Int.mul_le_mul_of_nonneg_right (show 1<=s by omega) ha;rwa [Int.one_mul]at this
  refine⟨⟨h4,by omega⟩,fun n hm=>?_⟩;rcases a0w.1 hm with rfl|hm;omega;exact h2 n hm
section
variable{L:List Int}(hn:∀n∈L,0<=n)
include hn
theorem Gh(h:B8 L<=256)(k:Nat):B8 (L.take k)<=256:=by unfold B8 at h ⊢;rw[<-List.take_append_drop k L,List.foldl_append]at h;exact(Rn (L.drop k) _ (fun n g=>hn n (List.mem_of_mem_drop g)) h).1
theorem Y2(h:B8 L<=256):∀n∈L,n<=256:=fun n hm=>by have:=(Rn L 0 hn h).2 n hm;omega
theorem Gw(h0:0<xf L)(h:xf L<=256)(k:Nat):0<xf (L.take k)/\xf (L.take k)<=256:=by have hr:=(vm (L:=L.take k) fun n g=>hn n (List.mem_of_mem_take g)).1;unfold xf at h0 h hr ⊢;rw[<-List.take_append_drop k L,List.foldl_append]at h h0;exact(Sp (L.drop k) _ hr (fun n g=>hn n (List.mem_of_mem_drop g)) h0 h).1
theorem Mk(h0:0<xf L)(h:xf L<=256):∀n∈L,0<n/\n<=256:=(Sp L 1 (by decide) hn h0 h).2
end
def Bu{es:List (List AV)}(h:∀r∈es,IsFm r):∀n∈es.map i9,0<=n:=fun n hn=>by obtain⟨r,hr,rfl⟩:=a0v.1 hn;exact(zn (h r hr)).1
def pp(hx:FitFm x)(h2:¬x.c_=2)(h0:¬i9 (fmA x)=0)(h:i9 (fmA x)<=256):(x.c_=1->B8 (x.b_.map i9)<=256)/\(¬x.c_=1->0<xf (x.b_.map i9)/\xf (x.b_.map i9)<=256):=by have hr:=zn (B9 hx);rw[km,a0c h2]at h h0 hr;constructor;intro h1;rw[a0d h1]at h;exact h;intro h1;rw[a0c h1]at h h0 hr;omega
def su(hx:FitFm x)(h2:¬x.c_=2)(h0:¬i9 (fmA x)=0)(h:i9 (fmA x)<=256):∀r∈x.b_,i9 r<=256:=fun r hr=>by have hn:=Bu hx.b_.2;by_cases h1:x.c_=1;exact Y2 hn ((pp hx h2 h0 h).1 h1) _ (List.mem_map_of_mem hr);have:=(pp hx h2 h0 h).2 h1;exact(Mk hn this.1 this.2 _ (List.mem_map_of_mem hr)).2
theorem Bh{L:List (List GLit)} :(L.flatMap fun f=>M.map (f++·)).length=L.length*M.length:=by
 induction L with
 |nil=>simp
 |cons a L ih=>rw[List.flatMap_cons,az8,a0b,ih,a0r,Nat.add_mul,Nat.one_mul,Nat.add_comm]
section
variable{x:GFm}(hx:FitFm x)(h2:¬x.c_=2)(h0:¬i9 (fmA x)=0)(h:i9 (fmA x)<=256)(ih:∀r∈x.b_,i9 r<=256->(((exR r).length:Nat):Int)=i9 r)
include hx h2 h0 h ih
theorem S1(h1:x.c_=1):∀k,k<=x.b_.length->(((((x.b_.take k).map exR).flatten).length:Nat):Int)=B8 ((x.b_.take k).map i9)
 |0,_=>rfl
 |k+1,hk=>by have g:=S1 h1 k (by omega);have hs:=Gh (Bu hx.b_.2) ((pp hx h2 h0 h).1 h1) (k+1);rw[<-List.map_take]at hs;rw[a0g (by omega)]at hs ⊢;simp only[a0u,List.map_singleton,Gi]at hs ⊢;rw[List.flatten_append,az8];have e:=ih x.b_[k] (az4 _) (su hx h2 h0 h _ (az4 _));simp only[List.flatten_cons,List.flatten_nil,List.append_nil];omega
theorem K4(h1:¬x.c_=1):∀k,k<=x.b_.length->((((F1 ((x.b_.take k).map exR))).length:Nat):Int)=xf ((x.b_.take k).map i9)
 |0,_=>rfl
 |k+1,hk=>by have g:=K4 h1 k (by omega);have hp:=(pp hx h2 h0 h).2 h1;have hs:=Gw (Bu hx.b_.2) hp.1 hp.2 (k+1);rw[<-List.map_take]at hs;rw[a0g (by omega)]at hs ⊢;simp only[a0u,List.map_singleton,Gx]at hs ⊢;rw[rg,Bh];have e:=ih x.b_[k] (az4 _) (su hx h2 h0 h _ (az4 _));rw[Int.natCast_mul,g,e];omega
end
def Bl(r:List AV)(hr:IsFm r):i9 r<=256->(((exR r).length:Nat):Int)=i9 r:=
 IsFm.ind (M:=fun r=>i9 r<=256->(((exR r).length:Nat):Int)=i9 r) (fun x hx ih h=>by rw[we];by_cases h0:i9 (fmA x)=0;rw[a0d h0,h0];rfl;rw[a0c h0];by_cases h2:x.c_=2;rw[a0d h2,km,a0d h2];unfold tt;split<;>rfl;rw[a0c h2];by_cases h1:x.c_=1;have g:=S1 hx h2 h0 h ih h1 x.b_.length (a0j _);rw[List.take_length]at g;rw[a0d h1,g,km,a0c h2,a0d h1];have g:=K4 hx h2 h0 h ih h1 x.b_.length (a0j _);rw[List.take_length]at g;rw[a0c h1,g,km,a0c h2,a0c h1]) hr
mutual
def wgR(w:GAt->Nat):List AV->Nat
 | [.v (.int _ kd),a1,a2,a3,a4,a5,a6,a7,a8,a9,.tree _ es]=>if kd=2 then w (aep [a1,a2,a3,a4,a5,a6,a7,a8,a9])else(al5 w es).sum
 |_=>0
def al5(w:GAt->Nat):List (List AV)->List Nat
 | []=>[]
 |r :: rs=>wgR w r :: al5 w rs
end
theorem Li(w:GAt->Nat):∀es,al5 w es=es.map (wgR w)
 |[]=>by rw[al5];rfl
 |r::rs=>by rw[al5,Li w rs];rfl
theorem uw(w:GAt->Nat)(x:GFm):wgR w (fmA x)=if x.c_=2 then w x.e_ else(x.b_.map (wgR w)).sum:=by have h:=Kj x.e_;simp only[fmA,wgR,ip,Li];rw[show aep _=x.e_ from h]
theorem Ro{L:List Nat}{n:Nat}(h:n∈L):n<=L.sum:=by
 induction L with
 |nil=>simp at h
 |cons a L ih=>
  rw[List.sum_cons]
  rcases a0w.1 h with rfl|h
  ·omega
  ·have:=ih h;omega
def wgL(w:GAt->Nat)(l:List GLit):Nat:=(l.map fun x=>w x.e_).sum
theorem af8(w:GAt->Nat)(a b:List GLit):wgL w (a++b)=wgL w a+wgL w b:=by simp[wgL]
theorem Sr{w:GAt->Nat}:∀{es:List (List AV)},(∀r∈es,∀c∈exR r,wgL w c<=wgR w r)->∀{k:Nat},k<=es.length->∀c∈F1 ((es.take k).map exR),wgL w c<=((es.take k).map (wgR w)).sum:=by
 intro es h k
 induction k with
 |zero=>intro _ c hc;simp[F1]at hc;subst hc;simp[wgL]
 |succ k ih=>
  intro hk c hc
  rw[a0g (by omega),a0u,List.map_singleton]at hc ⊢
  rw[rg]at hc
  obtain⟨f,hf,hc⟩:=List.mem_flatMap.1 hc
  obtain⟨g,hg,rfl⟩:=a0v.1 hc
  rw[af8,List.sum_append]
  have h1:=ih (by omega) f hf
  have h2:=h _ (az4 _) g hg
  simp only[List.sum_cons,List.sum_nil]
  omega
def Vf(w:GAt->Nat)(r:List AV)(hr:IsFm r):∀c∈exR r,wgL w c<=wgR w r:=
 IsFm.ind (M:=fun r=>∀c∈exR r,wgL w c<=wgR w r) (fun x hx ih c hc=>by rw[we]at hc;by_cases h0:i9 (fmA x)=0;rw[a0d h0]at hc;simp at hc;rw[a0c h0]at hc;rw[uw];by_cases h2:x.c_=2;rw[a0d h2]at hc ⊢;unfold tt at hc;split at hc;rcases a0w.1 hc with rfl|hc;simp[wgL];rw[az9.1 hc];simp[wgL];rw[az9.1 hc];simp[wgL];rw[a0c h2]at hc ⊢;by_cases h1:x.c_=1;rw[a0d h1]at hc;obtain⟨L,hL,hc⟩:=List.mem_flatten.1 hc;obtain⟨r,hr,rfl⟩:=a0v.1 hL;exact a0m (ih r hr c hc) (Ro (List.mem_map_of_mem hr));rw[a0c h1]at hc;have:=Sr ih (a0j _) c (by rwa [List.take_length]);rwa [List.take_length]at this) hr
end Go.Proofs.YtfpfdfhlljjckaaGreatDoor
namespace Go.Proofs
open Go.Shelf
def Tryz.growL_ren:Go.Shelf.Ren:=⟨fun|4=>257|n=>n,fun|22=>292|25=>319|3=>3|4=>4|9=>9|20=>20|0=>0|n=>n,fun|n=>n⟩
def Tryz.growL:Go.Proofs.Lays8.n4 Tryz.prog Tryz.growL_ren:={
 mixed:=by kernel_rfl
 f4:=⟨Tryz.f257.name,by decide,Tryz.func257.trans (congrArg some (by kernel_rfl))⟩
 t0:=Tryz.underlying0
 a0:=Tryz.isAgg0
 z0:=Tryz.sizeOf0
 v0:=Tryz.zeroValue0
 t3:=Tryz.underlying3
 a3:=Tryz.isAgg3
 z3:=Tryz.sizeOf3
 v3:=Tryz.zeroValue3
 t4:=Tryz.underlying4
 a4:=Tryz.isAgg4
 z4:=Tryz.sizeOf4
 v4:=Tryz.zeroValue4
 t9:=Tryz.underlying9
 a9:=Tryz.isAgg9
 z9:=Tryz.sizeOf9
 v9:=Tryz.zeroValue9
 t20:=Tryz.underlying20
 a20:=Tryz.isAgg20
 z20:=Tryz.sizeOf20
 v20:=Tryz.zeroValue20
 t22:=Tryz.underlying292
 a22:=Tryz.isAgg292
 z22:=Tryz.sizeOf292
 v22:=Tryz.zeroValue292}
end Go.Proofs
namespace Go.Proofs.YtfpfdfhlljjckaaGreatDoor
open Tryz
variable{af:Array Edge}{x:GFm}{p q:GPart}{c e n s v:Int}{es:List (Int×Int)}{o r:List AV}{ps:List GPart}{N nn vs z:List Int}{S fp:List Nat}{A' L:List PAux}{C:List PCl}{gs:List PLin}{l:List PVar}{B i j k m t t':Nat}{τ:Nat->AV}{y:Operand}{d:Option Tmp}{f:PLin}{P:Program}{pos:String}{α:Type}{ty:TypeId}{M X:List (List GLit)}{xs:List GLit}
set_option maxRecDepth 1000000
set_option maxHeartbeats 0
set_option linter.unusedVariables false
set_option linter.unusedSimpArgs false
open Go.RowKit
def aln(P:Program)(f:FuncId)(args:List AV)(z:Nat):Prop:=
 ∀(T:Nat->Prop) (w:World) (vals:Array Value),TRs T w args vals->(∀b,T b->b<w.heap.size)->Calls P f vals w (fun e w'=>∃b o cap cells t,e=.returned (.slice (some ⟨b,o,none⟩) 0 cap)/\Below w.heap.size w w'/\w.heap.size<=b/\w'.heap[b]? =some (.cells cells t (0,0))/\cap<=maxLen/\o+cap*z<=cells.size)
section
variable{P:Program}{τ:Nat->AV}{η:bo}{d:Option Tmp}{ty:TypeId}{pos:String}{af:Array Edge}{g:Option (Nat×Bool)}
def X4(u:Nat){f:FuncId}{xs:Array Operand}{ats:Array TypeId}{z:Nat}(hb:ca P f=true)(hp:cj (xs.toList.map (aev τ))=true)(hc:aln P f (xs.toList.map (aev τ)) z):
 LOp P ⟨d,.call {callee:=.value (.func f),args:=xs,argTypes:=ats},ty,pos,af,g⟩ τ η [] [(u,some ⟨0,[],z,false⟩)] (.sl u 0 0 0):=by
 intro C a hg h7 _ h3 K Q hK
 have hu:¬C.U u:=h3 (u,some ⟨0,[],z,false⟩) (by simp) (by simp)
 have h1:=N6 (a:=a) (fun x hx=>h7 x (by simp[Op.operands,Call.operands];exact .inr (by simpa using hx))) hp
 have h4:(execOp a.eval ⟨d,.call {callee:=.value (.func f),args:=xs,argTypes:=ats},ty,pos,af,g⟩).run P C.w=.ok (.enter f (xs.map a.eval)) C.w:=by have:execOp a.eval ⟨d,.call {callee:=.value (.func f),args:=xs,argTypes:=ats},ty,pos,af,g⟩=callFunc f (#[]++xs.map a.eval++#[]):=rfl;rw[this,ig hb];simp
 unfold Oper.wp
 rw[h4]
 refine Calls.mono (hc C.T C.w _ h1 (fun b hb=>hg.tlt hb)) ?_
 rintro e w' ⟨b,o,cap,cells,t,rfl,h0,h8,h2,h5,hsz⟩
 have h6:ReplOk C u (b,o) cells.size ⟨0,[],z,false⟩ w':=⟨h0.os,h0.tape,h0.output,h0.size,fun k hk _=>h0.block k hk,.inr h8,fun h=>absurd h hu,rfl,fun e=>absurd e (by show¬((0:Nat)=TV);decide),cells,t,h2,rfl,by simp;omega,fun j h=>absurd h (by simp)⟩
 refine hK _ (C.repl u (b,o) cells.size ⟨0,[],z,false⟩ w') rfl (fun i=>by simp[Ctx.repl]) (qp hg h6) (qq hg h6) ?_
 have:=VR.sl (C:=C.repl u (b,o) cells.size ⟨0,[],z,false⟩ w') (id:=u) (ver:=0) (off:=0) (len:=0) (cap:=cap) (b:=⟨0,[],z,false⟩) (ay _ _ _) rfl rfl (a0h _) h5 (a0h _) (by simp[Ctx.repl];omega)
 simpa[Ctx.repl]using this
end
theorem Lr{T:Nat->Prop}{w:World}{x y:Value}{vals:Array Value}(h:TRs T w [.v x,.v y] vals):vals=#[x,y]:=by obtain⟨h0,hv⟩:=h;have k0:=(hv 0 (by simp) (by simp at h0;omega)).v_inv;have k1:=(hv 1 (by simp) (by simp at h0;omega)).v_inv;apply Array.ext;simpa using h0.symm;intro i hi h1;have:i=0\/i=1:=(by simp at h1;omega);rcases this with rfl|rfl;exact k0;exact k1
def Jk:RowF lyA 10:=⟨fun _=>rfl,fun _=>rfl,fun _ _=>rfl,fun _ _=>rfl,fun _ _=>rfl,fun _=>rfl⟩
def kc:RowF (fun l:List GLit=>[AV.tree 10 (l.map lyA)]) 1:=⟨fun _=>rfl,fun _=>rfl,fun _ _=>rfl,fun _ _=>rfl,fun _ _=>rfl,fun _=>rfl⟩
def Mc:RowF He 1:=kc
def ai9{η:bo}{id v:Nat}(h0:id∈fp)(hb:η id=some ⟨v,[.v (.slice none 0 0)],1,false⟩):FzP fp η (.sl id v 0 1) (.tree 1 ([([]:List GLit)].map He)):=by refine FzP.sl (rows:=[He []]) h0 hb rfl rfl (by decide) (fun k h=>?_) (fun k h j h'=>?_);have hk:k=0:=(by simp at h;omega);subst hk;rfl;have hk:k=0:=(by simp at h;omega);subst hk;have hj:j=0:=(by simp[He]at h';omega);subst hj;exact⟨.v (.slice none 0 0),rfl,FzP.nil⟩
def w1(_:GAt):Nat:=1
theorem al6(l:List GLit):wgL w1 l=l.length:=by
 induction l with
 |nil=>rfl
 |cons a l ih=>simp only[wgL,a0t,List.sum_cons,a0r]at ih ⊢;rw[ih];show 1+_=_;omega
def ex_0(h:i9 (fmA x)=0):[]=(exR (fmA x)).map He:=by rw[we,a0d h];rfl
def ex_4(h0:¬i9 (fmA x)=0)(h2:x.c_=2)(h:x.e_.c_=4):[[⟨x.e_,false⟩],[⟨x.e_,true⟩]]=exR (fmA x):=by rw[we,a0c h0,a0d h2,tt,a0d h]
def ex_2(h0:¬i9 (fmA x)=0)(h2:x.c_=2)(h:¬x.e_.c_=4):[[⟨x.e_,false⟩]]=exR (fmA x):=by rw[we,a0c h0,a0d h2,tt,a0c h]
def ex_1{L:List (List GLit)}(h0:¬i9 (fmA x)=0)(h2:¬x.c_=2)(h1:x.c_=1)(hk:¬k<x.b_.length)(hL:L=((x.b_.take k).map exR).flatten):L=exR (fmA x):=by rw[we,a0c h0,a0c h2,a0d h1,hL,a0x (by omega)]
def ex_p{L:List (List GLit)}(h0:¬i9 (fmA x)=0)(h2:¬x.c_=2)(h1:¬x.c_=1)(hk:¬k<x.b_.length)(hL:L=F1 ((x.b_.take k).map exR)):L=exR (fmA x):=by rw[we,a0c h0,a0c h2,a0c h1,hL,a0x (by omega)]
def aco(h2:¬x.c_=2){N:Nat}(hw:wgR w1 (fmA x)<=N):∀r∈x.b_,wgR w1 r<=N:=fun r hr=>by rw[uw,a0c h2]at hw;exact a0m (Ro (List.mem_map_of_mem hr)) hw
section
variable{x x1:GFm}{k:Nat}
theorem aob{L:List (List GLit)}(hk:k<x.b_.length)(he:x.b_[k]=fmA x1)(hL:L=((x.b_.take k).map exR).flatten):L++exR (fmA x1)=((x.b_.take (k+1)).map exR).flatten:=by grind[a0g,List.flatten_append,List.map_singleton]
variable(hx:FitFm x)(h2:¬x.c_=2)(h0:¬i9 (fmA x)=0)(h:i9 (fmA x)<=256)
include hx h2 h0 h
theorem awo{L:List (List GLit)}(h1:x.c_=1)(hk:k<x.b_.length)(he:x.b_[k]=fmA x1)(hL:L=((x.b_.take k).map exR).flatten):L.length+(exR (fmA x1)).length<=256:=by have g:=S1 hx h2 h0 h (fun r hr=>Bl r (hx.b_.2 r hr)) h1 (k+1) (by omega);rw[<-aob hk he hL,az8]at g;have hs:=Gh (Bu hx.b_.2) ((pp hx h2 h0 h).1 h1) (k+1);rw[<-List.map_take]at hs;omega
theorem at4{L:List (List GLit)}(h1:¬x.c_=1)(hk:k<x.b_.length)(he:x.b_[k]=fmA x1)(hL:L=F1 ((x.b_.take k).map exR)):L.length*(exR (fmA x1)).length<=256/\(exR (fmA x1)).length<=256/\L.length<=256:=by have g:=K4 hx h2 h0 h (fun r hr=>Bl r (hx.b_.2 r hr)) h1 (k+1) (by omega);have hp:=(pp hx h2 h0 h).2 h1;have hs:=Gw (Bu hx.b_.2) hp.1 hp.2 (k+1);rw[<-List.map_take]at hs;have e3:(F1 ((x.b_.take (k+1)).map exR)).length=L.length*(exR (fmA x1)).length:=(by rw[a0g hk,a0u,List.map_singleton,rg,Bh,<-hL,he]);have e:=(Mk (Bu hx.b_.2) hp.1 hp.2 _ (List.mem_map_of_mem (az4 hk))).1;have e2:=Bl _ (hx.b_.2 _ (az4 hk)) (su hx h2 h0 h _ (az4 hk));rw[he]at e e2;have e4:=su hx h2 h0 h _ (az4 hk);rw[he]at e4;have e5:L.length*(exR (fmA x1)).length<=256:=(by rw[<-e3];omega);have e6:L.length*1<=L.length*(exR (fmA x1)).length:=Nat.mul_le_mul_left _ (by omega);exact⟨e5,by omega,by omega⟩
theorem at2{L:List (List GLit)}{N:Nat}(hw:wgR w1 (fmA x)<=N)(hk:k<x.b_.length)(he:x.b_[k]=fmA x1)(hL:L=F1 ((x.b_.take k).map exR)):∀a∈L,∀b∈exR (fmA x1),a.length+b.length<=N:=by intro a ha b hb;rw[hL]at ha;have g1:=Sr (w:=w1) (fun r hr=>Vf w1 r (hx.b_.2 r hr)) (by omega:k<=x.b_.length) a ha;have g2:=Vf w1 _ (hx.b_.2 _ (az4 hk)) b (by rw[he];exact hb);rw[al6]at g1 g2;rw[uw,a0c h2]at hw;have e:(x.b_.map (wgR w1)).sum=((x.b_.take k).map (wgR w1)).sum+((x.b_.drop k).map (wgR w1)).sum:=(by rw[<-List.sum_append,<-a0u,List.take_append_drop]);rw[a00 hk,a0t,List.sum_cons]at e;omega
end
def crs(F B:List (List GLit))(i j:Nat):List (List GLit):=((F.take i).flatMap fun f=>B.map (f++·))++(if h:i<F.length then(B.take j).map (F[i]++·)else[])
section
variable{F B L:List (List GLit)}{i j:Nat}
def arc(hi:i<F.length)(hj:j<B.length)(h:L=crs F B i j):L++[F[i]++B[j]]=crs F B i (j+1):=by grind[crs,a0g,List.append_assoc]
theorem ajv(hi:i<F.length)(hj:¬j<B.length):crs F B i j=crs F B (i+1) 0:=by grind[crs,a0x,a0g]
theorem ajx(hi:¬i<F.length):crs F B i 0=F.flatMap fun f=>B.map (f++·):=by unfold crs;rw[dif_neg hi,a0x (by omega),List.append_nil]
def ajw(hi:i<F.length)(hj:j<=B.length):(crs F B i j).length<=F.length*B.length:=by unfold crs;rw[dif_pos hi,az8,Bh,a0b,List.length_take,List.length_take,Nat.min_eq_left (by omega),Nat.min_eq_left hj];have:(i+1)*B.length<=F.length*B.length:=Nat.mul_le_mul_right _ hi;rw[Nat.add_mul]at this;omega
end
def at3{x1:GFm}{L:List (List GLit)}(hk:k<x.b_.length)(he:x.b_[k]=fmA x1)(hL:L=F1 ((x.b_.take k).map exR))(hM:M=crs L (exR (fmA x1)) i 0)(hi:¬i<L.length):M=F1 ((x.b_.take (k+1)).map exR):=by rw[a0g hk,a0u,List.map_singleton,rg,<-hL,he,hM,ajx hi]
def Uq(m:Int)(h:m=0):jz prog 257 [.v (.slice none 0 0),.v (.int .i64 m)] (.v (.slice none 0 0)):=by subst h;intro T w vals hv hT;rw[Lr hv];refine(Any8.slices_Grow_room Tryz.growL none 0 0 0 w (a0j _) (by omega) (by omega) (by omega)).mono ?_;rintro e w' ⟨rfl,rfl⟩;exact⟨_,T,rfl,.v _,fun _ h=>h,fun _ h=>.inl h,fun b hb=>hT b hb,Below.refl _ _⟩
theorem Up{z:Value}(m:Nat)(h0:0<m)(h1:m<=100000)(hs:am prog 319=some 10)(hz:bv prog 319=some z)(h2:z.cells.size=10)(hb:(prog.info? 319).map (·.bytes)=some B)(hB:B<=1000):aln prog 257 [.v (.slice none 0 0),.v (.int .i64 ((m:Nat):Int))] 10:=by
 intro T w vals hv hT
 rw[Lr hv]
 unfold am at hs
 unfold bv at hz
 cases hi:prog.info? 319 with
 |none=>rw[hi]at hs;cases hs
 |some inf=>
  rw[hi]at hz hs hb
  simp only[a03]at hz
  simp only[a02,az7]at hs hb
  have hmB:(0+m)*inf.bytes<=140737488355328:=by
   rw[hb]
   exact a0m (Nat.mul_le_mul (Nat.le_of_eq (Nat.zero_add m)) hB) (by omega)
  refine(Any8.slices_Grow_grow Tryz.growL inf _ hi hz (by omega) none 0 0 m [] w (a0j _) (by omega) (by omega) (by omega) (by simp) (fun _=>rfl) (fun a h=>by cases h)).mono ?_
  rintro e w' ⟨rfl,rfl⟩
  have hge:=grownCap_ge w (0+m) 0 319
  have h3:grownCap w (0+m) 0 319<=maxLen:=grownCap_le_maxLen w (0+m) 0 319 (by unfold maxLen;omega)
  refine⟨w.heap.size,0,_,_,319,rfl,?_,a0j _,heap_alloc_new w.drew _,h3,?_⟩
  ·exact⟨rfl,rfl,rfl,by simp,fun k hk=>Below.heap_alloc w.drew _ k hk⟩
  ·have e26:(Tryz.growL_ren.t 25)=319:=rfl
   simp only[e26,Array.size_append,size_zeroCells,h2]
   simp
   omega
def ai7(x:Int)(m:Nat)(hx:x=((m:Nat):Int))(h0:0<m)(h1:m<=100000)(hs:am prog 319=some 10){z:Value}(hz:bv prog 319=some z)(h2:z.cells.size=10)(hb:(prog.info? 319).map (·.bytes)=some B)(hB:B<=1000):aln prog 257 [.v (.slice none 0 0),vI x] 10:=by subst hx;exact Up m h0 h1 hs hz h2 hb hB
def ash:ca prog 257=true:=by kernel_rfl
def ar2:(prog.info? 292).map (·.bytes)=some 24:=by kernel_rfl
def akg:(prog.info? 319).map (·.bytes)=some 104:=by kernel_rfl
def Om:am prog 292=some 1:=by kernel_rfl
def Gg:am prog 319=some 10:=by kernel_rfl
def Oh:bv prog 292=some (.slice none 0 0):=by kernel_rfl
def Og:bv prog 319=some (.agg #[.int .i64 0,.int .i64 0,.int .i64 0,.int .i64 0,.slice none 0 0,.int .i64 0,.int .i64 0,.bool false,.string ⟨#[]⟩,.bool false]):=by kernel_rfl
def Vy(a b:List GLit)(hp:0<a.length+b.length)(hl:a.length+b.length<=100000):PRet prog 218 [.tree 1 (([a,b]).map (fun l=>[.tree 10 (l.map lyA)]))] (fun q=>q=.tree 10 ((a++b).map lyA)):=by have e0:([a,b][0]).length=a.length:=rfl;have e1:([a,b][1]).length=b.length:=rfl;refine ovT [24,33] [] func218 rfl rfl (LenG.of (ks (ULp.step (cT (IdxG.of (j:=0) (by simp) (LenG.of ⟨by omega,cB (fun h0=>by exfalso;have h:=a0f h0;omega) (fun h0=>⟨by omega,ULp.step (cT (IdxG.of (j:=1) (by simp) (LenG.of ⟨by omega,cB (fun h0=>by exfalso;have h:=a0f h0;omega) (fun h0=>⟨by omega,ULp.step (cF (OpG.nw (X4 0 ash rfl (ai7 _ (a.length+b.length) (by simp) hp hl Gg Og rfl akg (by omega))) rfl (LenG.of (ks (ULp.step (cT (IdxG.of (j:=0) (by simp) (OpG.mk _ _ _ 1 (qo Jk (l:=[]) (l':=a) underlying292 Gg Og akg rfl rfl rfl rfl (by simp only[a0s];omega) (by simp only[a0s];omega) (by unfold TV;omega)) rfl rfl ⟨by omega,ULp.step (cT (IdxG.of (j:=1) (by simp) (OpG.mk _ _ _ 1 (qo Jk (l:=[]++a) (l':=b) underlying292 Gg Og akg rfl rfl rfl rfl (by simp only[az8,a0s];omega) (by simp only[az8,a0s];omega) (by unfold TV;omega)) rfl rfl ⟨by omega,ULp.step (cF (rtA rfl ⟨[0],jd Jk (az9.2 rfl) rfl⟩ ?_))⟩)))⟩))))))))⟩)⟩)))⟩)⟩))))));simp
def Vz(a b:List GLit)(ha:a=[])(hb:b=[]):PRet prog 218 [.tree 1 (([a,b]).map (fun l=>[.tree 10 (l.map lyA)]))] (fun q=>q=.tree 10 []):=by subst ha;subst hb;have e0:([([]:List GLit),[]][0]).length=0:=rfl;have e1:([([]:List GLit),[]][1]).length=0:=rfl;refine ovT [33] [] func218 rfl rfl (LenG.of (ks (ULp.step (cT (IdxG.of (j:=0) (by simp) (LenG.of ⟨by omega,cB (fun h0=>by exfalso;have h:=a0f h0;simp at h) (fun h0=>⟨by omega,ULp.step (cT (IdxG.of (j:=1) (by simp) (LenG.of ⟨by omega,cB (fun h0=>by exfalso;have h:=a0f h0;simp at h) (fun h0=>⟨by omega,ULp.step (cF (ArgG.mk (PRet.of_call (Uq _ (by rfl))) rfl ?_))⟩)⟩)))⟩)⟩))))));rintro _ rfl;exact LenG.of (ks (ULp.step (cT (IdxG.of (j:=0) (by simp) (OpG.lk (B3 underlying292 Gg rfl (n8 (f:=lyA) (l:=[]) rfl) rfl) ⟨by omega,ULp.step (cT (IdxG.of (j:=1) (by simp) (OpG.lk (B3 underlying292 Gg rfl (n8 (f:=lyA) (l:=[]) rfl) rfl) ⟨by omega,ULp.step (cF (rtA rfl ⟨[],FzP.nil (n:=10)⟩ rfl))⟩)))⟩)))))
def Vx(a b:List GLit)(hl:a.length+b.length<=100000):PRet prog 218 [.tree 1 ([a,b].map He)] (fun q=>q=.tree 10 ((a++b).map lyA)):=by by_cases h:0<a.length+b.length;exact Vy a b h hl;have ha:a=[]:=a0y (by omega);have hb:b=[]:=a0y (by omega);subst ha;subst hb;exact Vz [] [] rfl rfl
def aaw(x:GFm)(hx:FitFm x)(vs:List PVar)(ht:FmK vs (fmA x))(hf:i9 (fmA x)<=256)(hw:wgR w1 (fmA x)<=100000)(ih:∀r∈x.b_,FmK vs r->i9 r<=256->wgR w1 r<=100000->PRet prog 190 [.agg (rwA r)] (fun q=>q=.tree 1 ((exR r).map He))):PRet prog 190 [.agg (fmA x)] (fun q=>q=.tree 1 ((exR (fmA x)).map He)):=by have hfl:=Uz ht;refine ovT [29,33,34,38,39,52,55,80] [31] func190 rfl rfl ?_;refine ArgG.mk (Np (fmA x) (B9 hx)) rfl ?_;rintro _ rfl;apply cB<;>intro hg;have h1:=hg;simp at h1;refine rtA rfl ⟨[],FzP.nil (n:=1)⟩ ?_;exact congrArg (AV.tree 1) (ex_0 h1);have h1:=hg;simp at h1;apply cB<;>intro hh;have h3:=hh;simp at h3;apply cB<;>intro hi;have h8:=hi;simp at h8;refine OpG.nw (cy (dn underlying292 Gg Og rfl rfl rfl rfl) (fun η' h=>be (f:=lyA) (l:=([⟨x.e_,false⟩]:List GLit)) (az9.2 rfl) h rfl rfl rfl rfl rfl (fun a _=>⟨rfl,rfl⟩))) rfl ?_;refine OpG.nw (cy (dn underlying292 Gg Og rfl rfl rfl rfl) (fun η' h=>be (f:=lyA) (l:=([⟨x.e_,true⟩]:List GLit)) (az9.2 rfl) h rfl rfl rfl rfl rfl (fun a _=>⟨rfl,rfl⟩))) rfl ?_;refine OpG.nw (cy (dn underlying290 Om Oh rfl rfl rfl rfl) (fun η' h=>be (f:=He) (l:=[([⟨x.e_,false⟩]:List GLit),([⟨x.e_,true⟩]:List GLit)]) (az9.2 rfl) h rfl rfl rfl rfl rfl (fun a _=>⟨rfl,rfl⟩))) rfl ?_;refine rtA rfl ⟨[],FzP.pure rfl⟩ ?_;exact congrArg (fun L=>AV.tree 1 (L.map He)) (ex_4 h1 h3 h8);have h8:=hi;simp at h8;refine OpG.nw (cy (dn underlying292 Gg Og rfl rfl rfl rfl) (fun η' h=>be (f:=lyA) (l:=([⟨x.e_,false⟩]:List GLit)) (az9.2 rfl) h rfl rfl rfl rfl rfl (fun a _=>⟨rfl,rfl⟩))) rfl ?_;refine OpG.nw (cy (dn underlying290 Om Oh rfl rfl rfl rfl) (fun η' h=>be (f:=He) (l:=[([⟨x.e_,false⟩]:List GLit)]) (az9.2 rfl) h rfl rfl rfl rfl rfl (fun a _=>⟨rfl,rfl⟩))) rfl ?_;refine rtA rfl ⟨[],FzP.pure rfl⟩ ?_;exact congrArg (fun L=>AV.tree 1 (L.map He)) (ex_2 h1 h3 h8);have h3:=hh;simp at h3;apply cB<;>intro hj;have h9:=hj;simp at h9;refine LenG.of (LpG.via (fun _ h=>bu 3 1 rfl 2 rfl h) ?_);refine LpG.on (fun k1:KW (List GLit)=>(⟨fL [(3,.sl 1 k1.v 0 k1.L.length),(43,.tree 11 (x.b_.map rwA)),(44,vI x.b_.length),(45,vI k1.k)],hLz [(1,⟨k1.v,rF (fun l=>[.tree 10 (l.map lyA)]) k1.L,1,Nat.beq k1.L.length 0⟩)],2⟩:St)) (fun k1=>(x.b_.length-k1.k)) (fun k1=>(k1.k<=x.b_.length/\(k1.L=((x.b_.take k1.k).map exR).flatten/\k1.v<=k1.k))) (⟨0,[],0⟩:KW (List GLit)) (cnS (by rfl) (hpS (aa kc _ _) (by rfl) trivial)) ⟨a0h _,⟨rfl,a0j _⟩⟩ ?_;rintro k1 h4;have hgr_k1:x.b_.length<=140737488355328:=hx.b_.1;obtain⟨hle_k1,h5⟩:=h4;apply cB<;>intro hk;have h6:k1.k<x.b_.length:=Int.ofNat_lt.1 (a0f hk);obtain⟨x1,h0,hu⟩:=(hx.b_.2 _ (az4 h6)).open_;have hd:fmA x1∈x.b_:=h0▸az4 h6;have hc:¬x.c_=2:=‹_›;have hv:=awo hx hc h1 hf ‹_› h6 h0 h5.1;have hvv:=h5.2;refine cz (j:=k1.k) ‹_› h0 (ArgG.mk (ih (fmA x1) hd ((zh ht).2.2 hc _ hd) (su hx hc h1 hf _ hd) (aco hc hw _ hd)) rfl ?_);rintro _ rfl;refine OpG.mk _ _ _ 3 (fd Mc (l:=k1.L) (l':=(exR (fmA x1))) underlying290 Om Oh ar2 rfl rfl rfl rfl (by omega) (by omega) (by unfold TV;omega)) rfl rfl ?_;refine⟨by omega,?_⟩;refine⟨(⟨k1.k+1,k1.L++(exR (fmA x1)),vbX k1.v (k1.L++(exR (fmA x1))).length⟩:KW (List GLit)),(nsA ‹_›),(cnS (by rfl) (hpS (aa kc _ _) (by rfl) trivial)),?_⟩;refine⟨‹_›,?_⟩;exact⟨aob h6 h0 h5.1,show vbX _ _<=k1.k+1 from a0m xz.2 (by omega)⟩;have hl:¬k1.k<x.b_.length:=fun h=>a0e hk (Int.ofNat_lt.2 h);refine rtA rfl ⟨[1],FzP.rows Mc (az9.2 rfl) rfl⟩ ?_;exact congrArg (fun L=>AV.tree 1 (L.map He)) (ex_1 h1 h3 h9 hl h5.1);have h9:=hj;simp at h9;refine OpG.nw (cy (dn underlying290 Om Oh rfl rfl rfl rfl) (fun η' h=>ai9 (az9.2 rfl) h)) rfl ?_;refine LenG.of (LpG.on (fun k3:KL (List GLit)=>(⟨fL [(6,.tree 1 (k3.L.map (fun l=>[.tree 10 (l.map lyA)]))),(57,.tree 11 (x.b_.map rwA)),(58,vI x.b_.length),(59,vI k3.k)],hLz [],2⟩:St)) (fun k3=>(x.b_.length-k3.k)) (fun k3=>(k3.k<=x.b_.length/\(k3.L=F1 ((x.b_.take k3.k).map exR)))) (⟨0,[[]]⟩:KL (List GLit)) (cnR rfl) ⟨a0h _,rfl⟩ ?_);rintro k3 h4;have hgr_k3:x.b_.length<=140737488355328:=hx.b_.1;obtain⟨hle_k3,h7⟩:=h4;apply cB<;>intro hm;have h2:k3.k<x.b_.length:=Int.ofNat_lt.1 (a0f hm);obtain⟨x1,h0,hu⟩:=(hx.b_.2 _ (az4 h2)).open_;have hd:fmA x1∈x.b_:=h0▸az4 h2;have hc:¬x.c_=2:=‹_›;have hv:=at4 hx hc h1 hf ‹_› h2 h0 h7;have hy:=at2 hx hc h1 hf hw h2 h0 h7;refine cz (j:=k3.k) ‹_› h0 (ArgG.mk (ih (fmA x1) hd ((zh ht).2.2 hc _ hd) (su hx hc h1 hf _ hd) (aco hc hw _ hd)) rfl ?_);rintro _ rfl;refine LenG.of (LpG.via (fun _ h=>bu 9 1 rfl 4 rfl h) ?_);refine LpG.on (fun k5:KL (List GLit)=>(⟨fL [(9,.sl 3 k5.L.length 0 k5.L.length),(10,.tree 1 (((exR (fmA x1))).map (fun l=>[.tree 10 (l.map lyA)]))),(57,.tree 11 (x.b_.map rwA)),(58,vI x.b_.length),(59,vI k3.k),(65,.tree 1 (k3.L.map (fun l=>[.tree 10 (l.map lyA)]))),(66,vI k3.L.length),(67,vI k5.k)],hLz [(3,⟨k5.L.length,rF (fun l=>[.tree 10 (l.map lyA)]) k5.L,1,Nat.beq k5.L.length 0⟩)],4⟩:St)) (fun k5=>(k3.L.length-k5.k)) (fun k5=>(k5.k<=k3.L.length/\(k5.L=crs k3.L (exR (fmA x1)) k5.k 0))) (⟨0,[]⟩:KL (List GLit)) (cnS (by rfl) (hpS (aa kc _ _) (by rfl) trivial)) ⟨a0h _,(by unfold crs;simp)⟩ ?_;rintro k5 h4;obtain⟨hle_k5,he⟩:=h4;apply cB<;>intro hn;have ha:k5.k<k3.L.length:=Int.ofNat_lt.1 (a0f hn);skip;refine IdxG.of ‹_› (LenG.of ?_);refine LpG.on (fun k7:KL (List GLit)=>(⟨fL [(9,.sl 3 k7.L.length 0 k7.L.length),(10,.tree 1 (((exR (fmA x1))).map (fun l=>[.tree 10 (l.map lyA)]))),(12,.tree 10 ((k3.L[k5.k]).map lyA)),(57,.tree 11 (x.b_.map rwA)),(58,vI x.b_.length),(59,vI k3.k),(65,.tree 1 (k3.L.map (fun l=>[.tree 10 (l.map lyA)]))),(66,vI k3.L.length),(67,vI k5.k),(71,.tree 1 (((exR (fmA x1))).map (fun l=>[.tree 10 (l.map lyA)]))),(72,vI ((((exR (fmA x1))).length:Nat):Int)),(73,vI k7.k)],hLz [(3,⟨k7.L.length,rF (fun l=>[.tree 10 (l.map lyA)]) k7.L,1,Nat.beq k7.L.length 0⟩)],4⟩:St)) (fun k7=>((exR (fmA x1)).length-k7.k)) (fun k7=>(k7.k<=(exR (fmA x1)).length/\(k7.L=crs k3.L (exR (fmA x1)) k5.k k7.k))) (⟨0,k5.L⟩:KL (List GLit)) (cnS (by rfl) (hpS (aa kc _ _) (by rfl) trivial)) ⟨a0h _,he⟩ ?_;rintro k7 h4;obtain⟨hle_k7,hb⟩:=h4;apply cB<;>intro ho;have hp:k7.k<((exR (fmA x1))).length:=Int.ofNat_lt.1 (a0f ho);have hz:=ajw (F:=k3.L) (B:=(exR (fmA x1))) (i:=k5.k) (j:=k7.k) ha (by omega);rw[<-hb]at hz;refine IdxG.of ‹_› (OpG.nw (cy (dn underlying290 Om Oh rfl rfl rfl rfl) (fun η' h=>be (f:=He) (l:=[k3.L[k5.k],(exR (fmA x1))[k7.k]]) (az9.2 rfl) h rfl rfl rfl rfl rfl (fun a _=>⟨rfl,rfl⟩))) rfl ?_);refine ArgG.mk (Vx k3.L[k5.k] (exR (fmA x1))[k7.k] (hy _ (az4 _) _ (az4 _))) rfl ?_;rintro _ rfl;refine OpG.mk _ _ _ 6 (ae kc (a:=(k3.L[k5.k]++(exR (fmA x1))[k7.k])) underlying290 Om Oh ar2 rfl rfl rfl (ap rfl rfl rfl rfl) rfl (by omega) (by omega) (by unfold TV;omega)) rfl rfl ?_;refine⟨by omega,?_⟩;refine⟨(⟨k7.k+1,k7.L++[(k3.L[k5.k]++(exR (fmA x1))[k7.k])]⟩:KL (List GLit)),(by show(exR (fmA x1)).length-(k7.k+1)<(exR (fmA x1)).length-k7.k;omega),(cO (.cons (by(rw[az8];rfl)) rfl (.cons rfl rfl (.cons rfl rfl (.cons rfl rfl (.cons rfl rfl (.cons rfl rfl (.cons rfl rfl (.cons rfl rfl (.cons rfl rfl (.cons rfl rfl (.cons rfl rfl (.cons rfl rfl .nil)))))))))))) (.cons (by(rw[az8];rfl)) rfl (aa kc _ _) .nil)),?_⟩;refine⟨‹_›,?_⟩;exact arc ha hp hb;have hq:¬k7.k<((exR (fmA x1))).length:=fun h=>a0e ho (Int.ofNat_lt.2 h);refine⟨by omega,?_⟩;refine⟨(⟨k5.k+1,k7.L⟩:KL (List GLit)),(nsA ‹_›),(cnS (by rfl) (hpS (aa kc _ _) (by rfl) trivial)),?_⟩;refine⟨‹_›,?_⟩;show k7.L=_;rw[hb,ajv ha hq];have hr:¬k5.k<k3.L.length:=fun h=>a0e hn (Int.ofNat_lt.2 h);refine RegG.via (fun _ h=>bm [3] 9 (.tree 1 (k5.L.map (fun l=>[.tree 10 (l.map lyA)]))) (FzP.rows kc (az9.2 rfl) rfl) rfl h) ?_;refine bh ?_;refine⟨by omega,?_⟩;refine⟨(⟨k3.k+1,k5.L⟩:KL (List GLit)),(nsA ‹_›),(cnR rfl),?_⟩;refine⟨‹_›,?_⟩;exact at3 h2 h0 h7 he hr;have hs:¬k3.k<x.b_.length:=fun h=>a0e hm (Int.ofNat_lt.2 h);refine rtA rfl ⟨[],FzP.pure rfl⟩ ?_;exact congrArg (fun L=>AV.tree 1 (L.map He)) (ex_p h1 h3 h9 hs h7)
def aax(vs:List PVar)(r:List AV)(hr:IsFm r):FmK vs r->i9 r<=256->wgR w1 r<=100000->PRet prog 190 [.agg (rwA r)] (fun q=>q=.tree 1 ((exR r).map He)):=IsFm.ind (M:=fun r=>FmK vs r->i9 r<=256->wgR w1 r<=100000->PRet prog 190 [.agg (rwA r)] (fun q=>q=.tree 1 ((exR r).map He))) (fun x hx ih hk hc hw=>aaw x hx vs hk hc hw ih) hr
def Zb:RowF iA 1:=⟨fun _=>rfl,fun _=>rfl,fun _ _=>rfl,fun _ _=>rfl,fun _ _=>rfl,fun _=>rfl⟩
def Sb:RowF cfA 2:=⟨fun _=>rfl,fun _=>rfl,fun _ _=>rfl,fun _ _=>rfl,fun _ _=>rfl,fun _=>rfl⟩
def aa5{f:α->List AV}{q:Nat}(h:RowF f q){m:List (Nat×Nat)}{v:Nat}{l:List α}{n:Bool}(e:gOf m i=k):j4 m [(i,some ⟨v,rF f l,q,n⟩)]=[(k,some ⟨v,rF f l,q,n⟩)]:=by simp only[j4,a0t,List.map_nil,e,a02,oh h]
def vkS(es:List (Int×Int))(S:List Nat):List Int:=(S.filter fun i=>!((es.getD i (0,0)).2==0)).map fun i=>(es.getD i (0,0)).1
def au7(hj:j<es.length)(h:¬es[j].2=0):vkS es (S++[j])=vkS es S++[es[j].1]:=by unfold vkS;rw[List.filter_append,a0u];simp[List.getD,hj,h]
def au8(hj:j<es.length)(h:es[j].2=0):vkS es (S++[j])=vkS es S:=by unfold vkS;rw[List.filter_append,a0u];simp[List.getD,hj,h]
def al8 :(vkS es S).length<=S.length:=by unfold vkS;rw[a0b];exact List.length_filter_le _ _
def Mu{n:Nat}(h0:S.Nodup)(h1:∀i∈S,i<n):S.length<=n:=by have h:=List.Nodup.length_le_of_subset (l₂:=List.range n) h0 (fun i hi=>List.mem_range.2 (h1 i hi));simpa using h
def Zu{n:Nat}(h0:S.Nodup)(h1:∀i∈S,i<n)(hj:j<n)(h2:¬j∈S):S.length<n:=by have h:=Mu (S:=j::S) (n:=n) (List.nodup_cons.2 ⟨h2,h0⟩) (fun i hi=>by rcases a0w.1 hi with rfl|h;exact hj;exact h1 i h);simp only[a0r]at h;omega
def ey(es:List (Int×Int)):List Int:=(es.filter fun p=>!(p.2==0)).map (·.1)
theorem Ox :(List.range es.length).map (fun i=>es.getD i (0,0))=es:=by apply List.ext_getElem;simp;intro i h1 h2;simp[List.getD,h2]
def aga(h3:S.Nodup)(h4:∀i∈S,i<es.length)(h0:∀j,j<es.length->j∈S):(vkS es S).Perm (ey es):=by
 have h1:S.Perm (List.range es.length):=(List.perm_ext_iff_of_nodup h3 List.nodup_range).2 fun i=>⟨fun h=>List.mem_range.2 (h4 i h),fun h=>h0 i (List.mem_range.1 h)⟩
 have h2:vkS es (List.range es.length)=ey es:=by
  unfold vkS ey
  conv=>rhs;rw[<-Ox (es:=es)]
  rw[List.filter_map,List.map_map]
  rfl
 rw[<-h2]
 exact(h1.filter _).map _
def Y5{l m:List Int}(h:l.Perm m):srt l=srt m:=by grind[List.Perm.eq_of_pairwise,List.pairwise_mergeSort,List.mergeSort_perm]
def my(es:List (Int×Int))(v:Int):Int:=((es.find? fun p=>p.1==v).map (·.2)).getD 0
def Cj(es:List (Int×Int)):List PCoef:=(srt (ey es)).map fun v=>⟨v,my es v⟩
theorem Tz(h:v∈srt (ey es)):∃(j:Nat) (hj:j<es.length),es[j].1=v/\(∀i (hi:i<es.length),i<j->es[i].1≠v)/\my es v=es[j].2:=by
 have h1:v∈ey es:=(List.mergeSort_perm _ _).mem_iff.1 h
 obtain⟨p,hp,rfl⟩:=a0v.1 h1
 have h0:=(List.mem_filter.1 hp).1
 cases hf:es.find? (fun q=>q.1==p.1)with
 |none=>exact absurd h0 (fun hm=>by have:=List.find?_eq_none.1 hf p hm;simp at this)
 |some q=>
  obtain⟨hq,j,hj,he,hi⟩:=List.find?_eq_some_iff_getElem.1 hf
  refine⟨j,hj,by rw[he];simpa using hq,fun i hi' h2=>by simpa using hi i h2,?_⟩
  unfold my
  rw[hf,<-he];rfl
def M8 :(ey es).length<=es.length:=by unfold ey;rw[a0b];exact List.length_filter_le _ _
theorem mGet(hj:j<es.length):(mEs 0 es)[j]'(by rw[qh];exact hj)=(.int .i64 es[j].1,vI (es[j].2),j):=by rw[uf,Nat.zero_add]
theorem axh :∀e∈mEs 0 es,∃q,e.1=.int .i64 q:=fun e he=>by obtain⟨j,hj,rfl⟩:=Ep he;exact⟨_,rfl⟩
theorem aip(h:∀i (hi:i<es.length),i<j->es[i].1≠v):∀i (hi:i<(mEs 0 es).length),i<j->(mEs 0 es)[i].1≠.int .i64 v:=by grind[uf,qh]
def aqh{η:bo}{id v:Nat}{l:List Int}(h0:id∈fp)(hb:η id=some ⟨v,rF iA (srt l),1,Nat.beq l.length 0⟩):FzP fp η (.sl id v 0 l.length) (isA (srt l)):=by have:=FzP.rows (η:=η) Zb (l:=srt l) (v:=v) h0 (by rw[ic];exact hb);rwa [ic]at this
def La{η:bo}{g:Option (Nat×Bool)}{kt et id ver z clock:Nat}{x i:Operand}{z0:Value}(ht:P.underlying t=some (.map kt et))(hk:P.underlying kt=some (.int .i64))(hz:bv P et=some z0)(hm:aev τ x=.mp id ver)(hkey:aev τ i=vI v)(hb:η id=some (cp ver z clock (mEs 0 es)))(hv:v∈srt (ey es)):
 LOp P ⟨d,.lookup t x i false,ty,pos,af,g⟩ τ η [id] [] (vI (my es v)):=by grind[Tz,P9,qh,axh,mGet,aip]
def ar3:(prog.info? 196).map (·.bytes)=some 16:=by kernel_rfl
def awm:js prog 196=some [(0,1),(1,1)]:=by kernel_rfl
def aj1(es:List (Int×Int))(v z:Nat)(hl:es.length<=1000000):j6 prog 266 [.mp TOP v] [(TOP,cp v z es.length (mEs 0 es))] [(TOP,some (cp v z es.length (mEs 0 es)))] (csA (Cj es)):=by
 refine j6.of_body func266 rfl ntmps266 (a0l rfl) (wS (wR (oL (lA (a:=.v _) rfl) rfl rfl (oN (aN (wS (wR (oL (lA (a:=.v _) rfl) rfl rfl (oN (aN (wS (wS (wR (oL (lM (a:=.mp _ _) rfl) rfl rfl (Fw (P6 0 underlying364 rfl rfl rfl) rfl rfl 1 rfl rfl (oN (aN (wB (bu 3 1 rfl 2 rfl (wL (fun n s=>∃S:List Nat,n=(es.length-S.length)/\s=⟨fL [(0,.mp TOP v),(3,.sl 1 (vkS es S).length 0 (vkS es S).length),(10,.it 0 0)],hLz [(0,dq 0 0 (.mp TOP v) es.length S es.length),(1,⟨(vkS es S).length,rF iA (vkS es S),1,Nat.beq (vkS es S).length 0⟩),(TOP,cp v z es.length (mEs 0 es))],2⟩/\(S.Nodup/\∀i∈S,i<es.length)) (n:=(es.length-([]:List Nat).length)) (s1:=⟨fL [(0,.mp TOP v),(3,.sl 1 (vkS es ([]:List Nat)).length 0 (vkS es ([]:List Nat)).length),(10,.it 0 0)],hLz [(0,dq 0 0 (.mp TOP v) es.length ([]:List Nat) es.length),(1,⟨(vkS es ([]:List Nat)).length,rF iA (vkS es ([]:List Nat)),1,Nat.beq (vkS es ([]:List Nat)).length 0⟩),(TOP,cp v z es.length (mEs 0 es))],2⟩) (cnS (by rfl) (hpS (Aw rfl) rfl (hpS (aa Zb _ _) (by rfl) (hpS (kf _ _ _) rfl trivial)))) ⟨([]:List Nat),rfl,rfl,List.nodup_nil,fun _ h=>by cases h⟩ ?_))))))))))))))))))));rintro n s ⟨S,rfl,rfl,h1⟩;obtain⟨h4,h5⟩:=h1;have hSl:S.length<=es.length:=Mu h4 h5
 have hvl:(vkS es S).length<=S.length:=al8;refine wS (wR (F4.next rfl rfl rfl rfl rfl rfl (fun e he=>by obtain⟨j,hj,rfl⟩:=Ep he;show 0+j<es.length;omega) (by cases es with|nil=>exact .inr (.inl rfl)|cons a r=>exact .inr (.inr ⟨_,List.mem_cons_self ..,by simp⟩)) (fun h6=>?_) (fun e he hh=>?_)));skip;have hd:∀j,j<es.length->j∈S:=fun j hj=>by have:=h6 _ (apn (i:=0) hj);simpa using this
 refine oL (LOp.extract rfl rfl) rfl rfl (oN (aN (wS (Iy rfl (AWP.exit (aE (aE (bEz (aN (wS (wR (oL (lM (a:=.sl _ _ _ _) rfl) rfl rfl (Fw (ba [(TOP,1)] wl (ve (vkS es S) (vkS es S).length (by omega)) rfl rfl rfl rfl ⟨iw Zb,trivial⟩ ⟨d9 Zb,trivial⟩ ⟨da Zb _ _,trivial⟩ rfl rfl rfl rfl (aa5 Zb rfl) rfl) rfl rfl 2 rfl rfl (oN (aN (wS (wR (oL (lA (a:=.v _) rfl) rfl rfl (oN (aN (wS (wS (wR (oL (lM (a:=.sl _ _ _ _) rfl) rfl rfl (oL (zr rfl underlying53 rfl rfl rfl) rfl rfl (oL (lM (a:=.v _) rfl) rfl rfl (oN (aN (wB (have h7:=Y5 (aga h4 h5 hd);have h8:(vkS es S).length=(srt (ey es)).length:=(by rw[<-h7,ic]);bm [1] 24 (isA (srt (vkS es S))) (aqh (az9.2 rfl) rfl) rfl (bu 6 2 rfl 3 rfl (wL (fun n s=>∃k2:Nat,n=((srt (ey es)).length-k2)/\s=⟨fL [(0,.mp TOP v),(6,.sl 2 k2 0 (((srt (ey es)).take k2).map fun v=>(⟨v,my es v⟩:PCoef)).length),(24,isA (srt (ey es))),(25,vI (((srt (ey es)).length:Nat):Int)),(26,vI k2)],hLz [(2,⟨k2,rF cfA (((srt (ey es)).take k2).map fun v=>(⟨v,my es v⟩:PCoef)),2,Nat.beq (((srt (ey es)).take k2).map fun v=>(⟨v,my es v⟩:PCoef)).length 0⟩),(TOP,cp v z es.length (mEs 0 es))],3⟩/\(k2<=(srt (ey es)).length/\∀j,j<k2->(fun _=>true) j=true)) (n:=((srt (ey es)).length-0)) (s1:=⟨fL [(0,.mp TOP v),(6,.sl 2 0 0 (((srt (ey es)).take 0).map fun v=>(⟨v,my es v⟩:PCoef)).length),(24,isA (srt (ey es))),(25,vI (((srt (ey es)).length:Nat):Int)),(26,vI 0)],hLz [(2,⟨0,rF cfA (((srt (ey es)).take 0).map fun v=>(⟨v,my es v⟩:PCoef)),2,Nat.beq (((srt (ey es)).take 0).map fun v=>(⟨v,my es v⟩:PCoef)).length 0⟩),(TOP,cp v z es.length (mEs 0 es))],3⟩) (cO (.cons rfl rfl (.cons (by rfl) rfl (.cons (by(rw[<-h7];rfl)) rfl (.cons (by exact w7 (by rw[h8])) rfl (.cons rfl rfl .nil))))) (.cons (by rfl) rfl (aa Sb _ _) (.cons rfl rfl (kf _ _ _) .nil))) ⟨0,rfl,rfl,⟨a0h _,fun j h=>absurd h (a0i j)⟩⟩ ?_))))))))))))))))))))))))))))))));rintro n s ⟨k2,rfl,rfl,h1⟩;obtain⟨hk,hj⟩:=h1;have hcl:((srt (ey es)).take k2).length<=k2:=by rw[List.length_take];omega
 have hkl:(srt (ey es)).length<=1000000:=by rw[ic];exact a0m M8 hl
 refine wS (wR (oL (lP rfl (fun _ _=>nofun) (fun _=>rfl)) rfl rfl (oN (aN (wS (wC rfl (fun h2=>?_) (fun h2=>?_)))))));skip;have h9:k2<(srt (ey es)).length:=Int.ofNat_lt.1 (a0f h2)
 have hf:(srt (ey es))[k2]∈srt (ey es):=az4 h9;have h0:(((srt (ey es)).take (k2+1)).map fun v=>(⟨v,my es v⟩:PCoef))=(((srt (ey es)).take k2).map fun v=>(⟨v,my es v⟩:PCoef))++[⟨(srt (ey es))[k2],my es (srt (ey es))[k2]⟩]:=by rw[a0g h9,a0u];rfl
 refine wK (aN (wS (wB (wS (wR (oL (lI underlying53 sz3 rfl rfl (by first|assumption|omega)) rfl rfl (oL (lE row3 rfl rfl) rfl rfl (oL (lA (a:=.v _) rfl) rfl rfl (oN (aN (wR (oL (lM (a:=.sl _ _ _ _) rfl) rfl rfl (oL (lM (a:=.v _) rfl) rfl rfl (oL (lM (a:=.mp _ _) rfl) rfl rfl (oL (lM (a:=.v _) rfl) rfl rfl (oL (La underlying364 underlying3 zr2 rfl rfl rfl hf) rfl rfl (oL (LOp.bd Qs awm rfl rfl) rfl rfl (oW (dn underlying183 Y0 Qs rfl rfl rfl rfl) rfl rfl 4 rfl (Fw (ae Sb (a:=⟨(srt (ey es))[k2],my es (srt (ey es))[k2]⟩) underlying183 Y0 Qs ar3 rfl rfl rfl (ap rfl rfl rfl rfl) rfl (by rw[a0b];omega) (by rw[a0b];omega) (by unfold TV;omega)) rfl rfl 4 rfl rfl (oL (lA (a:=.sl _ _ _ _) rfl) rfl rfl (oN (bNz (aN (wR (oL (lJ rfl rfl (by omega) (by omega)) rfl rfl (oL (lM (a:=.v _) rfl) rfl rfl (oN (aN ⟨((srt (ey es)).length-(k2+1)),⟨fL [(0,.mp TOP v),(6,.sl 2 (k2+1) 0 (((srt (ey es)).take (k2+1)).map fun v=>(⟨v,my es v⟩:PCoef)).length),(24,isA (srt (ey es))),(25,vI (((srt (ey es)).length:Nat):Int)),(26,vI (((k2+1):Nat):Int))],hLz [(2,⟨(k2+1),rF cfA (((srt (ey es)).take (k2+1)).map fun v=>(⟨v,my es v⟩:PCoef)),2,Nat.beq (((srt (ey es)).take (k2+1)).map fun v=>(⟨v,my es v⟩:PCoef)).length 0⟩),(TOP,cp v z es.length (mEs 0 es))],3⟩,by omega,(cO (.cons rfl rfl (.cons (by(rw[h0,az8];rfl)) rfl (.cons (by rfl) rfl (.cons (by rfl) rfl (.cons rfl rfl .nil))))) (.cons (by(rw[h0,az8];rfl)) rfl (aa Sb _ _) (.cons rfl rfl (kf _ _ _) .nil))),(k2+1),rfl,rfl,⟨by omega,fun j h=>?_⟩⟩))))))))))))))))))))))))))));rcases a0k.1 h with h|rfl;exact hj j h;rfl;skip;have hge:¬k2<(srt (ey es)).length:=fun h=>a0e h2 (Int.ofNat_lt.2 h)
 have hm:(((srt (ey es)).take k2).map fun v=>(⟨v,my es v⟩:PCoef))=Cj es:=by unfold Cj;rw[a0x (by omega)]
 exact AWP.exit (aE (aE (bEz (aN (wS (wR (oL (lM (a:=.sl _ _ _ _) rfl) rfl rfl (oL (lA (a:=.sl _ _ _ _) rfl) rfl rfl (oN (aN (wT (⟨.inr rfl,P5.of [2] (cq rfl (.cons (az0.tmp rfl) .nil)) rfl ⟨.same rfl (by decide),trivial⟩ (.fz (by rw[<-hm];exact FzP.rows Sb (az9.2 rfl) rfl))⟩))))))))))));skip;obtain⟨j,hj,rfl⟩:=Ep he;rw[Nat.zero_add]at *;have hg:¬j∈S:=by simpa using hh
 have hSl2:S.length<es.length:=Zu h4 h5 hj hg;refine oL (LOp.extract rfl rfl) rfl rfl (oN (aN (wS (Ix rfl (wK (aN (wB (wS (wR (oL (Qd rfl rfl rfl hj) rfl rfl (oL (LOp.extract rfl rfl) rfl rfl (oL (LOp.extract rfl rfl) rfl rfl (oL (lA (a:=.v _) rfl) rfl rfl (oL (lA (a:=.v _) rfl) rfl rfl (oN (aN (wS (wR (oL (lM (a:=.v _) rfl) rfl rfl (oL (lP rfl (fun _ _=>nofun) (fun _=>rfl)) rfl rfl (oN (aN (wC rfl (fun h3=>?_) (fun h3=>?_))))))))))))))))))))))));skip;have hz:¬es[j].2=0:=by simpa using h3
 have hc:=au7 (S:=S) hj hz;refine wR (oL (lM (a:=.sl _ _ _ _) rfl) rfl rfl (oL (lM (a:=.v _) rfl) rfl rfl (oW (dn underlying53 sz3 zr3 rfl rfl rfl rfl) rfl rfl 3 rfl (Fw (ae Zb (a:=es[j].1) underlying53 sz3 zr3 by3 rfl rfl rfl (ap rfl rfl rfl rfl) rfl (by omega) (by omega) (by unfold TV;omega)) rfl rfl 3 rfl rfl (oL (lA (a:=.sl _ _ _ _) rfl) rfl rfl (oN (bNz (aN ⟨(es.length-(S++[j]).length),⟨fL [(0,.mp TOP v),(3,.sl 1 (vkS es (S++[j])).length 0 (vkS es (S++[j])).length),(10,.it 0 0)],hLz [(0,dq 0 0 (.mp TOP v) es.length (S++[j]) es.length),(1,⟨(vkS es (S++[j])).length,rF iA (vkS es (S++[j])),1,Nat.beq (vkS es (S++[j])).length 0⟩),(TOP,cp v z es.length (mEs 0 es))],2⟩,(by rw[az8];simp only[List.length_singleton];omega),(cO (.cons rfl rfl (.cons (by(rw[hc,az8];rfl)) rfl (.cons rfl rfl .nil))) (.cons rfl rfl (Aw rfl) (.cons (by(rw[hc,az8];rfl)) rfl (aa Zb _ _) (.cons rfl rfl (kf _ _ _) .nil)))),(S++[j]),rfl,rfl,⟨by rw[List.nodup_append];exact⟨h4,by simp,fun a ha b hb=>by simp at hb;subst hb;exact fun e=>hg (e▸ha)⟩,fun i hi=>?_⟩⟩))))))));rcases a0a.1 hi with h|h;exact h5 i h;simp at h;subst h;exact hj;skip;have hz:es[j].2=0:=by simpa using h3
 have hc:=au8 (S:=S) hj hz;refine wK (bNz (aN ⟨(es.length-(S++[j]).length),⟨fL [(0,.mp TOP v),(3,.sl 1 (vkS es (S++[j])).length 0 (vkS es (S++[j])).length),(10,.it 0 0)],hLz [(0,dq 0 0 (.mp TOP v) es.length (S++[j]) es.length),(1,⟨(vkS es (S++[j])).length,rF iA (vkS es (S++[j])),1,Nat.beq (vkS es (S++[j])).length 0⟩),(TOP,cp v z es.length (mEs 0 es))],2⟩,(by rw[az8];simp only[List.length_singleton];omega),(cO (.cons rfl rfl (.cons (by(rw[hc];rfl)) rfl (.cons rfl rfl .nil))) (.cons rfl rfl (Aw rfl) (.cons (by(rw[hc];rfl)) rfl (aa Zb _ _) (.cons rfl rfl (kf _ _ _) .nil)))),(S++[j]),rfl,rfl,⟨by rw[List.nodup_append];exact⟨h4,by simp,fun a ha b hb=>by simp at hb;subst hb;exact fun e=>hg (e▸ha)⟩,fun i hi=>?_⟩⟩));rcases a0a.1 hi with h|h;exact h5 i h;simp at h;subst h;exact hj
def wf(vs:List Int)(ps:List GPart):List (Int×Int):=vs.zip (ps.map (·.k_))
theorem sn(h:vs.length=ps.length):(wf vs ps).map (·.1)=vs:=List.map_fst_zip (by simp[h])
theorem oo(h:vs.length=ps.length):(wf vs ps).length=ps.length:=by simp[wf,h]
theorem ul(h:vs.length=ps.length)(hi:i<ps.length):(wf vs ps)[i]'(by rw[oo h];exact hi)=(vs[i]'(by omega),ps[i].k_):=by simp[wf]
theorem zd(h:∀p∈es,p.2≠0):ey es=es.map (·.1):=by unfold ey;rw[List.filter_eq_self.2 fun p hp=>by simpa using h p hp]
theorem T1(hn:(es.map (·.1)).Nodup){p:Int×Int}(hp:p∈es):my es p.1=p.2:=by
 unfold my
 have:es.find? (fun q=>q.1==p.1)=some p:=by
  induction es with
  |nil=>cases hp
  |cons a r ih=>
   rw[a0t,List.nodup_cons]at hn
   rcases a0w.1 hp with rfl|h0
   ·simp
   ·have:a.1≠p.1:=fun e=>hn.1 (e▸List.mem_map_of_mem h0)
    rw[List.find?_cons_of_neg (by simpa using this)]
    exact ih hn.2 h0
 rw[this];rfl
def Bt(hz:∀p∈es,p.2≠0)(hn:(es.map (·.1)).Nodup):(Cj es).Perm (es.map fun p=>⟨p.1,p.2⟩):=by
 unfold Cj;rw[zd hz];have h:=(List.mergeSort_perm (es.map (·.1)) (fun a b=>decide (a<=b))).map (fun v=>(⟨v,my es v⟩:PCoef))
 refine h.trans ?_;rw[List.map_map];have e:es.map ((fun v=>(⟨v,my es v⟩:PCoef))∘(·.1))=es.map fun p=>⟨p.1,p.2⟩:=List.map_congr_left fun p hp=>by simp only[Function.comp,T1 hn hp]
 rw[e]
theorem Bs(es:List (Int×Int)):(Cj es).map (·.v)=srt (ey es):=by unfold Cj;rw[List.map_map];exact List.map_id _
def V7{es':List (Int×Int)}(hz:∀p∈es,p.2≠0)(h0:∀p∈es',p.2≠0)(h:Cj es=Cj es'):(es.map (·.1)).Perm (es'.map (·.1)):=by have e:=congrArg (List.map PCoef.v) h;rw[Bs,Bs,zd hz,zd h0]at e;exact((List.mergeSort_perm (es.map (·.1)) (fun a b=>decide (a<=b))).symm.trans (by show(srt (es.map (·.1))).Perm _;rw[e])).trans (List.mergeSort_perm _ _)
def V8(hz:∀p∈es,p.2≠0)(hn:(es.map (·.1)).Nodup):((Cj es).map (·.v)).Pairwise (·<·):=by rw[Bs,zd hz];have h0:(srt (es.map (·.1))).Nodup:=(List.mergeSort_perm _ _).nodup_iff.2 hn;exact(am4.and h0).imp fun h=>by omega
def yx(v:Int):PAux:=⟨⟨0,[]⟩,0,v⟩
def Qp(n:Int)(L:List PAux)(p:GPart)(v:Int)(g:PLin):Prop:=
 (p.c_=0->v=p.o_)/\(p.c_=1->∃j:Nat,L[j]? =some (yx p.o_)/\v=n+((j:Nat):Int))/\(p.c_=2->∃j:Nat,L[j]? =some ⟨g,p.by_,0⟩/\v=n+((j:Nat):Int))
def wx:PLin:=⟨0,[]⟩
inductive RepT(n:Int)(L:List PAux):List AV->PLin->Prop
 |mk (x:GTm) (vs:List Int) (gs:List PLin) (hv:vs.length=x.a_.length) (hg:gs.length=x.a_.length)
  (hr:∀i (h:i<x.a_.length),Qp n L x.a_[i] (vs.getD i 0) (gs.getD i wx))
  (ho:∀i (h:i<x.a_.length),x.a_[i].c_=2->∀r∈x.a_[i].of_,RepT n L r (gs.getD i wx)) :
  RepT n L (tmA x) ⟨x.g_,Cj (wf vs x.a_)⟩
theorem m8{x:GTm}(h:RepT n L (tmA x) f):∃vs:List Int,∃gs:List PLin,vs.length=x.a_.length/\gs.length=x.a_.length/\(∀i (h:i<x.a_.length),Qp n L x.a_[i] (vs.getD i 0) (gs.getD i wx))/\
 (∀i (h:i<x.a_.length),x.a_[i].c_=2->∀r∈x.a_[i].of_,RepT n L r (gs.getD i wx))/\f=⟨x.g_,Cj (wf vs x.a_)⟩:=by
 generalize e:tmA x=r at h
 cases h with
 |mk y vs gs hv hg hr ho=>rw[Rj e];exact⟨vs,gs,hv,hg,hr,ho,rfl⟩
theorem ahn{L M:List α}(h:L<+:M){x:α}(e:L[j]? =some x):M[j]? =some x:=by obtain⟨z,rfl⟩:=h;obtain⟨hj,e⟩:=a0z.1 e;rw[List.getElem?_append_left hj,az5 hj,e]
def Qp.mono{M:List PAux}{g:PLin}(hLM:L<+:M)(h:Qp n L p v g):Qp n M p v g:=by grind[Qp,ahn]
theorem RepT.mono{M:List PAux}(h0:L<+:M)(h:RepT n L r f):RepT n M r f:=by
 induction h with
 |mk x vs gs hv hg hr ho ih=>exact .mk x vs gs hv hg (fun i hi=>(hr i hi).mono h0) ih
def Ur(h:Pa p q)(hc:p.k_=q.k_):p=q:=by obtain⟨a,b,c,d,e⟩:=p;obtain⟨a',b',c',d',e'⟩:=q;obtain⟨h1,h2,h3,h4⟩:=h;simp only at h1 h2 h3 h4 hc;subst h1 h2 h3 h4 hc;rfl
theorem Pa.cd(h:Pa p q):cdP p=cdP q:=by unfold cdP;rw[h.1,h.2.1,h.2.2.1,h.2.2.2]
def al0(l:List PVar)(n:Int)(L:List PAux)(r:List AV):Prop:=∀r' f,IsTm r'->TmV l r'->RepT n L r f->RepT n L r' f->r=r'
section
variable{l:List PVar}{n:Int}{L:List PAux}
def Ub{g g':PLin}(hn:n=((l.length:Nat):Int))(hp:FitPart p)(hq:FitPart q)(vp:PtV l p)(vq:PtV l q)(rp:Qp n L p v g)(rq:Qp n L q v g')(sp:p.c_=2->∀r∈p.of_,RepT n L r g)(sq:q.c_=2->∀r∈q.of_,RepT n L r g')(ih:∀r∈p.of_,al0 l n L r):Pa p q:=by
 have h0:=hp.kd;have h1:=hq.kd
 have col:∀{p:GPart},PtV l p->p.c_=0->p.o_<n:=fun{p} h e=>by obtain⟨j,hj,e1,_⟩:=h.1 e;rw[e1,hn];exact Int.ofNat_lt.2 hj
 have k3:p.c_=0\/p.c_=1\/p.c_=2:=by have:=h0.1;omega
 have k4:q.c_=0\/q.c_=1\/q.c_=2:=by have:=h1.1;omega
 have b0:∀{p q:GPart},PtV l p->PtV l q->p.c_≠2->q.c_≠2->p.by_=q.by_:=fun vp vq h h'=>by rw[vp.2.2.2.1 h,vq.2.2.2.1 h']
 rcases k3 with k3|k3|k3;have e1:=rp.1 k3
 have c1:=col vp k3;rcases k4 with k4|k4|k4;have e2:=rq.1 k4
 exact⟨by omega,by omega,b0 vp vq (by omega) (by omega),by rw[h0.2.2 (by omega),h1.2.2 (by omega)]⟩;obtain⟨j,_,e2⟩:=rq.2.1 k4;omega;obtain⟨j,_,e2⟩:=rq.2.2 k4;omega;obtain⟨i,a1,e1⟩:=rp.2.1 k3;rcases k4 with k4|k4|k4;have e2:=rq.1 k4
 have:=col vq k4;omega;obtain⟨j,a2,e2⟩:=rq.2.1 k4;obtain rfl:i=j:=by omega
 rw[a1]at a2;have e3:p.o_=q.o_:=congrArg PAux.tx (Option.some.inj a2)
 exact⟨by omega,e3,b0 vp vq (by omega) (by omega),by rw[h0.2.2 (by omega),h1.2.2 (by omega)]⟩;obtain⟨j,a2,e2⟩:=rq.2.2 k4;obtain rfl:i=j:=by omega
 rw[a1]at a2;have e3:(0:Int)=q.by_:=congrArg PAux.by_ (Option.some.inj a2)
 have:=(h1.2.1 k4).2.1;omega;obtain⟨i,a1,e1⟩:=rp.2.2 k3;rcases k4 with k4|k4|k4;have e2:=rq.1 k4
 have:=col vq k4;omega;obtain⟨j,a2,e2⟩:=rq.2.1 k4;obtain rfl:i=j:=by omega
 rw[a1]at a2;have e3:p.by_=(0:Int):=congrArg PAux.by_ (Option.some.inj a2)
 have:=(h0.2.1 k3).2.1;omega;obtain⟨j,a2,e2⟩:=rq.2.2 k4;obtain rfl:i=j:=by omega
 rw[a1]at a2;have e3:p.by_=q.by_:=congrArg PAux.by_ (Option.some.inj a2)
 have e4:g=g':=congrArg PAux.of_ (Option.some.inj a2);obtain⟨o,ho⟩:=a01.1 (h0.2.1 k3).1;obtain⟨o',h2⟩:=a01.1 (h1.2.1 k4).1;have m1:o∈p.of_:=by rw[ho];simp
 have m2:o'∈q.of_:=by rw[h2];simp
 have e5:o=o':=ih o m1 o' g (hq.of_.2 o' m2) (vq.2.2.1 k4 o' m2) (sp k3 o m1) (e4▸sq k4 o' m2);exact⟨by omega,by rw[vp.2.2.2.2 k3,vq.2.2.2.2 k4],e3,by rw[ho,h2,e5]⟩
def am3(hs:Srt ps)(hi:i<ps.length)(hj:j<ps.length)(h:Pa ps[i] ps[j]):i=j:=by rcases Nat.lt_trichotomy i j with g|g|g;have:=List.pairwise_iff_getElem.1 hs.1 i j hi hj g;rw[h.cd,A2]at this;omega;exact g;have:=List.pairwise_iff_getElem.1 hs.1 j i hj hi g;rw[h.cd,A2]at this;omega
def ag3{a b:List GPart}(ha:Srt a)(hb:Srt b)(h:∀p,p∈a↔p∈b):a=b:=by
 have nd:∀{a:List GPart},Srt a->a.Nodup:=fun ha=>ha.1.imp fun{x y} h e=>by rw[e,A2]at h;omega
 have hp:a.Perm b:=(List.perm_ext_iff_of_nodup (nd ha) (nd hb)).2 h;exact List.Perm.eq_of_pairwise (le:=fun p q=>lx (cdP p) (cdP q)<0) (fun p q _ _ h1 h2=>by have:=J5 (cdP p) (cdP q);omega) ha.1 hb.1 hp
def Di{x:GTm}(hx:FitTm x):∀p∈wf vs x.a_,p.2≠0:=fun p hp=>by obtain⟨q,hq,e⟩:=a0v.1 (List.of_mem_zip hp).2;rw[<-e];exact hx.srt.2 q hq
def Sc{x:GTm}(hn:n=((l.length:Nat):Int))(hx:FitTm x)(hv:TmV l (tmA x))(hk:k<=x.a_.length)(hvs:vs.length=k)
 (hr:∀i (h:i<x.a_.length),i<k->Qp n L x.a_[i] (vs.getD i 0) (gs.getD i wx))(ho:∀i (h:i<x.a_.length),i<k->x.a_[i].c_=2->∀r∈x.a_[i].of_,RepT n L r (gs.getD i wx))(ih:∀p∈x.a_,∀r∈p.of_,al0 l n L r):vs.Nodup:=by
 refine List.pairwise_iff_getElem.2 fun i j hi hj hij e=>?_
 have e1:vs.getD i 0=vs[i]:=by simp[hi]
 have e2:vs.getD j 0=vs[j]:=by simp[hj]
 have r1:=hr i (by omega) (by omega)
 have r2:=hr j (by omega) (by omega)
 rw[e1]at r1
 rw[e2,<-e]at r2
 have h0:=tmV.1 hv
 have:=am3 hx.srt _ _ (Ub hn (hx.a_.2 _ (az4 (by omega))) (hx.a_.2 _ (az4 (by omega))) (h0 _ (az4 _)) (h0 _ (az4 _)) r1 r2 (ho i (by omega) (by omega)) (ho j (by omega) (by omega)) (ih _ (az4 _)))
 omega
def ahg(hn:n=((l.length:Nat):Int))(hr:IsTm r):TmV l r->al0 l n L r:=
 IsTm.ind (M:=fun r=>TmV l r->al0 l n L r) (fun x hx ih h3 r' f h7 h0 h1 h2=>by
  obtain⟨y,rfl,hy⟩:=h7.open_;have h4:=tmV.1 h3
  have h8:=tmV.1 h0
  have ihx:∀p∈x.a_,∀r∈p.of_,al0 l n L r:=fun p hp r hr=>by
   by_cases k2:p.c_=2;exact ih p hp r hr ((h4 p hp).2.2.1 k2 r hr);rw[(hx.a_.2 p hp).kd.2.2 k2]at hr;simp at hr
  obtain⟨vs,gs,l1,l2,a1,a2,rfl⟩:=m8 h1;obtain⟨ws,hs,m1,m2,b1,b2,e⟩:=m8 h2;have ec:x.g_=y.g_:=congrArg PLin.k e
  have ef:Cj (wf vs x.a_)=Cj (wf ws y.a_):=congrArg PLin.cs e;have h5:vs.Nodup:=Sc hn hx h3 (a0j _) l1 (fun i h _=>a1 i h) (fun i h _=>a2 i h) ihx
  have h6:=V7 (Di hx) (Di hy) ef;rw[sn l1,sn m1]at h6;have h9:ws.Nodup:=h6.nodup_iff.1 h5
  have hP:(wf vs x.a_).Perm (wf ws y.a_):=by have p1:=Bt (Di (vs:=vs) hx) (by rw[sn l1];exact h5);have p2:=Bt (Di (vs:=ws) hy) (by rw[sn m1];exact h9);rw[ef]at p1;have p3:=(p1.symm.trans p2).map fun c:PCoef=>(c.v,c.n);rw[List.map_map,List.map_map]at p3;have ha:((fun c:PCoef=>(c.v,c.n))∘fun p:Int×Int=>(⟨p.1,p.2⟩:PCoef))=id:=rfl;rwa [ha,List.map_id,List.map_id]at p3
  have both:∀i (hi:i<x.a_.length) j (hj:j<y.a_.length),(vs.getD i 0=ws.getD j 0)->x.a_[i].k_=y.a_[j].k_->x.a_[i]=y.a_[j]:=fun i hi j hj e1 e2=>
   Ur (Ub hn (hx.a_.2 _ (az4 hi)) (hy.a_.2 _ (az4 hj)) (h4 _ (az4 hi)) (h8 _ (az4 hj)) (e1▸a1 i hi) (b1 j hj) (a2 i hi) (b2 j hj) (ihx _ (az4 hi))) e2
  have key:∀i (hi:i<x.a_.length),∃j,∃hj:j<y.a_.length,x.a_[i]=y.a_[j]:=fun i hi=>by have hm:(wf vs x.a_)[i]'(by rw[oo l1];exact hi)∈wf ws y.a_:=hP.mem_iff.1 (az4 _);obtain⟨j,hj,e2⟩:=a0p hm;rw[oo m1]at hj;rw[ul l1 hi,ul m1 hj]at e2;have e3:=(Prod.mk.inj e2);refine⟨j,hj,both i hi j hj ?_ e3.2.symm⟩;simp only[List.getD_eq_getElem?_getD];rw[az5 (by omega),az5 (by omega)];simp only[Option.getD_some];exact e3.1.symm
  have key2:∀j (hj:j<y.a_.length),∃i,∃hi:i<x.a_.length,x.a_[i]=y.a_[j]:=fun j hj=>by have hm:(wf ws y.a_)[j]'(by rw[oo m1];exact hj)∈wf vs x.a_:=hP.mem_iff.2 (az4 _);obtain⟨i,hi,e2⟩:=a0p hm;rw[oo l1]at hi;rw[ul l1 hi,ul m1 hj]at e2;have e3:=(Prod.mk.inj e2);refine⟨i,hi,both i hi j hj ?_ e3.2⟩;simp only[List.getD_eq_getElem?_getD];rw[az5 (by omega),az5 (by omega)];simp only[Option.getD_some];exact e3.1
  have ep:x.a_=y.a_:=ag3 hx.srt hy.srt fun p=>by
   constructor;intro hp;obtain⟨i,hi,rfl⟩:=a0p hp;obtain⟨j,hj,e⟩:=key i hi;rw[e];exact az4 hj;intro hp;obtain⟨j,hj,rfl⟩:=a0p hp;obtain⟨i,hi,e⟩:=key2 j hj;rw[<-e];exact az4 hi
  obtain⟨c,ps⟩:=x;obtain⟨c',ps'⟩:=y;simp only at ec ep;rw[ec,ep]) hr
end
theorem aa2(a b c d:Int)(w:World):(Op.equalIn 10000 196 (.agg #[.int .i64 a,.int .i64 b]) (.agg #[.int .i64 c,.int .i64 d])).run prog w=.ok (a==c&&b==d) w:=by rw[run_equalIn_agg w 9999 196 _ _ (show prog.underlying 196=some (.struct (prog.fieldsOf 196))by kernel_rfl) (by kernel_rfl)];simp only[Program.fieldsOf,underlying196];simp[Op.eqFields,part,run_equalIn_int _ 9998 3 _ _ _ _ underlying3,run_equalIn_int _ 9998 2 _ _ _ _ underlying2,Um]
theorem egCf:prog.eqGuardType prog.depth 196=false:=by kernel_rfl
def acc{η:bo}{dd:Option Tmp}{g:Option (Nat×Bool)}{x:Operand}{a b d:Int}(hx:aev τ x=.agg [vI a,vI b])(hy:aev τ y=.agg [vI c,vI d]):
 LOp prog ⟨dd,.binOp .neq 196 x y t',ty,pos,af,g⟩ τ η [] [] (vB (!(a==c&&b==d))):=
 .look [] fun C a' _ hq _=>by have e1:=hq x (by simp[Op.operands]);have e2:=hq y (by simp[Op.operands]);rw[hx]at e1;rw[hy]at e2;have f1:=w9 (y:=.agg #[.int .i64 a,.int .i64 b]) e1 rfl;have f2:=w9 (y:=.agg #[.int .i64 c,.int .i64 d]) e2 rfl;refine⟨_,?_,VR.v C _⟩;simp only[execOp,f1,f2,Sem.run_bind,run_eqGuard_agg C.w .neq 196 x y _ _ egCf,a0n,run_neq_struct,aa2,a0o]
def ayn{x y:PCoef}(h:(!(x.v==y.v&&x.n==y.n))=false):x=y:=by obtain⟨a,b⟩:=x;obtain⟨c,d⟩:=y;simp at h;rw[h.1,h.2]
def ayl{x y:PCoef}(h:(!(x.v==y.v&&x.n==y.n))=true):¬x=y:=fun e=>by subst e;simp at h
structure KBl where
 n:Int
 U:List Int
 N:List Int
 v:Nat
 A:List PAux
 I:List PCon
 T:List PTest
 S:List (Int×Int)
 D:List (Int×Int)
variable{b b':KBl}
theorem bg:RowF paA 2:=⟨fun _=>rfl,fun _=>rfl,fun _ _=>rfl,fun _ _=>rfl,fun _ _=>rfl,fun _=>rfl⟩
theorem de:RowF axA 4:=⟨fun _=>rfl,fun _=>rfl,fun _ _=>rfl,fun _ _=>rfl,fun _ _=>rfl,fun _=>rfl⟩
abbrev kB(b:KBl):Blk:=⟨0,[.v (.int .i64 b.n),.sl 1000001 b.U.length 0 b.U.length,.sl 1000002 b.v 0 b.N.length,.sl 1000003 b.A.length 0 b.A.length,.sl 1000004 b.I.length 0 b.I.length,.sl 1000005 b.T.length 0 b.T.length,.sl 1000006 b.S.length 0 b.S.length,.sl 1000007 b.D.length 0 b.D.length],0,false⟩
abbrev b1(b:KBl):Blk:=⟨b.U.length,rF iA b.U,1,Nat.beq b.U.length 0⟩
abbrev b2(b:KBl):Blk:=⟨b.v,rF iA b.N,1,Nat.beq b.N.length 0⟩
abbrev b3(b:KBl):Blk:=⟨b.A.length,rF axA b.A,4,Nat.beq b.A.length 0⟩
abbrev b4(b:KBl):Blk:=⟨b.I.length,rF cnA b.I,3,Nat.beq b.I.length 0⟩
abbrev b5(b:KBl):Blk:=⟨b.T.length,rF teA b.T,4,Nat.beq b.T.length 0⟩
abbrev b6(b:KBl):Blk:=⟨b.S.length,rF paA b.S,2,Nat.beq b.S.length 0⟩
abbrev b7(b:KBl):Blk:=⟨b.D.length,rF paA b.D,2,Nat.beq b.D.length 0⟩
section
variable{P:Program}{τ:Nat->AV}{η:bo}{d:Option Tmp}{ty:TypeId}{pos:String}{af:Array Edge}{g:Option (Nat×Bool)}{α:Type}{f:α->List AV}{q:Nat}{L:List α}{k:Nat}
def Fp(hf:RowF f q){e n:Nat}{x:Operand}{id ver:Nat}(he:P.underlying t=some (.slice e))(hs:am P e=some q)(hx:aev τ x=.sl id ver 0 n)(hi:aev τ y=vI v)(hv:v=((k:Nat):Int))(hj:k<n)(hb:η id=some ⟨ver,rF f L,q,Nat.beq L.length 0⟩)(hk:k<L.length):
 LOp P ⟨d,.indexAddr t x y,ty,pos,af,g⟩ τ η [id] [] (.ptr id ver (k*q)):=fx hf he hs hx hi hv hj (L:=L) (by rw[hb,kq (by omega)])
def Ir(hf:RowF f q){x:Operand}{id ver:Nat}(ht:ff P t=some (some q))(hx:aev τ x=.ptr id ver (k*q))(hb:η id=some ⟨ver,rF f L,q,Nat.beq L.length 0⟩)(hk:k<L.length):
 LOp P ⟨d,.load t x,ty,pos,af,g⟩ τ η [id] [] (.agg (f L[k])):=ur hf ht hx (by rw[hb,kq (by omega)]) hk
end
section
variable{b:KBl}{x:PAux}
def svA3:some (⟨b.A.length+1,rF axA (b.A++[x]),4,Nat.beq (b.A++[x]).length 0⟩:Blk)=some (b3 {b with A:=b.A++[x]}):=by rw[show b.A.length+1=(b.A++[x]).length by simp]
def svA0:some (⟨0,[vI b.n,.sl 1000001 b.U.length 0 b.U.length,.sl 1000002 b.v 0 b.N.length,.sl 1000003 (b.A.length+1) 0 (b.A++[x]).length,.sl 1000004 b.I.length 0 b.I.length,.sl 1000005 b.T.length 0 b.T.length,.sl 1000006 b.S.length 0 b.S.length,.sl 1000007 b.D.length 0 b.D.length],0,false⟩:Blk)=some (kB {b with A:=b.A++[x]}):=by rw[show b.A.length+1=(b.A++[x]).length by simp]
end
open Classical in
noncomputable def axI(L:List PAux)(x:PAux):List PAux:=if x∈L then L else L++[x]
def Kz{x:PAux}:L<+:axI L x:=by unfold axI;split;exact List.prefix_rfl;exact List.prefix_append _ _
def afw{x:PAux}:(axI L x).length<=L.length+1:=by unfold axI;split<;>simp
theorem ath{x:PAux}(h:L[k]? =some x):axI L x=L:=a0d (List.mem_of_getElem? h)
theorem atg{x:PAux}(hk:¬k<L.length)(h:∀j,∀hl:j<L.length,j<k->¬L[j]=x):axI L x=L++[x]:=by grind[axI,a0p]
def azb{x y:PAux}(h1:x.by_=y.by_)(h2:x.tx=y.tx)(h3:x.of_.k=y.of_.k)(h4:x.of_.cs=y.of_.cs):x=y:=by obtain⟨⟨a,b⟩,c,d⟩:=x;obtain⟨⟨a',b'⟩,c',d'⟩:=y;simp only at h1 h2 h3 h4;subst h1 h2 h3 h4;rfl
def ayq:(prog.info? 242).map (·.bytes)=some 48:=by kernel_rfl
def ans:ff prog 242=some (some 4):=by kernel_rfl
def amu:am prog 242=some 4:=by kernel_rfl
def al1:bv prog 242=some (.agg #[.int .i64 0,.slice none 0 0,.int .i64 0,.int .i64 0]):=by kernel_rfl
def aa1(a:List PCoef)(ha:bn a (fun y=>True))(b:List PCoef)(hb:bn b (fun y=>True)):PRet prog 333 [.tree 2 (a.map cfA),.tree 2 (b.map cfA)] (fun r=>∃v:Bool,r=vB v/\(v=true↔a=b)):=by refine ovT [24] [] func333 rfl rfl ?_;refine LenG.of (LenG.of ?_);apply cB<;>intro h0;have h4:=h0;simp at h4;refine rV rfl rfl ?_;refine⟨_,rfl,fun h=>absurd h a04,fun h=>?_⟩;subst h;simp at h0;have h4:=h0;simp at h4;have h7:a.length=b.length:=(by have h:=h0;simp at h;omega);refine LenG.of (LpG.on (fun k0:Nat=>(⟨fL [(0,.tree 2 (a.map cfA)),(1,.tree 2 (b.map cfA)),(12,vI a.length),(13,vI k0)],hLz [],0⟩:St)) (fun k0=>(a.length-k0)) (fun k0=>(k0<=a.length/\∀j (hl:j<a.length),j<k0->∀h2:j<b.length,a[j]=b[j])) 0 (cnR rfl) ⟨a0h _,fun j _ h=>absurd h (a0i j)⟩ ?_);rintro k0 h6;have hgr_k0:a.length<=140737488355328:=ha.1;obtain⟨hle_k0,h3⟩:=h6;apply cL<;>intro hlt14;refine IdxG.of ‹_› (IdxG.of (by omega) ?_);refine OpG.lk (acc rfl rfl) ?_;refine⟨by kernel_rfl,?_⟩;apply cB<;>intro h5;exact rV rfl rfl ⟨_,rfl,fun h=>absurd h a04,fun h=>by subst h;exact absurd rfl (ayl h5)⟩;refine⟨by omega,?_⟩;refine⟨(k0+1),by omega,(cnR rfl),?_⟩;refine⟨by omega,fun j hl h=>?_⟩;rcases a0k.1 h with h|rfl;exact h3 j hl h;exact fun _=>ayn h5;exact rV rfl rfl ⟨_,rfl,fun _=>List.ext_getElem h7 (fun i h1 h2=>h3 i h1 (by omega) h2),fun _=>rfl⟩
def af0(x:PAux)(b:KBl)(hbn:0<=b.n/\b.n<=1000)(hbA:b.A.length<=1000000000)(he:bn x.of_.cs (fun _=>True))(hf:∀y∈b.A,bn y.of_.cs (fun _=>True)):ach prog 306 [.ptr 1000000 0 0,.agg (axA x)] [(1000000,kB b),(1000001,b1 b),(1000002,b2 b),(1000003,b3 b),(1000004,b4 b),(1000005,b5 b),(1000006,b6 b),(1000007,b7 b)] [(1000000,some (kB {b with A:=axI b.A x})),(1000001,some (b1 {b with A:=axI b.A x})),(1000002,some (b2 {b with A:=axI b.A x})),(1000003,some (b3 {b with A:=axI b.A x})),(1000004,some (b4 {b with A:=axI b.A x})),(1000005,some (b5 {b with A:=axI b.A x})),(1000006,some (b6 {b with A:=axI b.A x})),(1000007,some (b7 {b with A:=axI b.A x}))] (fun q=>∃j:Nat,q=vI (b.n+((j:Nat):Int))/\(axI b.A x)[j]? =some x):=by
 refine ach.of_vc s9 [12,16,17,63,76] [] func306 rfl ntmps306 rfl (by kernel_rfl) (OpG.lk (zr rfl underlying123 rfl rfl rfl) (LpG.on (fun k0:Nat=>(⟨fL [(0,.ptr 1000000 0 0),(3,.ptr 0 0 0),(11,.sl 1000003 b.A.length 0 b.A.length),(12,vI b.A.length),(13,vI k0)],hLz [(0,⟨0,axA x,0,false⟩),(1000000,kB b),(1000001,b1 b),(1000002,b2 b),(1000003,b3 b),(1000004,b4 b),(1000005,b5 b),(1000006,b6 b),(1000007,b7 b)],1⟩:St)) (fun k0=>(b.A.length-k0)) (fun k0=>(k0<=b.A.length/\∀j (hl:j<b.A.length),j<k0->¬b.A[j]=x)) 0 (cnS rfl (hpR rfl (hpR rfl (hpS (aa aj _ _) rfl (hpS (aa aj _ _) rfl (hpS (aa de _ _) rfl (hpS (aa cm _ _) rfl (hpS (aa cx _ _) rfl (hpS (aa bg _ _) rfl (hpS (aa bg _ _) rfl trivial)))))))))) ⟨a0h _,fun j _ h=>absurd h (a0i j)⟩ ?_));rintro k0 hb;obtain⟨hle_k0,h0⟩:=hb;apply cB<;>intro h6;have h7:k0<b.A.length:=Int.ofNat_lt.1 (a0f h6)
 refine OpG.lk (Fp (k:=k0) de underlying123 amu rfl rfl rfl (by omega) rfl (by omega)) (OpG.lk (Ir (k:=k0) de ans rfl rfl (by omega)) (cB (fun h2=>?_) (fun h2=>?_)));have h3:(x.by_:Int)=(b.A[k0].by_:Int):=by simpa using h2
 apply cB<;>intro h8;have h4:(x.tx:Int)=(b.A[k0].tx:Int):=by simpa using h8
 apply cB<;>intro h9;have h5:(x.of_.k:Int)=(b.A[k0].of_.k:Int):=by simpa using h9
 refine ArgG.mk (aa1 x.of_.cs he b.A[k0].of_.cs (hf _ (az4 _))) rfl ?_;rintro _ ⟨c0,rfl,hc⟩;refine cB (fun h1=>by have hg:b.A[k0]=x:=(azb h3 h4 h5 (hc.1 h1)).symm;have hd:b.A[k0]? =some x:=(by rw[az5 h7,hg]);rw[ath hd];exact⟨by omega,⟨.inr rfl,_,P5.of [] (cq rfl (.cons (az0.tmp rfl) .nil)) rfl ⟨.same rfl (by decide),.same rfl (by decide),.same rfl (by decide),.same rfl (by decide),.same rfl (by decide),.same rfl (by decide),.same rfl (by decide),.same rfl (by decide),trivial⟩ .same,⟨k0,rfl,hd⟩⟩⟩) (fun h1=>⟨by omega,⟨(k0+1),by omega,(cnS rfl (hpR rfl (hpR rfl (hpS (aa aj _ _) rfl (hpS (aa aj _ _) rfl (hpS (aa de _ _) rfl (hpS (aa cm _ _) rfl (hpS (aa cx _ _) rfl (hpS (aa bg _ _) rfl (hpS (aa bg _ _) rfl trivial)))))))))),⟨by omega,fun j hl h=>?_⟩⟩⟩);rcases a0k.1 h with h|rfl;exact h0 j hl h;exact fun e=>by rw[hc.2 (by rw[e])]at h1;cases h1
 have h5:¬((x.of_.k:Int)=(b.A[k0].of_.k:Int)):=by simpa using h9
 refine cF ⟨by omega,⟨(k0+1),by omega,(cnS rfl (hpR rfl (hpR rfl (hpS (aa aj _ _) rfl (hpS (aa aj _ _) rfl (hpS (aa de _ _) rfl (hpS (aa cm _ _) rfl (hpS (aa cx _ _) rfl (hpS (aa bg _ _) rfl (hpS (aa bg _ _) rfl trivial)))))))))),⟨by omega,fun j hl h=>?_⟩⟩⟩;rcases a0k.1 h with h|rfl;exact h0 j hl h;exact fun e=>h5 (by rw[e])
 have h4:¬((x.tx:Int)=(b.A[k0].tx:Int)):=by simpa using h8
 refine cF (cF ⟨by omega,⟨(k0+1),by omega,(cnS rfl (hpR rfl (hpR rfl (hpS (aa aj _ _) rfl (hpS (aa aj _ _) rfl (hpS (aa de _ _) rfl (hpS (aa cm _ _) rfl (hpS (aa cx _ _) rfl (hpS (aa bg _ _) rfl (hpS (aa bg _ _) rfl trivial)))))))))),⟨by omega,fun j hl h=>?_⟩⟩⟩);rcases a0k.1 h with h|rfl;exact h0 j hl h;exact fun e=>h4 (by rw[e])
 have h3:¬((x.by_:Int)=(b.A[k0].by_:Int)):=by simpa using h2
 refine cF (cF (cF ⟨by omega,⟨(k0+1),by omega,(cnS rfl (hpR rfl (hpR rfl (hpS (aa aj _ _) rfl (hpS (aa aj _ _) rfl (hpS (aa de _ _) rfl (hpS (aa cm _ _) rfl (hpS (aa cx _ _) rfl (hpS (aa bg _ _) rfl (hpS (aa bg _ _) rfl trivial)))))))))),⟨by omega,fun j hl h=>?_⟩⟩⟩));rcases a0k.1 h with h|rfl;exact h0 j hl h;exact fun e=>h3 (by rw[e])
 have ha:¬k0<b.A.length:=fun h=>a0e h6 (Int.ofNat_lt.2 h);have hl1:(b.A++[x]).length=b.A.length+1:=by simp
 rw[atg ha h0];exact OpG.mk _ _ _ 2 (ae de (l:=b.A) (a:=x) underlying123 amu al1 ayq rfl rfl rfl (ap rfl rfl rfl rfl) rfl (by omega) (by omega) (by unfold TV;omega)) rfl rfl ⟨by kernel_rfl,OpG.lk (zr rfl underlying123 rfl rfl rfl) ⟨by omega,⟨by omega,⟨by kernel_rfl,⟨.inr rfl,_,P5.of [] (cq rfl (.cons (az0.tmp rfl) .nil)) rfl ⟨.same svA0 (by decide),.same rfl (by decide),.same rfl (by decide),.same svA3 (by decide),.same rfl (by decide),.same rfl (by decide),.same rfl (by decide),.same rfl (by decide),trivial⟩ .same,⟨b.A.length,congrArg vI (by omega),by simp⟩⟩⟩⟩⟩⟩
mutual
def nxT:List AV->Nat
 | [.v _,.tree _ ps]=>ao4 ps
 |_=>0
def ao4:List (List AV)->Nat
 | []=>0
 |r :: rs=>nxR r+ao4 rs
def nxR:List AV->Nat
 | [.v _,.v (.int _ k),.v _,.v _,.tree _ os]=>(if k=0 then 0 else 1)+Zn os
 |_=>0
def Zn:List (List AV)->Nat
 | []=>0
 |r :: rs=>nxT r+Zn rs
end
def nxP(p:GPart):Nat:=(if p.c_=0 then 0 else 1)+Zn p.of_
theorem Mq:∀l:List GPart,ao4 (l.map ptA)=(l.map nxP).sum
 |[]=>by simp[ao4]
 |p::l=>by simp only[a0t,ao4,Mq l,ptA,nxR,nxP,ip,List.sum_cons]
theorem Mp(x:GTm):nxT (tmA x)=(x.a_.map nxP).sum:=by simp only[tmA,nxT,Mq]
theorem adt(r:List AV):Zn [r]=nxT r:=by simp[Zn]
structure TmG(l:List PVar)(N:List Int)(r:List AV):Prop where
 tm:IsTm r
 sm:smR r=true
 ln:lnR r=true
 tv:TmV l r
 oc:∀v∈ek r,v∈N
def TmG.mono{M:List Int}(h:TmG l N r)(hm:∀v∈N,v∈M):TmG l M r:=⟨h.tm,h.sm,h.ln,h.tv,fun v hv=>hm v (h.oc v hv)⟩
theorem TmG.part{x:GTm}(hx:FitTm x)(h:TmG l N (tmA x))(hp:p∈x.a_)(h2:p.c_=2)(hr:r∈p.of_):TmG l N r:=by have hf:=hx.a_.2 p hp;refine⟨hf.of_.2 r hr,hf.sm r hr,hf.ln r hr,(tmV.1 h.tv p hp).2.2.1 h2 r hr,fun v hv=>h.oc v ?_⟩;rw[dx,List.mem_flatMap];refine⟨p,hp,?_⟩;unfold mo;rw[a0d h2];obtain⟨o,ho⟩:=a01.1 (hf.kd.2.1 h2).1;rw[ho]at hr ⊢;rw[az9.1 hr]at hv;simpa[vn]using hv
def TmG.var{x:GTm}(h:TmG l N (tmA x))(hp:p∈x.a_)(h2:¬p.c_=2):p.o_∈N:=h.oc _ (by rw[dx,List.mem_flatMap];exact⟨p,hp,by unfold mo;rw[a0c h2];simp⟩)
def AxE(l:List PVar)(n:Int)(N:List Int)(M:List PAux)(x:PAux):Prop:=
 (∃v,x=yx v/\TyV l 2 v/\v∈N)\/∃o g b,x=⟨g,b,0⟩/\(1<=b/\b<=1000)/\TmG l N o/\RepT n M o g
def AxW(l:List PVar)(n:Int)(N:List Int)(L:List PAux):Prop:=∀j (h:j<L.length),AxE l n N (L.take j) L[j]
section
variable{l:List PVar}{n:Int}{N:List Int}{L:List PAux}
def aze:AxW l n N []:=fun j h=>absurd h (a0i j)
def abz{M:List Int}{K:List PAux}{x:PAux}(h:AxE l n N K x)(hm:∀v∈N,v∈M):AxE l n M K x:=by rcases h with⟨v,h1,h2,h3⟩|⟨o,g,b,h1,h2,h3,h4⟩;exact .inl ⟨v,h1,h2,hm v h3⟩;exact .inr ⟨o,g,b,h1,h2,h3.mono hm,h4⟩
def sw{M:List Int}(h:AxW l n N L)(hm:∀v∈N,v∈M):AxW l n M L:=fun j hj=>abz (h j hj) hm
def aky{x:PAux}(h:AxW l n N L)(hx:AxE l n N L x):AxW l n N (L++[x]):=by grind[AxE,AxW]
def Xi{x:PAux}(h:AxW l n N L)(hx:AxE l n N L x):AxW l n N (axI L x):=by unfold axI;split;exact h;exact aky h hx
theorem qd(hr:lnR r=true)(h:RepT n L r f):f.cs.length<=1000000:=by
 cases h with
 |mk x vs gs hv hg h1 h2=>
  have h3:=(vo x).1 hr
  show(Cj (wf vs x.a_)).length<=_
  unfold Cj
  rw[a0b,ic]
  have:=M8 (es:=wf vs x.a_)
  rw[oo hv]at this
  omega
def Xh(h:AxW l n N L):∀y∈L,bn y.of_.cs (fun _=>True):=fun y hy=>by obtain⟨j,hj,rfl⟩:=a0p hy;refine⟨?_,fun _ _=>trivial⟩;rcases h j hj with⟨v,h1,_⟩|⟨o,g,b,h1,_,h3,h4⟩;rw[h1];simp[yx];rw[h1];exact a0m (qd h3.ln h4) (by decide)
end
structure KFm where
 k:Nat
 A:List PAux
 es:List (Int×Int)
 gs:List PLin
structure FoI(l:List PVar)(n:Int)(N:List Int)(A0:List PAux)(x:GTm)(s:KFm):Prop where
 pre:A0 <+: s.A
 ax:AxW l n N s.A
 le:s.es.length=s.k
 lg:s.gs.length=s.k
 cf:s.es.map (·.2)=(x.a_.take s.k).map (·.k_)
 rp:∀i (h:i<x.a_.length),i<s.k->Qp n s.A x.a_[i] ((s.es.map (·.1)).getD i 0) (s.gs.getD i wx)
 ro:∀i (h:i<x.a_.length),i<s.k->x.a_[i].c_=2->∀r∈x.a_[i].of_,RepT n s.A r (s.gs.getD i wx)
 sz:s.A.length<=A0.length+((x.a_.take s.k).map nxP).sum
section
variable{l:List PVar}{n:Int}{N:List Int}{A0:List PAux}{x:GTm}{s:KFm}
def fo0(h:AxW l n N A0):FoI l n N A0 x ⟨0,A0,[],[]⟩ where
 pre:=List.prefix_rfl
 ax:=h
 le:=rfl
 lg:=rfl
 cf:=rfl
 rp:=fun i _ hi=>absurd hi (a0i i)
 ro:=fun i _ hi=>absurd hi (a0i i)
 sz:=Nat.le_add_right _ _
def ajc(h:FoI l n N A0 x s)(hk:s.k<x.a_.length){g:PLin}(hp:s.A<+:A')(ha:AxW l n N A')(hv:Qp n A' x.a_[s.k] v g)(ho:x.a_[s.k].c_=2->∀r∈x.a_[s.k].of_,RepT n A' r g)(hs:A'.length<=s.A.length+nxP x.a_[s.k]):
 FoI l n N A0 x ⟨s.k+1,A',s.es++[(v,x.a_[s.k].k_)],s.gs++[g]⟩ where
 pre:=h.pre.trans hp
 ax:=ha
 le:=by show(s.es++[_]).length=s.k+1;rw[az8,h.le];rfl
 lg:=by show(s.gs++[_]).length=s.k+1;rw[az8,h.lg];rfl
 cf:=by show(s.es++[_]).map _=(x.a_.take (s.k+1)).map _;rw[a0g hk,a0u,a0u,h.cf];rfl
 rp:=fun i hi h0=>by show Qp n A' x.a_[i] (((s.es++[(v,x.a_[s.k].k_)]).map (·.1)).getD i 0) ((s.gs++[g]).getD i wx);have h0:i<s.k+1:=h0;by_cases hj:i<s.k;have e1:((s.es++[(v,x.a_[s.k].k_)]).map (·.1)).getD i 0=(s.es.map (·.1)).getD i 0:=(by simp[List.getElem?_append_left (show i<(s.es.map (·.1)).length by rw[a0b,h.le];exact hj),a0u]);have e2:(s.gs++[g]).getD i wx=s.gs.getD i wx:=(by simp[List.getElem?_append_left (show i<s.gs.length by rw[h.lg];exact hj)]);rw[e1,e2];exact(h.rp i hi hj).mono hp;obtain rfl:i=s.k:=(by omega);have e1:((s.es++[(v,x.a_[s.k].k_)]).map (·.1)).getD s.k 0=v:=(by simp[a0u,<-h.le]);have e2:(s.gs++[g]).getD s.k wx=g:=(by simp[<-h.lg]);rw[e1,e2];exact hv
 ro:=fun i hi h0 h2 r hr=>by show RepT n A' r ((s.gs++[g]).getD i wx);have h0:i<s.k+1:=h0;by_cases hj:i<s.k;have e2:(s.gs++[g]).getD i wx=s.gs.getD i wx:=(by simp[List.getElem?_append_left (show i<s.gs.length by rw[h.lg];exact hj)]);rw[e2];exact(h.ro i hi hj h2 r hr).mono hp;obtain rfl:i=s.k:=(by omega);have e2:(s.gs++[g]).getD s.k wx=g:=(by simp[<-h.lg]);rw[e2];exact ho h2 r hr
 sz:=by show A'.length<=A0.length+((x.a_.take (s.k+1)).map nxP).sum;rw[a0g hk,a0u,List.sum_append];simp only[a0t,List.map_nil,List.sum_cons,List.sum_nil];have:=h.sz;omega
def aqi(hn:n=((l.length:Nat):Int))(hx:FitTm x)(hv:TmV l (tmA x))(A:List PAux):∀p∈x.a_,∀r∈p.of_,al0 l n A r:=fun p hp r hr=>by by_cases h2:p.c_=2;exact ahg hn ((hx.a_.2 p hp).of_.2 r hr) ((tmV.1 hv p hp).2.2.1 h2 r hr);rw[(hx.a_.2 p hp).kd.2.2 h2]at hr;simp at hr
def axr(hn:n=((l.length:Nat):Int))(hx:FitTm x)(hv:TmV l (tmA x))(h:FoI l n N A0 x s)(hk:s.k<=x.a_.length):(s.es.map (·.1)).Nodup:=
 Sc hn hx hv hk (by rw[a0b,h.le]) (fun i hi h0=>h.rp i hi h0) (fun i hi h0=>h.ro i hi h0) (aqi hn hx hv s.A)
def Uw(hn:n=((l.length:Nat):Int))(hx:FitTm x)(hv:TmV l (tmA x)){g:PLin}(h:FoI l n N A0 x ⟨s.k+1,A',s.es++[(v,c)],s.gs++[g]⟩)(hk:s.k<x.a_.length):∀e∈mEs 0 s.es,∃q,e.1=.int .i64 q/\q≠v:=fun e he=>by have h0:=axr hn hx hv h hk;have h0:(s.es.map (·.1)++[v]).Nodup:=(by simpa[a0u]using h0);obtain⟨j,hj,rfl⟩:=Ep he;refine⟨_,rfl,fun e=>?_⟩;rw[List.nodup_append]at h0;exact h0.2.2 s.es[j].1 (List.mem_map_of_mem (az4 hj)) v (by simp) e
def aqj(h:FoI l n N A0 x s)(hk:s.k=x.a_.length):RepT n s.A (tmA x) ⟨x.g_,Cj s.es⟩:=by
 have h1:=h.cf;rw[hk,List.take_length]at h1
 have e:wf (s.es.map (·.1)) x.a_=s.es:=by
  unfold wf;rw[<-h1];apply List.ext_getElem;simp;intro i h1 h2;simp
 have:=RepT.mk (n:=n) (L:=s.A) x (s.es.map (·.1)) s.gs (by rw[a0b,h.le,hk]) (by rw[h.lg,hk]) (fun i hi=>h.rp i hi (by omega)) (fun i hi=>h.ro i hi (by omega));rwa [e]at this
end
def J4 :some (cp 0 0 (es.length+1) (mEs 0 es++[(.int .i64 v,.v (.int .i64 c),es.length)]))=some (cp 0 0 (es++[(v,c)]).length (mEs 0 (es++[(v,c)]))):=by have:=Tx 0 es (v,c);rw[Nat.zero_add]at this;rw[az8,<-this];rfl
def Fq{η:bo}{g:Option (Nat×Bool)}{x:Operand}(hx:aev τ x=vI 0)(hy:aev τ y=vI n)(h1:-9223372036854775808<=n)(h2:n<=9223372036854775807):
 LOp P ⟨d,.binOp .add t x y t',ty,pos,af,g⟩ τ η [] [] (vI n):=by
 have:=lJ (P:=P) (τ:=τ) (η:=η) (d:=d) (ty:=ty) (pos:=pos) (af:=af) (g:=g) (t:=t) (t':=t') hx hy (by omega) (by omega)
 rwa [Int.zero_add]at this
def aur :j4 [(1000000,1000000),(1000001,1000001),(1000002,1000002),(1000003,1000003),(1000004,1000004),(1000005,1000005),(1000006,1000006),(1000007,1000007)] [(1000000,some (kB b)),(1000001,some (b1 b)),(1000002,some (b2 b)),(1000003,some (b3 b)),(1000004,some (b4 b)),(1000005,some (b5 b)),(1000006,some (b6 b)),(1000007,some (b7 b))]=[(1000000,some (kB b)),(1000001,some (b1 b)),(1000002,some (b2 b)),(1000003,some (b3 b)),(1000004,some (b4 b)),(1000005,some (b5 b)),(1000006,some (b6 b)),(1000007,some (b7 b))]:=by simp only[j4,a0t,List.map_nil,a02,oh aj,oh de,oh cm,oh cx,oh bg];rfl
def aw9(h:¬p.c_=0):1<=nxP p:=by unfold nxP;rw[a0c h];omega
def aw8(h:¬p.c_=0)(ho:p.of_=[r]):nxP p=1+nxT r:=by unfold nxP;rw[a0c h,ho,adt]
def aw7{x:GTm}(hk:k<x.a_.length):((x.a_.take k).map nxP).sum+nxP x.a_[k]<=nxT (tmA x):=by grind[Mp,nxP,List.take_append_drop,a00]
def ao3{x:GTm}(hk:k=x.a_.length):((x.a_.take k).map nxP).sum=nxT (tmA x):=by rw[Mp,hk,List.take_length]
def alo(l:List PVar)(b:KBl)(r:List AV):Prop:=∃A' f,b.A<+:A'/\AxW l b.n b.N A'/\RepT b.n A' r f/\A'.length<=b.A.length+nxT r/\j6 prog 258 [.ptr 1000000 0 0,.agg r] [(1000000,kB b),(1000001,b1 b),(1000002,b2 b),(1000003,b3 b),(1000004,b4 b),(1000005,b5 b),(1000006,b6 b),(1000007,b7 b)] [(1000000,some (kB {b with A:=A'})),(1000001,some (b1 {b with A:=A'})),(1000002,some (b2 {b with A:=A'})),(1000003,some (b3 {b with A:=A'})),(1000004,some (b4 {b with A:=A'})),(1000005,some (b5 {b with A:=A'})),(1000006,some (b6 {b with A:=A'})),(1000007,some (b7 {b with A:=A'}))] (.agg (liA f))
def ae8:ca prog 258=true:=by kernel_rfl
def asg:ca prog 266=true:=by kernel_rfl
def ae6:ca prog 306=true:=by kernel_rfl
def awk:js prog 242=some [(0,2),(2,1),(3,1)]:=by kernel_rfl
def ac9:ff prog 185=some (some 2):=by kernel_rfl
def aja(x:GTm)(hx:FitTm x)(l:List PVar)(b:KBl)(ha:0<=b.n/\b.n<=1000)(hn:b.n=((l.length:Nat):Int))(hm:AxW l b.n b.N b.A)(h4:TmG l b.N (tmA x))(hsz:b.A.length+nxT (tmA x)<=1000000000)(ih:∀p∈x.a_,∀r∈p.of_,∀b:KBl,(0<=b.n/\b.n<=1000)->b.n=((l.length:Nat):Int)->AxW l b.n b.N b.A->TmG l b.N r->b.A.length+nxT r<=1000000000->alo l b r):Cm prog 258 [.ptr 1000000 0 0,.agg (tmA x)] [(1000000,kB b),(1000001,b1 b),(1000002,b2 b),(1000003,b3 b),(1000004,b4 b),(1000005,b5 b),(1000006,b6 b),(1000007,b7 b)] (fun q hb'=>∃A' f,q=.agg (liA f)/\hb'=[(1000000,some (kB {b with A:=A'})),(1000001,some (b1 {b with A:=A'})),(1000002,some (b2 {b with A:=A'})),(1000003,some (b3 {b with A:=A'})),(1000004,some (b4 {b with A:=A'})),(1000005,some (b5 {b with A:=A'})),(1000006,some (b6 {b with A:=A'})),(1000007,some (b7 {b with A:=A'}))]/\b.A<+:A'/\AxW l b.n b.N A'/\RepT b.n A' (tmA x) f/\A'.length<=b.A.length+nxT (tmA x)):=by
 have hpl:=(vo x).1 h4.ln
 have hb:=((ja x).1 h4.sm).1.2
 refine Cm.of_vc s9 [26,27,36,40,43,46,51] [8,10,11] func258 rfl ntmps258 rfl (by kernel_rfl) (OpG.nw (LOp.makeMap 2) rfl ?_)
 refine LenG.of (LpG.on (fun k0:KFm=>(⟨fL [(0,.ptr 1000000 0 0),(3,.ptr 0 0 0),(4,.ptr 1 0 0),(5,.mp 2 0),(11,.tree 5 (x.a_.map ptA)),(12,vI x.a_.length),(13,vI k0.k)],hLz [(0,⟨0,tmA x,0,false⟩),(1,⟨0,[vI 0,.v (.slice none 0 0)],0,false⟩),(2,cp 0 0 k0.es.length (mEs 0 k0.es)),(1000000,kB {b with A:=k0.A}),(1000001,b1 {b with A:=k0.A}),(1000002,b2 {b with A:=k0.A}),(1000003,b3 {b with A:=k0.A}),(1000004,b4 {b with A:=k0.A}),(1000005,b5 {b with A:=k0.A}),(1000006,b6 {b with A:=k0.A}),(1000007,b7 {b with A:=k0.A})],3⟩:St)) (fun k0=>(x.a_.length-k0.k)) (fun k0=>(k0.k<=x.a_.length/\FoI l b.n b.N b.A x k0)) (⟨0,b.A,[],[]⟩:KFm) (cnS rfl (.cons rfl rfl rfl (.cons rfl rfl rfl (.cons rfl rfl (kf _ _ _) (.cons rfl rfl rfl (.cons rfl rfl (aa aj _ _) (.cons rfl rfl (aa aj _ _) (.cons rfl rfl (aa de _ _) (.cons rfl rfl (aa cm _ _) (.cons rfl rfl (aa cx _ _) (.cons rfl rfl (aa bg _ _) (.cons rfl rfl (aa bg _ _) .nil)))))))))))) ⟨a0h _,fo0 hm⟩ ?_)
 rintro k0 hc
 have hgr_k0:x.a_.length<=140737488355328:=hx.a_.1
 obtain⟨hle_k0,h1⟩:=hc
 apply cL<;>intro h0
 ·have hnl:=aw7 h0
  have hd:=h1.sz
  have hcf:=hb _ (az4 h0)
  have hkp:=(hx.a_.2 _ (az4 h0)).kd.1
  refine IdxG.of ‹_› (cE (fun h8=>?_) (fun h8=>?_))
  have ho:=aw9 (p:=x.a_[k0.k]) (by omega)
  obtain⟨_,⟨j8,rfl,hp⟩,hq⟩:=af0 (yx x.a_[k0.k].o_) {b with A:=k0.A} ha (show k0.A.length<=_ by omega) ⟨by simp[yx],fun _ _=>trivial⟩ (Xh h1.ax)
  have he:=afw (L:=k0.A) (x:=yx x.a_[k0.k].o_)
  have h5:=ajc h1 h0 (v:=b.n+((j8:Nat):Int)) (g:=wx) (Kz (x:=yx x.a_[k0.k].o_)) (Xi h1.ax (.inl ⟨_,rfl,(tmV.1 h4.tv _ (az4 h0)).2.1 h8,h4.var (az4 h0) (by omega)⟩)) ⟨fun h=>by omega,fun _=>⟨j8,hp,rfl⟩,fun h=>by omega⟩ (fun h=>by omega) (by omega)
  skip -- pL
  refine bh (OpG.lk (oz (LOp.bd al1 awk rfl rfl) (fun _=>FzP.aggL (.cons (.pure rfl) (.cons (FzP.nil (n:=2)) (.cons (.pure rfl) (.cons (.pure rfl) .nil)))))) ?_)
  refine OpG.mk _ _ _ 4 (ba [(1000000,1000000),(1000001,1000001),(1000002,1000002),(1000003,1000003),(1000004,1000004),(1000005,1000005),(1000006,1000006),(1000007,1000007)] ae6 hq rfl rfl rfl rfl ⟨rfl,sX aj,sX aj,sX de,sX cm,sX cx,sX bg,sX bg,trivial⟩ ⟨⟨rfl,.inl rfl⟩,d9 aj,d9 aj,d9 de,d9 cm,d9 cx,d9 bg,d9 bg,trivial⟩ ⟨rfl,da aj _ _,da aj _ _,da de _ _,da cm _ _,da cx _ _,da bg _ _,da bg _ _,trivial⟩ rfl rfl rfl rfl aur rfl) rfl rfl ?_
  have h2:=Uw hn hx h4.tv h5 h0
  refine bh (OpG.lk (uq underlying364 underlying3 zr2 rfl rfl rfl h2) ?_)
  refine OpG.lk (Fq rfl rfl (by omega) (by omega)) (OpG.wr (xu underlying364 underlying3 rfl rfl rfl h2) rfl ?_)
  refine⟨by omega,⟨(⟨k0.k+1,axI k0.A (yx x.a_[k0.k].o_),k0.es++[((b.n+((j8:Nat):Int)),x.a_[k0.k].k_)],k0.gs++[wx]⟩:KFm),(nsA ‹_›),(cnS rfl (.cons rfl rfl rfl (.cons rfl rfl rfl (.cons (by exact J4) rfl (kf _ _ _) (.cons rfl rfl rfl (.cons rfl rfl (aa aj _ _) (.cons rfl rfl (aa aj _ _) (.cons rfl rfl (aa de _ _) (.cons rfl rfl (aa cm _ _) (.cons rfl rfl (aa cx _ _) (.cons rfl rfl (aa bg _ _) (.cons rfl rfl (aa bg _ _) .nil)))))))))))),?_⟩⟩
  exact⟨‹_›,h5⟩
  apply cE<;>intro h3
  ·have hs:0<x.a_[k0.k].of_.length:=by have:=((hx.a_.2 _ (az4 h0)).kd.2.1 h3).1;omega
   obtain⟨y0,h6,hy0⟩:=((hx.a_.2 _ (az4 h0)).of_.2 (x.a_[k0.k].of_[0]) (az4 hs)).open_
   have hkd:=((hx.a_.2 _ (az4 h0)).kd.2.1 h3).1
   have h9:x.a_[k0.k].of_=[tmA y0]:=c8 (by omega) h6
   have ho:=aw8 (p:=x.a_[k0.k]) (by omega) h9
   have h7:=h4.part hx (az4 h0) h3 (show tmA y0∈x.a_[k0.k].of_ by rw[h9];simp)
   have ht:=((hx.a_.2 _ (az4 h0)).kd.2.1 h3).2
   obtain⟨L1,g1,hu,hj,hf,hk,hg⟩:=ih x.a_[k0.k] (az4 h0) (tmA y0) (by rw[h9];simp) {b with A:=k0.A} ha hn h1.ax h7 (show k0.A.length+_<=_ by omega)
   have hk:L1.length<=k0.A.length+nxT (tmA y0):=hk
   obtain⟨_,⟨j10,rfl,hh⟩,hi⟩:=af0 ⟨g1,x.a_[k0.k].by_,0⟩ {b with A:=L1} ha (show L1.length<=_ by omega) ⟨a0m (qd h7.ln hf) (by decide),fun _ _=>trivial⟩ (Xh hj)
   have he:=afw (L:=L1) (x:=⟨g1,x.a_[k0.k].by_,0⟩)
   have h5:=ajc h1 h0 (v:=b.n+((j10:Nat):Int)) (g:=g1) (hu.trans (Kz (x:=⟨g1,x.a_[k0.k].by_,0⟩))) (Xi hj (.inr ⟨tmA y0,g1,x.a_[k0.k].by_,rfl,ht,h7,hf⟩)) ⟨fun h=>by omega,fun h=>by omega,fun _=>⟨j10,hh,rfl⟩⟩ (fun _ r hr=>by rw[h9,az9]at hr;subst hr;exact hf.mono Kz) (by omega)
   skip -- pD
   refine bh (cz (j:=0) ‹_› h6 ?_)
   refine OpG.mk _ _ _ 4 (ba [(1000000,1000000),(1000001,1000001),(1000002,1000002),(1000003,1000003),(1000004,1000004),(1000005,1000005),(1000006,1000006),(1000007,1000007)] ae8 hg rfl rfl rfl rfl ⟨rfl,sX aj,sX aj,sX de,sX cm,sX cx,sX bg,sX bg,trivial⟩ ⟨⟨rfl,.inl rfl⟩,d9 aj,d9 aj,d9 de,d9 cm,d9 cx,d9 bg,d9 bg,trivial⟩ ⟨rfl,da aj _ _,da aj _ _,da de _ _,da cm _ _,da cx _ _,da bg _ _,da bg _ _,trivial⟩ rfl rfl rfl rfl aur rfl) rfl rfl (OpG.mk _ _ _ 4 (ba [(1000000,1000000),(1000001,1000001),(1000002,1000002),(1000003,1000003),(1000004,1000004),(1000005,1000005),(1000006,1000006),(1000007,1000007)] ae6 hi rfl rfl rfl rfl ⟨rfl,sX aj,sX aj,sX de,sX cm,sX cx,sX bg,sX bg,trivial⟩ ⟨⟨rfl,.inl rfl⟩,d9 aj,d9 aj,d9 de,d9 cm,d9 cx,d9 bg,d9 bg,trivial⟩ ⟨rfl,da aj _ _,da aj _ _,da de _ _,da cm _ _,da cx _ _,da bg _ _,da bg _ _,trivial⟩ rfl rfl rfl rfl aur rfl) rfl rfl ?_)
   refine⟨by kernel_rfl,?_⟩
   have h2:=Uw hn hx h4.tv h5 h0
   refine bh (OpG.lk (uq underlying364 underlying3 zr2 rfl rfl rfl h2) ?_)
   refine OpG.lk (Fq rfl rfl (by omega) (by omega)) (OpG.wr (xu underlying364 underlying3 rfl rfl rfl h2) rfl ?_)
   refine⟨by omega,⟨(⟨k0.k+1,axI L1 ⟨g1,x.a_[k0.k].by_,0⟩,k0.es++[((b.n+((j10:Nat):Int)),x.a_[k0.k].k_)],k0.gs++[g1]⟩:KFm),(nsA ‹_›),(cnS rfl (.cons rfl rfl rfl (.cons rfl rfl rfl (.cons (by exact J4) rfl (kf _ _ _) (.cons rfl rfl rfl (.cons rfl rfl (aa aj _ _) (.cons rfl rfl (aa aj _ _) (.cons rfl rfl (aa de _ _) (.cons rfl rfl (aa cm _ _) (.cons rfl rfl (aa cx _ _) (.cons rfl rfl (aa bg _ _) (.cons rfl rfl (aa bg _ _) .nil)))))))))))),?_⟩⟩
   exact⟨‹_›,h5⟩
  have h5:=ajc h1 h0 (v:=x.a_[k0.k].o_) (g:=wx) List.prefix_rfl h1.ax ⟨fun _=>rfl,fun h=>by omega,fun h=>by omega⟩ (fun h=>by omega) (by omega)
  skip -- pC
  have h2:=Uw hn hx h4.tv h5 h0
  refine bh (OpG.lk (uq underlying364 underlying3 zr2 rfl rfl rfl h2) ?_)
  refine OpG.lk (Fq rfl rfl (by omega) (by omega)) (OpG.wr (xu underlying364 underlying3 rfl rfl rfl h2) rfl ?_)
  refine⟨by omega,⟨(⟨k0.k+1,k0.A,k0.es++[(x.a_[k0.k].o_,x.a_[k0.k].k_)],k0.gs++[wx]⟩:KFm),(nsA ‹_›),(cnS rfl (.cons rfl rfl rfl (.cons rfl rfl rfl (.cons (by exact J4) rfl (kf _ _ _) (.cons rfl rfl rfl (.cons rfl rfl (aa aj _ _) (.cons rfl rfl (aa aj _ _) (.cons rfl rfl (aa de _ _) (.cons rfl rfl (aa cm _ _) (.cons rfl rfl (aa cx _ _) (.cons rfl rfl (aa bg _ _) (.cons rfl rfl (aa bg _ _) .nil)))))))))))),?_⟩⟩
  exact⟨‹_›,h5⟩
 have hl:k0.k=x.a_.length:=by omega
 have hna:=ao3 hl
 have hd:=h1.sz
 have hel:=h1.le
 refine OpG.lk (Ip (ba [(TOP,2)] asg (aj1 k0.es 0 0 (by omega)) rfl rfl rfl rfl ⟨R0,trivial⟩ ⟨ah5,trivial⟩ ⟨M1 _ _ _,trivial⟩ rfl rfl rfl rfl (Pl rfl) rfl) ⟨⟨az9.2 rfl,rfl,rfl⟩,trivial⟩) ⟨by kernel_rfl,⟨.inr rfl,_,_,P5.of (hb':=[(1000000,some (kB {b with A:=k0.A})),(1000001,some (b1 {b with A:=k0.A})),(1000002,some (b2 {b with A:=k0.A})),(1000003,some (b3 {b with A:=k0.A})),(1000004,some (b4 {b with A:=k0.A})),(1000005,some (b5 {b with A:=k0.A})),(1000006,some (b6 {b with A:=k0.A})),(1000007,some (b7 {b with A:=k0.A}))]) [] (cq rfl (.cons (az0.cellN ac9 rfl rfl trivial rfl rfl rfl) .nil)) rfl ⟨.same rfl (by decide),.same rfl (by decide),.same rfl (by decide),.same rfl (by decide),.same rfl (by decide),.same rfl (by decide),.same rfl (by decide),.same rfl (by decide),trivial⟩ .same,?_⟩⟩
 exact⟨k0.A,_,rfl,rfl,h1.pre,h1.ax,aqj h1 hl,by omega⟩
def ajb(l:List PVar)(r:List AV)(hr:IsTm r):∀b:KBl,(0<=b.n/\b.n<=1000)->b.n=((l.length:Nat):Int)->AxW l b.n b.N b.A->TmG l b.N r->b.A.length+nxT r<=1000000000->alo l b r:=
 IsTm.ind (M:=fun r=>∀b:KBl,(0<=b.n/\b.n<=1000)->b.n=((l.length:Nat):Int)->AxW l b.n b.N b.A->TmG l b.N r->b.A.length+nxT r<=1000000000->alo l b r) (fun x hx ih b h1 h2 h3 h4 h5=>by obtain⟨_,_,⟨A',f,rfl,rfl,p1,p2,p3,p4⟩,hc⟩:=aja x hx l b h1 h2 h3 h4 h5 ih;exact⟨A',f,p1,p2,p3,p4,hc⟩) hr
def O7(f:PLin):PLin:=⟨-f.k,f.cs.map fun c=>⟨c.v,-c.n⟩⟩
def apf{L:List PCoef}(hk:k<f.cs.length)(h:L=(f.cs.take k).map fun c=>(⟨c.v,-c.n⟩:PCoef)):L++[⟨f.cs[k].v,-f.cs[k].n⟩]=(f.cs.take (k+1)).map fun c=>(⟨c.v,-c.n⟩:PCoef):=by rw[a0g hk,a0u,h];rfl
theorem ada{x:GTm}(h:RepT n L (tmA x) f):f.k=x.g_:=by obtain⟨_,_,_,_,_,_,rfl⟩:=m8 h;rfl
def ahh{x:GTm}(h:RepT n L (tmA x) f)(hs:smR (tmA x)=true):∀c∈f.cs,-1048576<=c.n/\c.n<=1048576:=by obtain⟨vs,gs,l1,_,_,_,rfl⟩:=m8 h;intro c hc;obtain⟨v,hv,rfl⟩:=a0v.1 hc;obtain⟨j,hj,_,_,e⟩:=Tz hv;show -1048576<=my _ v/\my _ v<=1048576;rw[e];rw[oo l1]at hj;rw[ul l1 hj];exact((ja x).1 hs).1.2 _ (az4 hj)
structure FitLit(x:GLit):Prop where
 e_:FitAt x.e_
def Ed:RowF cfA 2:=Sb
structure TmB(l:List PVar)(x:GTm):Prop where
 tm:FitTm x
 sm:smR (tmA x)=true
 ln:lnR (tmA x)=true
 tv:TmV l (tmA x)
theorem TmB.g{x:GTm}(h:TmB l x):TmG l (N++srtU (ek (tmA x))) (tmA x):=⟨I0 h.tm,h.sm,h.ln,h.tv,fun v hv=>a0a.2 (.inr (lh.2 hv))⟩
def lb(x:GLit)(f:PLin):PCon:=if x.e_.c_=3 then⟨f,true⟩else if x.e_.c_=4 then(if x.F_=true then⟨⟨-f.k+1,(O7 f).cs⟩,false⟩else⟨⟨f.k+1,f.cs⟩,false⟩)else⟨f,false⟩
inductive AddR(l:List PVar)(x:GLit)(b:KBl):KBl->Prop
 |nul (h:x.e_.c_=0):AddR l x b {b with U:=b.U++[x.e_.o_]}
 |nnl (h:x.e_.c_=1):AddR l x b {b with N:=b.N++[x.e_.o_],v:=b.v+1}
 |tes (h:x.e_.c_=5):AddR l x b {b with N:=b.N++[x.e_.o_],v:=b.v+1,T:=b.T++[⟨x.e_.o_,x.e_.w_.kd,x.e_.w_.ng,x.e_.w_.s⟩]}
 |sam (h:x.e_.c_=6):AddR l x b {b with N:=b.N++[x.e_.o_]++[x.e_.v_],v:=b.v+1+1,S:=b.S++[(x.e_.o_,x.e_.v_)]}
 |dif (h:x.e_.c_=7):AddR l x b {b with N:=b.N++[x.e_.o_]++[x.e_.v_],v:=b.v+1+1,D:=b.D++[(x.e_.o_,x.e_.v_)]}
 |int (A1:List PAux) (f1:PLin) (h:x.e_.c_=2\/x.e_.c_=3\/x.e_.c_=4) (hp:b.A <+: A1) (hw:AxW l b.n (b.N++srtU (ek (tmA x.e_.q_))) A1) (hr:RepT b.n A1 (tmA x.e_.q_) f1) (hz:A1.length<=b.A.length+nxT (tmA x.e_.q_)):AddR l x b {b with N:=b.N++srtU (ek (tmA x.e_.q_)),v:=vbX b.v (b.N++srtU (ek (tmA x.e_.q_))).length,A:=A1,I:=b.I++[lb x f1]}
theorem arl{x:GLit}(h:x.e_.c_=2):(⟨f,false⟩:PCon)=lb x f:=by unfold lb;rw[a0c (by omega),a0c (by omega)]
theorem arn{x:GLit}(h:x.e_.c_=3):(⟨f,true⟩:PCon)=lb x f:=by unfold lb;rw[a0d h]
theorem arm{x:GLit}(h:x.e_.c_=4)(ha:x.F_=true):(⟨⟨-f.k+1,(O7 f).cs⟩,false⟩:PCon)=lb x f:=by unfold lb;rw[a0c (by omega),a0d h,a0d ha]
theorem ark{x:GLit}(h:x.e_.c_=4)(ha:x.F_=false):(⟨⟨f.k+1,f.cs⟩,false⟩:PCon)=lb x f:=by unfold lb;rw[a0c (by omega),a0d h,a0c (by rw[ha];decide)]
def ar4:(prog.info? 145).map (·.bytes)=some 16:=by kernel_rfl
def amw:am prog 145=some 2:=by kernel_rfl
def al2:bv prog 145=some (.agg #[.int .i64 0,.int .i64 0]):=by kernel_rfl
def O5(f:PLin)(hfl:f.cs.length<=1000000)(hk1:-9223372036854775807<=f.k/\f.k<=9223372036854775807)(h4:∀c∈f.cs,-1048576<=c.n/\c.n<=1048576):PRet prog 259 [.agg (liA f)] (fun q=>q=.agg (liA (O7 f))):=by refine ovT [8,23] [7] func259 rfl rfl (OpG.lk (ot rfl (by omega) (by omega)) (LenG.of (LpG.via (fun _ h=>dg 2 1 2 rfl rfl rfl rfl rfl 4 rfl h) (LpG.on (fun k0:KL PCoef=>(⟨fL [(2,.ptr 1 0 0),(3,.ptr 2 0 0),(11,.tree 2 (f.cs.map cfA)),(12,vI f.cs.length),(13,vI k0.k)],hLz [(1,⟨0,[vI 0,.v (.slice none 0 0)],0,false⟩),(2,⟨0,[vI (-f.k),.sl 3 k0.L.length 0 k0.L.length],0,false⟩),(3,⟨k0.L.length,rF cfA k0.L,2,Nat.beq k0.L.length 0⟩)],4⟩:St)) (fun k0=>(f.cs.length-k0.k)) (fun k0=>(k0.k<=f.cs.length/\(k0.L=((f.cs.take k0.k).map fun c=>(⟨c.v,-c.n⟩:PCoef))/\k0.L.length=k0.k))) (⟨0,[]⟩:KL PCoef) (cnS rfl (hpR rfl (hpR (by rfl) (hpS (aa Ed _ _) (by rfl) trivial)))) ⟨a0h _,⟨rfl,rfl⟩⟩ ?_))));rintro k0 h2;obtain⟨hle_k0,h0⟩:=h2;refine cL (fun h1=>by have hcb:=h4 f.cs[k0.k] (az4 h1);have h3:=h0.2;exact IdxG.of ‹_› (OpG.lk (ot rfl (by omega) (by omega)) (OpG.mk _ _ _ 6 (ae Ed (a:=(⟨f.cs[k0.k].v,-f.cs[k0.k].n⟩:PCoef)) underlying183 Y0 Qs ar3 rfl rfl rfl (ap rfl rfl rfl rfl) rfl (by omega) (by omega) (by unfold TV;omega)) rfl rfl ⟨by omega,⟨(⟨k0.k+1,k0.L++[(⟨f.cs[k0.k].v,-f.cs[k0.k].n⟩:PCoef)]⟩:KL PCoef),(nsA ‹_›),(cnS rfl (hpR rfl (.cons (by(rw[az8];rfl)) rfl rfl (.cons (by(rw[az8];rfl)) rfl (aa Ed _ _) .nil)))),⟨‹_›,⟨apf h1 h0.1,by show(_++[_]).length=_;rw[az8,h3];rfl⟩⟩⟩⟩))) (fun hge14=>have h3:=h0.2;RegG.via (fun _ h=>dt [3] 2 0 0 [vI (-f.k),.sl 3 k0.L.length 0 k0.L.length] [vI (-f.k),.tree 2 (k0.L.map cfA)] rfl rfl (.keep (.fz (FzP.rows Ed (az9.2 rfl) rfl) (.same _))) rfl h) (bh (rtK rfl ac9 rfl ⟨[],FzP.pure rfl⟩ (have e:=h0.1;?_))));rw[a0x (by omega)]at e;rw[e];rfl
def OB{fn:Func}{N:Nat}{s:St}{e:Exit}{S:KBl->Prop}(b':KBl)(hr:fn.results=#[])(hA:S b')(h:[s.η 1000000,s.η 1000001,s.η 1000002,s.η 1000003,s.η 1000004,s.η 1000005,s.η 1000006,s.η 1000007]=[some (kB b'),some (b1 b'),some (b2 b'),some (b3 b'),some (b4 b'),some (b5 b'),some (b6 b'),some (b7 b')])(he:e=.normal\/e=.ret):(e=.normal\/e=.ret)/\∃ret hb',P5 prog N fn s hb' ret/\∃b',ret=.tup []/\hb'=[(1000000,some (kB b')),(1000001,some (b1 b')),(1000002,some (b2 b')),(1000003,some (b3 b')),(1000004,some (b4 b')),(1000005,some (b5 b')),(1000006,some (b6 b')),(1000007,some (b7 b'))]/\S b':=by simp only[List.cons.injEq,and_true]at h;obtain⟨h0,h1,h2,h3,h4,h5,h6,h7⟩:=h;exact⟨he,_,_,P5.of (hb':=[(1000000,some (kB b')),(1000001,some (b1 b')),(1000002,some (b2 b')),(1000003,some (b3 b')),(1000004,some (b4 b')),(1000005,some (b5 b')),(1000006,some (b6 b')),(1000007,some (b7 b'))]) [] (cq hr .nil) rfl ⟨.same h0 (by decide),.same h1 (by decide),.same h2 (by decide),.same h3 (by decide),.same h4 (by decide),.same h5 (by decide),.same h6 (by decide),.same h7 (by decide),trivial⟩ .same,_,rfl,rfl,hA⟩
def aua(x:GLit)(hx:FitLit x)(l:List PVar)(b:KBl)(h2:0<=b.n/\b.n<=1000)(hn:b.n=((l.length:Nat):Int))(h3:AxW l b.n b.N b.A)(hk:0<=x.e_.c_/\x.e_.c_<=7)(hT:x.e_.c_=2\/x.e_.c_=3\/x.e_.c_=4->TmB l x.e_.q_)(h4:(ek (tmA x.e_.q_)).length<=4096)(h5:b.A.length+nxT (tmA x.e_.q_)<=1000000000)(hU:b.U.length<=1000000000)(hN:b.N.length<=1000000000)(hv:b.v<=1000000000)(hI:b.I.length<=1000000000)(hTl:b.T.length<=1000000000)(hS:b.S.length<=1000000000)(hD:b.D.length<=1000000000):Cm prog 219 [.ptr 1000000 0 0,.agg (lyA x)] [(1000000,kB b),(1000001,b1 b),(1000002,b2 b),(1000003,b3 b),(1000004,b4 b),(1000005,b5 b),(1000006,b6 b),(1000007,b7 b)] (fun q hb'=>∃b',q=.tup []/\hb'=[(1000000,some (kB b')),(1000001,some (b1 b')),(1000002,some (b2 b')),(1000003,some (b3 b')),(1000004,some (b4 b')),(1000005,some (b5 b')),(1000006,some (b6 b')),(1000007,some (b7 b'))]/\AddR l x b b'):=by
 refine Cm.of_vc s9 [21,39,47,60,75,98,112,136,152,170,186,204] [7,8] func219 rfl ntmps219 rfl (by kernel_rfl) (cE (fun h=>OpG.mk _ _ _ 2 (ae aj (l:=b.U) (a:=x.e_.o_) underlying53 sz3 zr3 by3 rfl rfl rfl (ap rfl rfl rfl rfl) rfl (by omega) (by omega) (by unfold TV;omega)) rfl rfl ⟨rfl,OB _ rfl (.nul h) (by simp only[kB,b1,b2,b3,b4,b5,b6,b7,az8,a0r,a0s];rfl) (.inr rfl)⟩) (fun h=>cE (fun _=>cE (fun _=>?_) fun _=>by omega) fun _=>cE (fun _=>cE (fun _=>?_) fun _=>by omega) fun _=>cE (fun _=>?_) fun _=>?_));rotate_left 3;exact OpG.mk _ _ _ 2 (ae aj (l:=b.N) (a:=x.e_.o_) underlying53 sz3 zr3 by3 rfl rfl rfl (ap rfl rfl rfl rfl) rfl (by omega) (by omega) (by unfold TV;omega)) rfl rfl ⟨rfl,cE (fun h=>OpG.mk _ _ _ 4 (ae cx (l:=b.T) (a:=(⟨x.e_.o_,x.e_.w_.kd,x.e_.w_.ng,x.e_.w_.s⟩:PTest)) underlying125 sz64 zr64 by64 rfl rfl rfl (ap rfl rfl rfl rfl) rfl (by omega) (by omega) (by unfold TV;omega)) rfl rfl ⟨rfl,OB _ rfl (.tes h) (by simp only[kB,b1,b2,b3,b4,b5,b6,b7,az8,a0r,a0s];rfl) (.inl rfl)⟩) (fun _=>have hl:(b.N++[x.e_.o_]).length=b.N.length+1:=(by simp);cE (fun h=>OpG.mk _ _ _ 3 (ae aj (l:=(b.N++[x.e_.o_])) (a:=x.e_.v_) underlying53 sz3 zr3 by3 rfl rfl rfl (ap rfl rfl rfl rfl) rfl (by omega) (by omega) (by unfold TV;omega)) rfl rfl ⟨rfl,OpG.mk _ _ _ 4 (ae bg (l:=b.S) (a:=((x.e_.o_,x.e_.v_):Int×Int)) underlying126 amw al2 ar4 rfl rfl rfl (ap rfl rfl rfl rfl) rfl (by omega) (by omega) (by unfold TV;omega)) rfl rfl ⟨rfl,OB _ rfl (.sam h) (by simp only[kB,b1,b2,b3,b4,b5,b6,b7,az8,a0r,a0s];rfl) (.inl rfl)⟩⟩) (fun _=>cE (fun h=>OpG.mk _ _ _ 3 (ae aj (l:=(b.N++[x.e_.o_])) (a:=x.e_.v_) underlying53 sz3 zr3 by3 rfl rfl rfl (ap rfl rfl rfl rfl) rfl (by omega) (by omega) (by unfold TV;omega)) rfl rfl ⟨rfl,OpG.mk _ _ _ 4 (ae bg (l:=b.D) (a:=((x.e_.o_,x.e_.v_):Int×Int)) underlying126 amw al2 ar4 rfl rfl rfl (ap rfl rfl rfl rfl) rfl (by omega) (by omega) (by unfold TV;omega)) rfl rfl ⟨rfl,OB _ rfl (.dif h) (by simp only[kB,b1,b2,b3,b4,b5,b6,b7,az8,a0r,a0s];rfl) (.inl rfl)⟩⟩) fun _=>OB _ rfl (.nnl (by omega)) (by simp only[kB,b1,b2,b3,b4,b5,b6,b7,az8,a0r,a0s];rfl) (.inl rfl)))⟩
 all_goals
  have h0:=hT (by omega)
  have hsl:=dh (ek (tmA x.e_.q_))
  have hvb:=xz (ver:=b.v) (n:=(b.N++srtU (ek (tmA x.e_.q_))).length)
  have hNl:(b.N++srtU (ek (tmA x.e_.q_))).length=b.N.length+(srtU (ek (tmA x.e_.q_))).length:=az8
  refine bh (ArgG.mk (Qy (tmA x.e_.q_) (I0 hx.e_.q_) (a0m h4 (by decide))) rfl ?_)
  rintro _ rfl
  refine OpG.mk _ _ _ 1 (fd aj (l:=b.N) (l':=srtU (ek (tmA x.e_.q_))) underlying53 sz3 zr3 by3 rfl rfl rfl rfl (by omega) (by omega) (by unfold TV;omega)) rfl rfl ⟨rfl,?_⟩
  obtain⟨A1,f1,h6,h7,h1,h8,h9⟩:=ajb l (tmA x.e_.q_) (I0 h0.tm) {b with N:=b.N++srtU (ek (tmA x.e_.q_)),v:=vbX b.v (b.N++srtU (ek (tmA x.e_.q_))).length} h2 hn (sw h3 fun v hv=>a0a.2 (.inl hv)) h0.g h5
  have hfl:=qd h0.ln h1
  have hfk:=ada h1
  have hsk:=((ja _).1 h0.sm).1.1
  have hA:=AddR.int (l:=l) (x:=x) (b:=b) A1 f1 (by omega) h6 h7 h1 h8
  refine bh (OpG.mk _ _ _ 1 (ba [(1000000,1000000),(1000001,1000001),(1000002,1000002),(1000003,1000003),(1000004,1000004),(1000005,1000005),(1000006,1000006),(1000007,1000007)] ae8 h9 rfl rfl rfl rfl ⟨rfl,sX aj,sX aj,sX de,sX cm,sX cx,sX bg,sX bg,trivial⟩ ⟨⟨rfl,.inl rfl⟩,d9 aj,d9 aj,d9 de,d9 cm,d9 cx,d9 bg,d9 bg,trivial⟩ ⟨rfl,da aj _ _,da aj _ _,da de _ _,da cm _ _,da cx _ _,da bg _ _,da bg _ _,trivial⟩ rfl rfl rfl rfl aur rfl) rfl rfl ?_)
  repeat' first|refine cE (fun _=>?_) (fun _=>?_)<;>try omega
 rw[<-arl (f:=f1) (by omega)]at hA;exact OpG.mk _ _ _ 3 (ae cm (l:=b.I) (a:=(⟨f1,false⟩:PCon)) underlying124 Rl Qt Wy rfl rfl rfl (ap rfl rfl rfl rfl) rfl (by omega) (by omega) (by show b.I.length+1≠TV;unfold TV;omega)) rfl rfl ⟨rfl,OB _ rfl hA (by simp only[kB,b1,b2,b3,b4,b5,b6,b7,az8,a0r,a0s];rfl) (.inr rfl)⟩;rw[<-arn (f:=f1) (by omega)]at hA;exact OpG.mk _ _ _ 3 (ae cm (l:=b.I) (a:=(⟨f1,true⟩:PCon)) underlying124 Rl Qt Wy rfl rfl rfl (ap rfl rfl rfl rfl) rfl (by omega) (by omega) (by show b.I.length+1≠TV;unfold TV;omega)) rfl rfl ⟨rfl,OB _ rfl hA (by simp only[kB,b1,b2,b3,b4,b5,b6,b7,az8,a0r,a0s];rfl) (.inr rfl)⟩;refine cB (fun h=>by rw[<-arm (f:=f1) (by omega) (by simpa using h)]at hA;have hnk:(O7 f1).k=-f1.k:=rfl;refine ArgG.mk (O5 f1 (by omega) (by omega) (ahh h1 h0.sm)) rfl ?_;rintro _ rfl;exact⟨by omega,OpG.mk _ _ _ 3 (ae cm (l:=b.I) (a:=(⟨⟨-f1.k+1,(O7 f1).cs⟩,false⟩:PCon)) underlying124 Rl Qt Wy rfl rfl rfl (ap rfl rfl rfl rfl) rfl (by omega) (by omega) (by show b.I.length+1≠TV;unfold TV;omega)) rfl rfl ⟨rfl,OB _ rfl hA (by simp only[kB,b1,b2,b3,b4,b5,b6,b7,az8,a0r,a0s];rfl) (.inr rfl)⟩⟩) (fun h=>?_);rw[<-ark (f:=f1) (by omega) (by simpa using h)]at hA;exact⟨by omega,OpG.mk _ _ _ 3 (ae cm (l:=b.I) (a:=(⟨⟨f1.k+1,f1.cs⟩,false⟩:PCon)) underlying124 Rl Qt Wy rfl rfl rfl (ap rfl rfl rfl rfl) rfl (by omega) (by omega) (by show b.I.length+1≠TV;unfold TV;omega)) rfl rfl ⟨rfl,OB _ rfl hA (by simp only[kB,b1,b2,b3,b4,b5,b6,b7,az8,a0r,a0s];rfl) (.inr rfl)⟩⟩
structure LitOk(l:List PVar)(x:GLit):Prop where
 fit:FitLit x
 k:0<=x.e_.c_/\x.e_.c_<=7
 tm:x.e_.c_=2\/x.e_.c_=3\/x.e_.c_=4->TmB l x.e_.q_
 oc:(ek (tmA x.e_.q_)).length<=4096
 nx:nxT (tmA x.e_.q_)<=8192
inductive BldR(l:List PVar)(b0:KBl):List GLit->KBl->Prop
 |nil:BldR l b0 [] b0
 |snoc (xs:List GLit) (x:GLit) (b b':KBl) (h:BldR l b0 xs b) (hx:AddR l x b b'):BldR l b0 (xs++[x]) b'
theorem ak8{x:GLit}(h:AddR l x b b'):b'.n=b.n:=by cases h<;>rfl
def azw{x:GLit}(h:AddR l x b b'):∀v∈b.N,v∈b'.N:=by cases h<;>intro v hv<;>simp[hv]
theorem at8{x:GLit}(h:AddR l x b b')(ha:AxW l b.n b.N b.A):AxW l b'.n b'.N b'.A:=by
 have hm:=azw h
 have hn:=ak8 h
 rw[hn]
 cases h with
 |int A1 f1 h hp hw hr hz=>exact hw
 |nul h=>exact sw ha hm
 |nnl h=>exact sw ha hm
 |tes h=>exact sw ha hm
 |sam h=>exact sw ha hm
 |dif h=>exact sw ha hm
structure SzB(k:Nat)(b:KBl):Prop where
 u:b.U.length<=k
 n:b.N.length<=4096*k
 v:b.v<=2*k
 a:b.A.length<=8192*k
 i:b.I.length<=k
 t:b.T.length<=k
 s:b.S.length<=k
 d:b.D.length<=k
theorem at6{x:GLit}(h:AddR l x b b')(hx:LitOk l x)(hb:SzB k b):SzB (k+1) b':=by
 obtain⟨h1,h2,h3,h4,h5,h6,h7,h8⟩:=hb;have hs:=dh (ek (tmA x.e_.q_))
 have ho:=hx.oc;have hn:=hx.nx
 cases h with
 |int A1 f1 h hp hw hr hz=>
  have hv:=xz (ver:=b.v) (n:=(b.N++srtU (ek (tmA x.e_.q_))).length)
  constructor<;>simp only[az8,a0r,a0s]at *<;>omega
 |_=>constructor<;>simp only[az8,a0r,a0s]<;>omega
def b00(n:Int):KBl:=⟨n,[],[],0,[],[],[],[],[]⟩
section
variable{l:List PVar}{xs:List GLit}{b:KBl}{n:Int}
theorem W5(h:BldR l (b00 n) xs b):b.n=n:=by
 induction h with
 |nil=>rfl
 |snoc xs x b b' h hx ih=>rw[ak8 hx,ih]
theorem Ie(h:BldR l (b00 n) xs b):AxW l b.n b.N b.A:=by
 induction h with
 |nil=>exact aze
 |snoc xs x b b' h hx ih=>exact at8 hx ih
theorem W4(h:BldR l (b00 n) xs b)(hx:∀x∈xs,LitOk l x):SzB xs.length b:=by
 induction h with
 |nil=>constructor<;>exact a0h _
 |snoc xs x b b' h ha ih=>rw[az8];exact at6 ha (hx x (by simp)) (ih fun y hy=>hx y (by simp[hy]))
end
def mh(b:KBl):PCl:=⟨srtU b.U,srtU b.N,b.A,b.I,b.T,b.S,b.D⟩
structure KBu where
 k:Nat
 b:KBl
def ayc :j4 [(1000000,1),(1000001,2),(1000002,3),(1000003,4),(1000004,5),(1000005,6),(1000006,7),(1000007,8)] [(1000000,some (kB b)),(1000001,some (b1 b)),(1000002,some (b2 b)),(1000003,some (b3 b)),(1000004,some (b4 b)),(1000005,some (b5 b)),(1000006,some (b6 b)),(1000007,some (b7 b))]=[(1,some (⟨0,[vI b.n,.sl 2 b.U.length 0 b.U.length,.sl 3 b.v 0 b.N.length,.sl 4 b.A.length 0 b.A.length,.sl 5 b.I.length 0 b.I.length,.sl 6 b.T.length 0 b.T.length,.sl 7 b.S.length 0 b.S.length,.sl 8 b.D.length 0 b.D.length],0,false⟩)),(2,some (b1 b)),(3,some (b2 b)),(4,some (b3 b)),(5,some (b4 b)),(6,some (b5 b)),(7,some (b6 b)),(8,some (b7 b))]:=by simp only[j4,a0t,List.map_nil,a02,oh aj,oh de,oh cm,oh cx,oh bg];rfl
def ask:ca prog 219=true:=by kernel_rfl
def afa:ca prog 220=true:=by kernel_rfl
def ant:ff prog 128=some (some 7):=by kernel_rfl
def Rz(l:List Int)(v:Nat)(hl:l.length<=140737488355328):ach prog 220 [.sl 1000000 v 0 l.length] [(1000000,⟨v,rF iA l,1,Nat.beq l.length 0⟩)] [(1000000,none)] (fun q=>q=isA (srtU l)):=ach.of_vc s9 [4,6] [] func220 rfl ntmps220 rfl (by kernel_rfl) (OpG.mk _ _ _ 0 (ba [(TOP,1000000)] wl (ve l v (by omega)) rfl rfl rfl rfl ⟨iw aj,trivial⟩ ⟨d9 aj,trivial⟩ ⟨da aj _ _,trivial⟩ rfl rfl rfl rfl (bz aj rfl) rfl) rfl rfl (OpG.mk _ _ _ 0 (ba [(TOP,1000000)] yj (lz l v (by omega)) rfl rfl rfl rfl ⟨iw aj,trivial⟩ ⟨ado ic,trivial⟩ ⟨da aj _ _,trivial⟩ rfl rfl rfl rfl (bz aj rfl) rfl) rfl rfl ⟨.inr rfl,_,P5.of [1000000] (cq rfl (.cons (az0.tmp rfl) .nil)) rfl ⟨.gone,trivial⟩ (.fz (FzP.srtU rfl)),rfl⟩))
def L9(l:List Int)(v:Nat)(hl:l.length<=140737488355328):j6 prog 220 [.sl TOP v 0 l.length] [(TOP,⟨v,rF iA l,1,Nat.beq l.length 0⟩)] [(TOP,none)] (isA (srtU l)):=by obtain⟨_,rfl,h⟩:=Rz l v hl;exact h
def ayw{c:KBl}(hk:k<xs.length)(h:BldR l (b00 n) (xs.take k) b)(ha:AddR l xs[k] b c):BldR l (b00 n) (xs.take (k+1)) c:=by rw[a0g hk];exact .snoc _ _ _ _ h ha
def asb(hk:k<=xs.length)(hx:∀x∈xs,LitOk l x)(h:BldR l (b00 n) (xs.take k) b):SzB k b:=by grind[W4,List.mem_of_mem_take,List.length_take,Nat.min_eq_left]
def abj(l:List PVar)(n:Int)(hn:n=((l.length:Nat):Int))(hn1:l.length<=1000)(xs:List GLit)(h3:∀x∈xs,LitOk l x)(hxl:xs.length<=100000):PRet prog 191 [.tree 10 (xs.map lyA),vI n] (fun q=>∃b,q=.agg (clA (mh b))/\BldR l (b00 n) xs b):=by refine ovT [19,28,34] [5,8] func191 rfl rfl (LenG.of ?_);refine LpG.via (fun _ h=>dg 1 1 1 rfl rfl rfl rfl rfl 3 rfl h) (LpG.via (fun _ h=>dg 1 2 1 rfl rfl rfl rfl rfl 4 rfl h) ?_);refine LpG.via (fun _ h=>dg 1 3 4 rfl rfl rfl rfl rfl 5 rfl h) (LpG.via (fun _ h=>dg 1 4 3 rfl rfl rfl rfl rfl 6 rfl h) ?_);refine LpG.via (fun _ h=>dg 1 5 4 rfl rfl rfl rfl rfl 7 rfl h) (LpG.via (fun _ h=>dg 1 6 2 rfl rfl rfl rfl rfl 8 rfl h) ?_);refine LpG.via (fun _ h=>dg 1 7 2 rfl rfl rfl rfl rfl 9 rfl h) (LpG.on (fun k0:KBu=>(⟨fL [(4,.ptr 0 0 0),(5,.ptr 1 0 0),(11,.tree 10 (xs.map lyA)),(12,vI xs.length),(13,vI k0.k)],hLz [(0,⟨0,[.v (.slice none 0 0),.v (.slice none 0 0),.v (.slice none 0 0),.v (.slice none 0 0),.v (.slice none 0 0),.v (.slice none 0 0),.v (.slice none 0 0)],0,false⟩),(1,⟨0,[vI k0.b.n,.sl 2 k0.b.U.length 0 k0.b.U.length,.sl 3 k0.b.v 0 k0.b.N.length,.sl 4 k0.b.A.length 0 k0.b.A.length,.sl 5 k0.b.I.length 0 k0.b.I.length,.sl 6 k0.b.T.length 0 k0.b.T.length,.sl 7 k0.b.S.length 0 k0.b.S.length,.sl 8 k0.b.D.length 0 k0.b.D.length],0,false⟩),(2,⟨k0.b.U.length,rF iA k0.b.U,1,Nat.beq k0.b.U.length 0⟩),(3,⟨k0.b.v,rF iA k0.b.N,1,Nat.beq k0.b.N.length 0⟩),(4,⟨k0.b.A.length,rF axA k0.b.A,4,Nat.beq k0.b.A.length 0⟩),(5,⟨k0.b.I.length,rF cnA k0.b.I,3,Nat.beq k0.b.I.length 0⟩),(6,⟨k0.b.T.length,rF teA k0.b.T,4,Nat.beq k0.b.T.length 0⟩),(7,⟨k0.b.S.length,rF paA k0.b.S,2,Nat.beq k0.b.S.length 0⟩),(8,⟨k0.b.D.length,rF paA k0.b.D,2,Nat.beq k0.b.D.length 0⟩)],9⟩:St)) (fun k0=>(xs.length-k0.k)) (fun k0=>(k0.k<=xs.length/\BldR l (b00 n) (xs.take k0.k) k0.b)) (⟨0,b00 n⟩:KBu) (cnS rfl (hpR rfl (hpR (by rfl) (hpS (aa aj _ _) (by rfl) (hpS (aa aj _ _) (by rfl) (hpS (aa de _ _) (by rfl) (hpS (aa cm _ _) (by rfl) (hpS (aa cx _ _) (by rfl) (hpS (aa bg _ _) (by rfl) (hpS (aa bg _ _) (by rfl) trivial)))))))))) ⟨a0h _,.nil⟩ ?_);rintro k0 h4;obtain⟨hle_k0,h0⟩:=h4;apply cL<;>intro h1;refine IdxG.of ‹_› ?_;have h5:=asb (by omega) h3 h0;obtain⟨z1,z2,z3,z4,z5,z6,z7,z8⟩:=h5;have h2:=(h3 _ (az4 h1));have h8:=h2.oc;have hlx:=h2.nx;have hbn0:=W5 h0;obtain⟨_,_,⟨c1,rfl,rfl,h6⟩,h7⟩:=aua xs[k0.k] h2.fit l k0.b (by omega) (by omega) (Ie h0) h2.k h2.tm h8 (by omega) (by omega) (by omega) (by omega) (by omega) (by omega) (by omega) (by omega);refine bh (OpG.mk _ _ _ 10 (ba [(1000000,1),(1000001,2),(1000002,3),(1000003,4),(1000004,5),(1000005,6),(1000006,7),(1000007,8)] ask h7 rfl rfl rfl rfl ⟨rfl,sX aj,sX aj,sX de,sX cm,sX cx,sX bg,sX bg,trivial⟩ ⟨⟨rfl,.inl rfl⟩,d9 aj,d9 aj,d9 de,d9 cm,d9 cx,d9 bg,d9 bg,trivial⟩ ⟨rfl,da aj _ _,da aj _ _,da de _ _,da cm _ _,da cx _ _,da bg _ _,da bg _ _,trivial⟩ rfl rfl rfl rfl ayc rfl) rfl rfl ?_);refine⟨by omega,⟨(⟨k0.k+1,c1⟩:KBu),(nsA ‹_›),(cnS rfl (hpR rfl (hpR (by rfl) (hpS (aa aj _ _) (by rfl) (hpS (aa aj _ _) (by rfl) (hpS (aa de _ _) (by rfl) (hpS (aa cm _ _) (by rfl) (hpS (aa cx _ _) (by rfl) (hpS (aa bg _ _) (by rfl) (hpS (aa bg _ _) (by rfl) trivial)))))))))),?_⟩⟩;exact⟨‹_›,ayw h1 h0 h6⟩;have h9:k0.k=xs.length:=(by omega);have h5:=asb (by omega) h3 h0;obtain⟨z1,z2,z3,z4,z5,z6,z7,z8⟩:=h5;refine OpG.mk _ _ _ 9 (ba [(TOP,2)] afa (L9 k0.b.U k0.b.U.length (by omega)) rfl rfl rfl rfl ⟨sX aj,trivial⟩ ⟨d9 aj,trivial⟩ ⟨trivial,trivial⟩ rfl rfl rfl rfl rfl rfl) rfl rfl (OpG.mk _ _ _ 9 (ba [(TOP,3)] afa (L9 k0.b.N k0.b.v (by omega)) rfl rfl rfl rfl ⟨sX aj,trivial⟩ ⟨d9 aj,trivial⟩ ⟨trivial,trivial⟩ rfl rfl rfl rfl rfl rfl) rfl rfl ?_);refine⟨by kernel_rfl,RegG.via (fun _ h=>dt [4,5,6,7,8] 1 0 0 [vI k0.b.n,.tree 1 ((srtU k0.b.U).map iA),.tree 1 ((srtU k0.b.N).map iA),.sl 4 k0.b.A.length 0 k0.b.A.length,.sl 5 k0.b.I.length 0 k0.b.I.length,.sl 6 k0.b.T.length 0 k0.b.T.length,.sl 7 k0.b.S.length 0 k0.b.S.length,.sl 8 k0.b.D.length 0 k0.b.D.length] [vI k0.b.n,.tree 1 ((srtU k0.b.U).map iA),.tree 1 ((srtU k0.b.N).map iA),.tree 4 (k0.b.A.map axA),.tree 3 (k0.b.I.map cnA),.tree 4 (k0.b.T.map teA),.tree 2 (k0.b.S.map paA),.tree 2 (k0.b.D.map paA)] rfl rfl (.keep (.keep (.keep (.fz (FzP.rows de (by simp) rfl) (.fz (FzP.rows cm (by simp) rfl) (.fz (FzP.rows cx (by simp) rfl) (.fz (FzP.rows bg (by simp) rfl) (.fz (FzP.rows bg (by simp) rfl) (.same _))))))))) rfl h) ?_⟩;refine bh (rtK rfl ant rfl ⟨[],FzP.pure rfl⟩ ?_);have hb:=h0;rw[h9,List.take_length]at hb;exact⟨k0.b,rfl,hb⟩
theorem ag6(h:FmK l r):FmK l (mc l r):=by
 induction h with
 |mk x hk hl ha h ih=>
  rw[ou]
  by_cases h2:x.c_=2
  ·rw[a0d h2]
   split
   ·refine .mk (cnF _) ?_ (a0h _) (fun e=>?_) (fun _ r hr=>by simp[cnF]at hr)
    ·show(if(x.e_.c_==1)=true then(0:Int)else 1)=0\/(if(x.e_.c_==1)=true then(0:Int)else 1)=1\/(if(x.e_.c_==1)=true then(0:Int)else 1)=2
     split<;>simp
    ·exfalso
     have e:(if(x.e_.c_==1)=true then(0:Int)else 1)=2:=e
     split at e<;>omega
   ·exact .mk x hk hl ha h
  ·rw[a0c h2]
   exact .mk ⟨x.c_,zAt,x.b_.map (mc l)⟩ hk (by simpa using hl) (fun e=>absurd e h2) fun _ r hr=>by
    obtain⟨q,hq,rfl⟩:=a0v.1 hr;exact ih h2 q hq
theorem Rp{α:Type}{f g:α->Nat}:∀{l:List α},(∀a∈l,f a<=g a)->(l.map f).sum<=(l.map g).sum
 |[],_=>a0j _
 |a::l,h=>by have h1:=h a (by simp);have h2:=Rp (l:=l) fun b hb=>h b (List.mem_cons_of_mem _ hb);simp only[a0t,List.sum_cons];omega
theorem au5(w:GAt->Nat)(b:Bool):wgR w (fmA (cnF b))=0:=by rw[uw];have:¬(cnF b).c_=2:=(by unfold cnF;show¬(if b=true then(0:Int)else 1)=2;split<;>decide);rw[a0c this];rfl
def acn(w:GAt->Nat)(l:List PVar)(hr:IsFm r):wgR w (mc l r)<=wgR w r:=
 IsFm.ind (M:=fun r=>wgR w (mc l r)<=wgR w r) (fun x hx ih=>by rw[ou];by_cases h2:x.c_=2;rw[a0d h2];split;rw[au5];exact a0h _;exact a0j _;rw[a0c h2,uw,uw,a0c h2,a0c h2];show((x.b_.map (mc l)).map (wgR w)).sum<=_;rw[List.map_map];exact Rp ih) hr
inductive ClsR(l:List PVar)(n:Int):List (List GLit)->List PCl->Prop
 |nil:ClsR l n [] []
 |snoc (X:List (List GLit)) (C:List PCl) (xs:List GLit) (b:KBl) (h:ClsR l n X C) (hb:BldR l (b00 n) xs b):ClsR l n (X++[xs]) (C++[mh b])
def ars(hk:k<X.length)(h:ClsR l n (X.take k) C)(hb:BldR l (b00 n) X[k] b):ClsR l n (X.take (k+1)) (C++[mh b]):=by rw[a0g hk];exact .snoc _ _ _ _ h hb
theorem aj7(h:ClsR l n X C):C.length=X.length:=by
 induction h with
 |nil=>rfl
 |snoc X C xs b h hb ih=>rw[az8,az8,ih];rfl
theorem Bv(h:ClsR l n X C):(∀c∈C,∃xs∈X,∃b,c=mh b/\BldR l (b00 n) xs b)/\(∀xs∈X,∃b,mh b∈C/\BldR l (b00 n) xs b):=by
 induction h with
 |nil=>exact⟨by simp,by simp⟩
 |snoc X C xs b h hb ih=>
  constructor
  ·intro c hc
   rcases a0a.1 hc with hc|hc
   ·obtain⟨y,hy,b',h1,h2⟩:=ih.1 c hc;exact⟨y,by simp[hy],b',h1,h2⟩
   ·exact⟨xs,by simp,b,az9.1 hc,hb⟩
  ·intro y hy
   rcases a0a.1 hy with hy|hy
   ·obtain⟨b',h1,h2⟩:=ih.2 y hy;exact⟨b',by simp[h1],h2⟩
   ·rw[az9.1 hy];exact⟨b,by simp,hb⟩
structure FmOk(l:List PVar)(r:List AV):Prop where
 fit:IsFm r
 k:FmK l r
 w:wgR w1 r<=100000
 x:∀c∈exR (mc l r),∀x∈c,LitOk l x
theorem FmOk.len(h:FmOk l r):∀c∈exR (mc l r),c.length<=100000:=fun c hc=>by have:=Vf w1 _ (sf l h.fit) c hc;rw[al6]at this;exact a0m this (a0m (acn w1 l h.fit) h.w)
def Ec:RowF clA 7:=⟨fun _=>rfl,fun _=>rfl,fun _ _=>rfl,fun _ _=>rfl,fun _ _=>rfl,fun _=>rfl⟩
def ayt:(prog.info? 128).map (·.bytes)=some 168:=by kernel_rfl
def avw:am prog 128=some 7:=by kernel_rfl
def auz:bv prog 128=some (.agg #[.slice none 0 0,.slice none 0 0,.slice none 0 0,.slice none 0 0,.slice none 0 0,.slice none 0 0,.slice none 0 0]):=by kernel_rfl
def Px(f:GFm)(hf:FitFm f)(vs:List PVar)(h5:bn vs (fun y=>True))(h1:FmOk vs (fmA f))(hv1:vs.length<=1000):PRet prog 137 [.agg (fmA f),.tree 5 (vs.map vA)] (fun q=>∃(C:List PCl) (e:Int),q=.tup [.tree 7 (C.map clA),vI e]/\((lq vs (fmA f)>256/\e=3/\C=[])\/(lq vs (fmA f)<=256/\e=0/\ClsR vs ((vs.length:Nat):Int) (exR (mc vs (fmA f))) C))):=by obtain⟨g,h2,hg⟩:=(sf vs h1.fit).open_;have h6:FmK vs (fmA g):=h2▸ag6 h1.k;have h7:wgR w1 (fmA g)<=100000:=h2▸a0m (acn w1 vs h1.fit) h1.w;have h8:∀c∈exR (fmA g),∀x∈c,LitOk vs x:=h2▸h1.x;have h9:∀c∈exR (fmA g),c.length<=100000:=h2▸h1.len;have hct:i9 (fmA g)=lq vs (fmA f):=h2▸V9 vs h1.k;refine ovT [] [] func137 rfl rfl (ArgG.mk ((show PRet prog 188 [.agg (fmA f),.tree 5 (vs.map vA)] (fun q=>q=.agg (fmA g))by have h:=Oo vs h5 _ h1.fit h1.k;rwa [h2]at h)) rfl ?_);rintro _ rfl;refine ArgG.mk (Np (fmA g) (B9 hg)) rfl ?_;rintro _ rfl;apply cD<;>intro hq14;exact⟨.inr rfl,_,d8 rfl (af6.tmp ⟨[],FzP.nil (n:=7)⟩) (af6.tmp ⟨[],FzP.pure rfl⟩),⟨[],3,rfl,.inl ⟨by omega,rfl,rfl⟩⟩⟩;have hxl:=Bl (fmA g) (B9 hg) (by omega);refine ArgG.mk (aax vs (fmA g) (B9 hg) h6 (by omega) h7) rfl ?_;rintro _ rfl;refine LenG.of (LpG.via (fun _ h=>bu 6 7 rfl 2 rfl h) ?_);refine LpG.on (fun k0:KL PCl=>(⟨fL [(1,.tree 5 (vs.map vA)),(6,.sl 1 k0.L.length 0 k0.L.length),(16,.tree 1 (((exR (fmA g))).map (fun l=>[.tree 10 (l.map lyA)]))),(17,vI ((((exR (fmA g))).length:Nat):Int)),(18,vI k0.k)],hLz [(1,⟨k0.L.length,rF clA k0.L,7,Nat.beq k0.L.length 0⟩)],2⟩:St)) (fun k0=>((exR (fmA g)).length-k0.k)) (fun k0=>(k0.k<=(exR (fmA g)).length/\(ClsR vs ((vs.length:Nat):Int) ((exR (fmA g)).take k0.k) k0.L/\k0.L.length=k0.k))) (⟨0,[]⟩:KL PCl) (cnS (by rfl) (hpS (aa Ec _ _) (by rfl) trivial)) ⟨a0h _,⟨.nil,rfl⟩⟩ ?_;rintro k0 h4;obtain⟨hle_k0,h0⟩:=h4;apply cL<;>intro h3;refine IdxG.of ‹_› (LenG.of ?_);refine ArgG.mk (abj vs ((vs.length:Nat):Int) rfl (by omega) (exR (fmA g))[k0.k] (h8 _ (az4 _)) (h9 _ (az4 _))) rfl ?_;rintro _ ⟨b3,rfl,ha⟩;refine OpG.mk _ _ _ 3 (ae Ec (a:=(mh b3)) underlying79 avw auz ayt rfl rfl rfl (ap rfl rfl rfl rfl) rfl (by omega) (by omega) (by unfold TV;omega)) rfl rfl ⟨by omega,⟨(⟨k0.k+1,k0.L++[(mh b3)]⟩:KL PCl),(by show(exR (fmA g)).length-(k0.k+1)<(exR (fmA g)).length-k0.k;omega),(cO (.cons rfl rfl (.cons (by(rw[az8];rfl)) rfl (.cons rfl rfl (.cons rfl rfl (.cons rfl rfl .nil))))) (.cons (by(rw[az8];rfl)) rfl (aa Ec _ _) .nil)),?_⟩⟩;exact⟨‹_›,⟨ars h3 h0.1 ha,by show(_++[_]).length=_;rw[az8,h0.2];rfl⟩⟩;refine⟨.inr rfl,_,d8 rfl (af6.tmp ⟨[1],FzP.rows Ec (az9.2 rfl) rfl⟩) (af6.tmp ⟨[],FzP.pure rfl⟩),?_⟩;have hc:=h0.1;rw[a0x (by omega)]at hc;exact⟨k0.L,0,rfl,.inr ⟨by omega,rfl,h2▸hc⟩⟩
def ah7(tb:Int)(nc:Int)(vs:List PVar)(h4:bn vs (fun y=>True))(f:GFm)(hf:FitFm f)(h5:FmOk vs (fmA f))(h6:vs.length<=1000):PRet prog 80 [vI tb,vI nc,.tree 5 (vs.map vA),.agg (fmA f)] (fun q=>∃(p:PPred) (e:Int),q=.tup [.agg (prA p),vI e]/\((lq vs (fmA f)>256/\e=3)\/(lq vs (fmA f)<=256/\e=0/\p.tab=tb/\p.cols=nc/\p.vars=vs/\ClsR vs ((vs.length:Nat):Int) (exR (mc vs (fmA f))) p.cls))):=by refine ovT [] [] func80 rfl rfl (ArgG.mk (Px f hf vs h4 h5 h6) rfl ?_);rintro _ ⟨C,e,rfl,hC⟩;apply cN<;>intro h0;refine rtC rfl Gs rfl ⟨[],FzP.aggL (.cons (.pure rfl) (.cons (.pure rfl) (.cons (FzP.nil (n:=5)) (.cons (FzP.nil (n:=7)) .nil))))⟩ ?_;rcases hC with⟨h1,h2,_⟩|⟨_,h2,_⟩;exact⟨⟨0,0,[],[]⟩,e,rfl,.inl ⟨h1,h2⟩⟩;exact absurd h2 h0;refine ArgG.mk (PRet.of_call (CloneL.tree cl_V (fun _=>rfl) vs (by omega))) rfl ?_;rintro _ rfl;refine rtP rfl Gs rfl ?_;rcases hC with⟨_,h2,_⟩|⟨h1,h2,h3⟩;omega;exact⟨⟨tb,nc,vs,C⟩,0,rfl,.inr ⟨h1,rfl,rfl,rfl,rfl,h3⟩⟩
def isI(x:GLit):Prop:=x.e_.c_=2\/x.e_.c_=3\/x.e_.c_=4
def als(x:GLit):PTest:=⟨x.e_.o_,x.e_.w_.kd,x.e_.w_.ng,x.e_.w_.s⟩
def nnP(x:GLit)(v:Int):Prop:=(isI x/\v∈ek (tmA x.e_.q_))\/((x.e_.c_=1\/x.e_.c_=5\/x.e_.c_=6\/x.e_.c_=7)/\v=x.e_.o_)\/((x.e_.c_=6\/x.e_.c_=7)/\v=x.e_.v_)
theorem Bk{xs:List α}{y:α}{P:α->Prop}:(∃x∈xs++[y],P x)↔(∃x∈xs,P x)\/P y:=by simp
section
variable{l:List PVar}{x:GLit}{b b':KBl}
theorem azt(h:AddR l x b b')(v:Int):v∈b'.U↔v∈b.U\/(x.e_.c_=0/\x.e_.o_=v):=by
 cases h with
 |nul h=>simp[h,eq_comm]
 |nnl h=>simp[h]
 |tes h=>simp[h]
 |sam h=>simp[h]
 |dif h=>simp[h]
 |int A1 f1 h hp hw hr hz=>have h0:¬x.e_.c_=0:=(by omega);simp[h0]
theorem at9(h:AddR l x b b')(v:Int):v∈b'.N↔v∈b.N\/nnP x v:=by
 unfold nnP isI
 cases h with
 |nul h=>simp[h]
 |nnl h=>simp[h]
 |tes h=>simp[h]
 |sam h=>simp[h,or_assoc]
 |dif h=>simp[h,or_assoc]
 |int A1 f1 h hp hw hr hz=>
  rw[a0a,lh]
  constructor
  ·rintro(h1|h1)
   ·exact .inl h1
   ·exact .inr (.inl ⟨h,h1⟩)
  ·rintro(h1|⟨_,h1⟩|⟨h1,_⟩|⟨h1,_⟩)
   ·exact .inl h1
   ·exact .inr h1
   ·omega
   ·omega
theorem azu(h:AddR l x b b')(t:PTest):t∈b'.T↔t∈b.T\/(x.e_.c_=5/\t=als x):=by
 unfold als
 cases h with
 |nul h=>simp[h]
 |nnl h=>simp[h]
 |tes h=>simp[h]
 |sam h=>simp[h]
 |dif h=>simp[h]
 |int A1 f1 h hp hw hr hz=>have h0:¬x.e_.c_=5:=(by omega);simp[h0]
theorem azv(h:AddR l x b b')(t:Int×Int):t∈b'.S↔t∈b.S\/(x.e_.c_=6/\t=(x.e_.o_,x.e_.v_)):=by
 cases h with
 |nul h=>simp[h]
 |nnl h=>simp[h]
 |tes h=>simp[h]
 |sam h=>simp[h]
 |dif h=>simp[h]
 |int A1 f1 h hp hw hr hz=>have h0:¬x.e_.c_=6:=(by omega);simp[h0]
theorem azy(h:AddR l x b b')(t:Int×Int):t∈b'.D↔t∈b.D\/(x.e_.c_=7/\t=(x.e_.o_,x.e_.v_)):=by
 cases h with
 |nul h=>simp[h]
 |nnl h=>simp[h]
 |tes h=>simp[h]
 |sam h=>simp[h]
 |dif h=>simp[h]
 |int A1 f1 h hp hw hr hz=>have h0:¬x.e_.c_=7:=(by omega);simp[h0]
theorem ak7(h:AddR l x b b'):b.A<+:b'.A:=by
 cases h with
 |int A1 f1 h hp hw hr hz=>exact hp
 |_=>exact List.prefix_rfl
theorem azx(h:AddR l x b b'):(∀c∈b'.I,c∈b.I\/(isI x/\∃f,c=lb x f/\RepT b'.n b'.A (tmA x.e_.q_) f))/\(∀c∈b.I,c∈b'.I)/\(isI x->∃f,lb x f∈b'.I/\RepT b'.n b'.A (tmA x.e_.q_) f):=by
 unfold isI;cases h with
 |int A1 f1 h hp hw hr hz=>
  refine⟨fun c hc=>?_,fun c hc=>a0a.2 (.inl hc),fun _=>⟨f1,by simp,hr⟩⟩
  rcases a0a.1 hc with hc|hc
  ·exact .inl hc
  ·exact .inr ⟨h,f1,az9.1 hc,hr⟩
 |nul h=>exact⟨fun c hc=>.inl hc,fun c hc=>hc,fun e=>by omega⟩
 |nnl h=>exact⟨fun c hc=>.inl hc,fun c hc=>hc,fun e=>by omega⟩
 |tes h=>exact⟨fun c hc=>.inl hc,fun c hc=>hc,fun e=>by omega⟩
 |sam h=>exact⟨fun c hc=>.inl hc,fun c hc=>hc,fun e=>by omega⟩
 |dif h=>exact⟨fun c hc=>.inl hc,fun c hc=>hc,fun e=>by omega⟩
end
section
variable{l:List PVar}{n:Int}{xs:List GLit}{b:KBl}
theorem abo(h:BldR l (b00 n) xs b)(v:Int):v∈b.U↔∃x∈xs,x.e_.c_=0/\x.e_.o_=v:=by
 induction h with
 |nil=>simp[b00]
 |snoc xs x b b' h hx ih=>rw[azt hx,ih,Bk]
theorem W7(h:BldR l (b00 n) xs b)(v:Int):v∈b.N↔∃x∈xs,nnP x v:=by
 induction h with
 |nil=>simp[b00]
 |snoc xs x b b' h hx ih=>rw[at9 hx,ih,Bk]
theorem W6(h:BldR l (b00 n) xs b)(t:PTest):t∈b.T↔∃x∈xs,x.e_.c_=5/\t=als x:=by
 induction h with
 |nil=>simp[b00]
 |snoc xs x b b' h hx ih=>rw[azu hx,ih,Bk]
theorem abp(h:BldR l (b00 n) xs b)(t:Int×Int):t∈b.S↔∃x∈xs,x.e_.c_=6/\t=(x.e_.o_,x.e_.v_):=by
 induction h with
 |nil=>simp[b00]
 |snoc xs x b b' h hx ih=>rw[azv hx,ih,Bk]
theorem abq(h:BldR l (b00 n) xs b)(t:Int×Int):t∈b.D↔∃x∈xs,x.e_.c_=7/\t=(x.e_.o_,x.e_.v_):=by
 induction h with
 |nil=>simp[b00]
 |snoc xs x b b' h hx ih=>rw[azy hx,ih,Bk]
theorem W8(h:BldR l (b00 n) xs b):(∀c∈b.I,∃x∈xs,isI x/\∃f,c=lb x f/\RepT n b.A (tmA x.e_.q_) f)/\(∀x∈xs,isI x->∃f,lb x f∈b.I/\RepT n b.A (tmA x.e_.q_) f):=by
 induction h with
 |nil=>simp[b00]
 |snoc xs x b b' h hx ih=>
  obtain⟨h1,h2,h3⟩:=azx hx
  have hp:=ak7 hx
  have hn:b'.n=n:=by rw[ak8 hx];exact W5 h
  rw[hn]at h1 h3
  constructor
  ·intro c hc
   rcases h1 c hc with hc|⟨hi,f,h4,h5⟩
   ·obtain⟨y,hy,hi,f,h4,h5⟩:=ih.1 c hc
    exact⟨y,by simp[hy],hi,f,h4,h5.mono hp⟩
   ·exact⟨x,by simp,hi,f,h4,h5⟩
  ·intro y hy hi
   rcases a0a.1 hy with hy|hy
   ·obtain⟨f,h4,h5⟩:=ih.2 y hy hi
    exact⟨f,h2 _ h4,h5.mono hp⟩
   ·rw[az9.1 hy]at hi ⊢
    exact h3 hi
end
def pu(l:List PVar)(v:Int):Prop:=∃j,j<l.length/\v=((j:Nat):Int)
def TyV.inn{k:Int}(h:TyV l k v):pu l v:=by obtain⟨j,hj,e,_⟩:=h;exact⟨j,hj,e⟩
structure LitV(l:List PVar)(x:GLit):Prop where
 v0:x.e_.c_=0\/x.e_.c_=1->pu l x.e_.o_
 v5:x.e_.c_=5->TyV l 2 x.e_.o_/\yn (als x)=true
 v6:x.e_.c_=6\/x.e_.c_=7->TyV l 2 x.e_.o_/\TyV l 2 x.e_.v_/\x.e_.o_<x.e_.v_
def aoz(hr:IsTm r):TmV l r->∀v∈ek r,pu l v:=
 IsTm.ind (M:=fun r=>TmV l r->∀v∈ek r,pu l v) (fun x hx ih hv v hm=>by rw[dx,List.mem_flatMap]at hm;obtain⟨p,hp,hm⟩:=hm;have h1:=tmV.1 hv p hp;have hk:=(hx.a_.2 p hp).kd;unfold mo at hm;by_cases h2:p.c_=2;rw[a0d h2]at hm;obtain⟨o,ho⟩:=a01.1 (hk.2.1 h2).1;have h3:o∈p.of_:=(by rw[ho];simp);rw[ho]at hm;exact ih p hp o h3 (h1.2.2.1 h2 o h3) v (by simpa[vn]using hm);rw[a0c h2,az9]at hm;subst hm;have:=hk.1;by_cases h0:p.c_=0;exact(h1.1 h0).inn;exact(h1.2.1 (by omega)).inn) hr
section
variable{l:List PVar}{n:Int}{xs:List GLit}{b:KBl}
def apa(hx:∀x∈xs,LitOk l x)(hv:∀x∈xs,LitV l x)(h:BldR l (b00 n) xs b):∀v∈b.N,pu l v:=fun v hm=>by obtain⟨x,h0,hp⟩:=(W7 h v).1 hm;have hl:=hv x h0;rcases hp with⟨hi,ho⟩|⟨hk,rfl⟩|⟨hk,rfl⟩;have ht:=(hx x h0).tm hi;exact aoz (I0 ht.tm) ht.tv v ho;rcases hk with hk|hk|hk|hk;exact hl.v0 (.inr hk);exact(hl.v5 hk).1.inn;exact(hl.v6 (.inl hk)).1.inn;exact(hl.v6 (.inr hk)).1.inn;exact(hl.v6 hk).2.1.inn
def N4{L:List Int}(h:∀v∈L,pu l v):P2 (srtU L) ((l.length:Nat):Int)=true:=by unfold P2;rw[ii];intro j hj;have h5:=rc (l:=L);have e:(srtU L).getD j 0=(srtU L)[j]:=(by simp[hj]);obtain⟨i,hi,e2⟩:=h _ (lh.1 (az4 hj));unfold Qo;rw[e,e2];have h1:¬((i:Nat):Int)<0:=(by omega);have h2:¬((i:Nat):Int)≥((l.length:Nat):Int):=(by omega);by_cases h0:0<j;have e3:(srtU L).getD (j-1) 0=(srtU L)[j-1]'(by omega):=(by simp[show j-1<(srtU L).length by omega]);have h3:=List.pairwise_iff_getElem.1 h5 (j-1) j (by omega) hj (by omega);rw[e3];have h4:¬(srtU L)[j-1]'(by omega)≥((i:Nat):Int):=(by omega);simp[h1,h2,h4];simp[h1,h2,h0]
theorem Lp(h:TyV l 2 v)(hn:v∈nn):B7 v nn l=true:=by obtain⟨j,hj,e,ht⟩:=h;unfold B7;subst e;simp[hj,ht,Kb hn]
end
def bvN(n:Int)(bs:List Int)(v:Int):Int:=if v≥n then bs.getD (v-n).toNat 0 else 2147483648
def p6(n:Int)(bs:List Int):List PCoef->Int
 |[]=>0
 |c::cs=>ci c.n*bvN n bs c.v+p6 n bs cs
def bdF(n:Int)(bs:List Int)(f:PLin):Int:=ci f.k+p6 n bs f.cs
section
variable{n:Int}{bs:List Int}{l:List PVar}
theorem y4(a b:List PCoef):p6 n bs (a++b)=p6 n bs a+p6 n bs b:=by
 induction a with
 |nil=>simp[p6]
 |cons c a ih=>simp only[List.cons_append,p6,ih];omega
theorem Rs{a b:List PCoef}(h:a.Perm b):p6 n bs a=p6 n bs b:=by
 induction h with
 |nil=>rfl
 |cons x _ ih=>simp only[p6,ih]
 |swap x y l=>simp only[p6];omega
 |trans _ _ h1 h2=>rw[h1,h2]
def ayv(h:∀b∈bs,0<=b)(v:Int):0<=bvN n bs v:=by unfold bvN;split;by_cases hj:(v-n).toNat<bs.length;rw[List.getD_eq_getElem?_getD,az5 hj];exact h _ (az4 hj);rw[List.getD_eq_getElem?_getD,List.getElem?_eq_none (by omega)];exact Int.le_refl 0;decide
theorem D8(h:∀b∈bs,0<=b)(cs:List PCoef):0<=p6 n bs cs:=by
 induction cs with
 |nil=>exact Int.le_refl 0
 |cons c cs ih=>simp only[p6];have:=Int.mul_nonneg (kr c.n) (ayv (n:=n) h c.v);omega
def Xd(h:∀b∈bs,0<=b)(f:PLin):0<=bdF n bs f:=by have h1:=kr f.k;have h2:=D8 (n:=n) h f.cs;unfold bdF;omega
theorem Vb(f:PLin):∀k,k<=f.cs.length->fS f l bs k=ci f.k+p6 (((l.length:Nat):Int)) bs (f.cs.take k)
 |0,_=>by simp[fS,p6]
 |k+1,hk=>by have e:f.cs.getD k default=f.cs[k]:=(by simp[show k<f.cs.length by omega]);rw[a0g (by omega),y4,fS,Vb f k (by omega),e];simp only[p6,fB,e,bvN];omega
structure LinV(l:List PVar)(nn:List Int)(m:Nat)(f:PLin):Prop where
 asc:(f.cs.map (·.v)).Pairwise (· < ·)
 rng:∀c∈f.cs,0<=c.v/\c.v<((l.length:Nat):Int)+((m:Nat):Int)
 nz:∀c∈f.cs,c.n≠0/\-1048576<=c.n/\c.n<=1048576
 ty:∀c∈f.cs,c.v<((l.length:Nat):Int)->TyV l 1 c.v/\c.v∈nn
def aqp(hv:LinV l nn bs.length f)(hk:-1099511627777<=f.k/\f.k<=1099511627777)(hb:∀b∈bs,0<=b)(hm:bdF ((l.length:Nat):Int) bs f<=1152921504606846977):fV f nn l bs=bdF ((l.length:Nat):Int) bs f:=by
 unfold fV
 have h4:tf f.cs.length (fOk f nn l bs)=true:=by
  rw[ii];intro j hj;have e:f.cs.getD j default=f.cs[j]:=by simp[hj]
  have hc:f.cs[j]∈f.cs:=az4 hj;have h1:=hv.rng _ hc
  have h2:=hv.nz _ hc;have h3:=hv.ty _ hc
  have h9:=Vb (l:=l) (bs:=bs) f (j+1) (by omega);have hsp:p6 ((l.length:Nat):Int) bs f.cs=p6 ((l.length:Nat):Int) bs (f.cs.take (j+1))+p6 ((l.length:Nat):Int) bs (f.cs.drop (j+1)):=by rw[<-y4,List.take_append_drop]
  have hsd:=D8 (n:=((l.length:Nat):Int)) hb (f.cs.drop (j+1));have hst:=D8 (n:=((l.length:Nat):Int)) hb (f.cs.take j)
  have hka:=kr f.k;have hd:fS f l bs (j+1)<=1152921504606846977:=by unfold bdF at hm;omega
  have h5:ci f.cs[j].n*bvN ((l.length:Nat):Int) bs f.cs[j].v<=1152921504606846977:=by rw[a0g hj,y4]at h9;simp only[p6]at h9;omega
  have he:0<ci f.cs[j].n:=by unfold ci;split<;>omega
  have hf:fB f l bs j=bvN ((l.length:Nat):Int) bs f.cs[j].v:=by unfold fB bvN;rw[e]
  have h6:fB f l bs j<=1152921504606846977/ci (f.cs.getD j default).n:=by rw[e,hf,Int.le_ediv_iff_mul_le he,Int.mul_comm];exact h5
  have h7:H1 f l bs j=false:=by
   unfold H1;rw[e];have a1:decide (f.cs[j].v<0)=false:=by simp;omega
   have a2:decide (f.cs[j].v≥((l.length:Nat):Int)+bs.length)=false:=by simp;omega
   have a4:(f.cs[j].n==0)=false:=by simpa using h2.1
   have a5:wiB f.cs[j].n (-1048576) 1048576=true:=by unfold wiB;simp;omega
   have a3:(decide (0<j)&&decide ((f.cs.getD (j-1) default).v≥f.cs[j].v))=false:=by
    by_cases h0:0<j;have e2:f.cs.getD (j-1) default=f.cs[j-1]'(by omega):=by simp[show j-1<f.cs.length by omega]
    have:=List.pairwise_iff_getElem.1 hv.asc (j-1) j (by rw[a0b];omega) (by rw[a0b];omega) (by omega);simp only[List.getElem_map]at this;rw[e2];simp[h0];omega;simp[h0]
   rw[a1,a2,a3,a4,a5];rfl
  have hg:fTy f nn l j=false:=by
   unfold fTy;rw[e];by_cases ha:f.cs[j].v<((l.length:Nat):Int);obtain⟨⟨i,hi,e1,ht⟩,h8⟩:=h3 ha;have a1:(l.getD f.cs[j].v.toNat default).t==1:=by rw[e1];simp[hi,ht]
   rw[a1,Kb h8];simp;simp[ha]
  unfold fOk;rw[h7,hg];simp only[Bool.not_false,Bool.true_and,a05,a06];exact⟨h6,hd⟩
 have hw:wiB f.k (-1099511627777) 1099511627777=true:=by unfold wiB;simp;omega
 rw[hw,h4];simp only[Bool.and_self,if_true];rw[Vb f _ (a0j _),List.take_length];rfl
def auh(n:Int)(L:List PAux)(bs:List Int):Prop:=∀j x,L[j]? =some x->bs.getD j 0=(if x.by_=0 then 16 else bdF n bs x.of_/x.by_+1)
theorem L5:∀(ps:List GPart) (vs:List Int),vs.length=ps.length->(∀i (h:i<ps.length),bvN n bs (vs.getD i 0)=bdK ps[i])->p6 n bs ((wf vs ps).map fun p=>⟨p.1,p.2⟩)=bdS ps
 |[],[],_,_=>rfl
 |[],_::_,h,_=>by simp at h
 |_::_,[],h,_=>by simp at h
 |p::ps,v::vs,h,hb=>by have ih:=L5 ps vs (by simpa using h) (fun i hi=>by have:=hb (i+1) (by simp;omega);simpa using this);have h0:=hb 0 (by simp);simp only[wf,a0t,List.zip_cons_cons,p6,bdS]at ih ⊢;rw[ih];simp only[List.getD_cons_zero,List.getElem_cons_zero]at h0;rw[h0]
def Eg{x:GTm}(hn:n=((l.length:Nat):Int))(hx:FitTm x)(hv:TmV l (tmA x))(l1:vs.length=x.a_.length)(a1:∀i (h:i<x.a_.length),Qp n L x.a_[i] (vs.getD i 0) (gs.getD i wx))(a2:∀i (h:i<x.a_.length),x.a_[i].c_=2->∀r∈x.a_[i].of_,RepT n L r (gs.getD i wx)):
 vs.Nodup/\(Cj (wf vs x.a_)).Perm ((wf vs x.a_).map fun p=>⟨p.1,p.2⟩):=by
 have h0:vs.Nodup:=Sc hn hx hv (a0j _) l1 (fun i h _=>a1 i h) (fun i h _=>a2 i h) (aqi hn hx hv L)
 exact⟨h0,Bt (Di hx) (by rw[sn l1];exact h0)⟩
theorem anu(hn:n=((l.length:Nat):Int))(hb:auh n L bs)(hr:IsTm r):TmV l r->∀f,RepT n L r f->bdF n bs f=bdL r:=
 IsTm.ind (M:=fun r=>TmV l r->∀f,RepT n L r f->bdF n bs f=bdL r) (fun x hx ih hv f h=>by obtain⟨vs,gs,l1,l2,a1,a2,rfl⟩:=m8 h;obtain⟨_,hp⟩:=Eg hn hx hv l1 a1 a2;have h2:=tmV.1 hv;rw[pq];show ci x.g_+p6 n bs (Cj (wf vs x.a_))=_;rw[Rs hp,L5 x.a_ vs l1];intro i hi;have hr:=a1 i hi;have hf:=hx.a_.2 _ (az4 hi);have hk:=hf.kd;have hm:=h2 _ (az4 hi);have k3:x.a_[i].c_=0\/x.a_[i].c_=1\/x.a_[i].c_=2:=(by have:=hk.1;omega);unfold bdK;rcases k3 with k3|k3|k3;obtain⟨j,hj,e1,_⟩:=hm.1 k3;have e:=hr.1 k3;rw[a0c (by omega),a0c (by omega),e];unfold bvN;rw[a0c (by omega)];obtain⟨j,e1,e2⟩:=hr.2.1 k3;rw[a0c (by omega),a0d k3,e2];unfold bvN;rw[a0d (by omega),show(n+((j:Nat):Int)-n).toNat=j by omega,hb j _ e1];rfl;obtain⟨j,e1,e2⟩:=hr.2.2 k3;rw[a0d k3,e2];unfold bvN;rw[a0d (by omega),show(n+((j:Nat):Int)-n).toNat=j by omega,hb j _ e1];have hby:=(hk.2.1 k3).2;obtain⟨o,ho⟩:=a01.1 (hk.2.1 k3).1;have h1:o∈x.a_[i].of_:=(by rw[ho];simp);have e3:=ih _ (az4 hi) o h1 (hm.2.2.1 k3 o h1) _ (a2 i hi k3 o h1);show(if x.a_[i].by_=0 then(16:Int)else bdF n bs (gs.getD i wx)/x.a_[i].by_+1)=_;rw[a0c (by omega),e3,ho];have h0:=(Xb (hf.of_.2 o h1)).1;have e4:alx [o]=bdL o:=(by simp only[alx]);rw[e4,Int.tdiv_eq_ediv_of_nonneg h0]) hr
def Jo{x:GTm}(hn:n=((l.length:Nat):Int))(hx:FitTm x)(hv:TmV l (tmA x))(hs:smR (tmA x)=true)(ho:∀v∈ek (tmA x),v∈nn)(h:RepT n L (tmA x) f):LinV l nn L.length f:=by
 obtain⟨vs,gs,l1,l2,a1,a2,rfl⟩:=m8 h;obtain⟨h3,hp⟩:=Eg hn hx hv l1 a1 a2;have h1:=tmV.1 hv
 have h0:∀c∈Cj (wf vs x.a_),∃i,∃hi:i<x.a_.length,c.v=vs.getD i 0/\c.n=x.a_[i].k_:=fun c hc=>by obtain⟨p,h4,rfl⟩:=a0v.1 (hp.mem_iff.1 hc);obtain⟨i,hi,rfl⟩:=a0p h4;rw[oo l1]at hi;exact⟨i,hi,by rw[ul l1 hi];simp[show i<vs.length by omega],by rw[ul l1 hi]⟩
 have h2:∀{j:Nat} {y:PAux},L[j]? =some y->j<L.length:=fun e=>(a0z.1 e).1;refine⟨V8 (Di hx) (by rw[sn l1];exact h3),fun c hc=>?_,fun c hc=>?_,fun c hc h5=>?_⟩;obtain⟨i,hi,e,_⟩:=h0 c hc;have hr:=a1 i hi
 have hk:=(hx.a_.2 _ (az4 hi)).kd;have k3:x.a_[i].c_=0\/x.a_[i].c_=1\/x.a_[i].c_=2:=by have:=hk.1;omega
 rw[e];rcases k3 with k3|k3|k3;obtain⟨j,hj,e1,_⟩:=(h1 _ (az4 hi)).1 k3;rw[hr.1 k3];omega;obtain⟨j,e1,e2⟩:=hr.2.1 k3;have:=h2 e1
 omega;obtain⟨j,e1,e2⟩:=hr.2.2 k3;have:=h2 e1
 omega;obtain⟨i,hi,_,e⟩:=h0 c hc;rw[e];exact⟨hx.srt.2 _ (az4 hi),((ja x).1 hs).1.2 _ (az4 hi)⟩;obtain⟨i,hi,e,_⟩:=h0 c hc;have hr:=a1 i hi
 have hk:=(hx.a_.2 _ (az4 hi)).kd;have k3:x.a_[i].c_=0\/x.a_[i].c_=1\/x.a_[i].c_=2:=by have:=hk.1;omega
 have hc2:c.v<((l.length:Nat):Int):=h5;rcases k3 with k3|k3|k3;have e3:=hr.1 k3
 have:c.v=x.a_[i].o_:=by rw[e,e3]
 rw[this];exact⟨(h1 _ (az4 hi)).1 k3,ho _ (by rw[dx,List.mem_flatMap];exact⟨_,az4 hi,by unfold mo;rw[a0c (by omega)];simp⟩)⟩;obtain⟨j,e1,e2⟩:=hr.2.1 k3;omega;obtain⟨j,e1,e2⟩:=hr.2.2 k3;omega
end
section
variable{n:Int}{bs:List Int}{l:List PVar}
theorem asa(h:v<n+((bs.length:Nat):Int)):bvN n (bs++z) v=bvN n bs v:=by grind[bvN,List.getElem?_append_left]
theorem L4{z:List Int}:∀{cs:List PCoef},(∀c∈cs,c.v<n+((bs.length:Nat):Int))->p6 n (bs++z) cs=p6 n bs cs
 |[],_=>rfl
 |c::cs,h=>by simp only[p6];rw[asa (h c (by simp)),L4 fun d hd=>h d (List.mem_cons_of_mem _ hd)]
theorem akw(h:∀c∈f.cs,c.v<n+((bs.length:Nat):Int)):bdF n (bs++z) f=bdF n bs f:=by unfold bdF;rw[L4 h]
theorem ab7(a:Int):ci (-a)=ci a:=by unfold ci;split<;>split<;>omega
theorem Lz:∀cs:List PCoef,p6 n bs (cs.map fun c=>⟨c.v,-c.n⟩)=p6 n bs cs
 |[]=>rfl
 |c::cs=>by simp only[a0t,p6,ab7,Lz cs]
def LinV.neg{k:Int}(h:LinV l nn m f):LinV l nn m ⟨k,(O7 f).cs⟩:=by
 have hm:∀c∈(O7 f).cs,∃d∈f.cs,c.v=d.v/\c.n=-d.n:=fun c hc=>by obtain⟨d,hd,rfl⟩:=a0v.1 hc;exact⟨d,hd,rfl,rfl⟩
 exact⟨by have e:((O7 f).cs.map (·.v))=f.cs.map (·.v):=(by unfold O7;rw[List.map_map];rfl);show((O7 f).cs.map (·.v)).Pairwise _;rw[e];exact h.asc,fun c hc=>by obtain⟨d,hd,e,_⟩:=hm c hc;rw[e];exact h.rng d hd,fun c hc=>by obtain⟨d,hd,_,e⟩:=hm c hc;have:=h.nz d hd;rw[e];omega,fun c hc=>by obtain⟨d,hd,e,_⟩:=hm c hc;rw[e];exact h.ty d hd⟩
def LinV.con{k:Int}(h:LinV l nn m f):LinV l nn m ⟨k,f.cs⟩:=⟨h.asc,h.rng,h.nz,h.ty⟩
def E1{x:GTm}(hn:n=((l.length:Nat):Int))(hx:FitTm x)(hv:TmV l (tmA x))(hs:smR (tmA x)=true)(ho:∀v∈ek (tmA x),v∈nn)(h:RepT n L (tmA x) f)(hb:auh n L bs):LinV l nn L.length f/\bdF n bs f<=1152921504606846976/\(-1099511627776<=f.k/\f.k<=1099511627776):=⟨Jo hn hx hv hs ho h,by rw[anu hn hb (I0 hx) hv f h];exact((ja x).1 hs).2,by rw[ada h];exact((ja x).1 hs).1.1⟩
end
section
variable{l:List PVar}{c:PCl}{N:List Int}{n:Int}
structure BsI(l:List PVar)(c:PCl)(n:Int)(j:Nat):Prop where
 ok:auh n (c.aux.take j) (lr c l j)
 nn:∀b∈lr c l j,0<=b
def afv(hn:n=((l.length:Nat):Int))(hN:c.nn=srtU N){g:PLin}(ho:TmG l N o)(hr:RepT n L o g):LinV l c.nn L.length g:=by obtain⟨y,rfl,hy⟩:=ho.tm.open_;exact Jo hn hy ho.tv ho.sm (fun v hv=>by rw[hN];exact lh.2 (ho.oc v hv)) hr
theorem akx(hn:n=((l.length:Nat):Int))(hN:c.nn=srtU N)(hi:BsI l c n j){g:PLin}(hj:j<=c.aux.length)(ho:TmG l N o)(hr:RepT n (c.aux.take j) o g):fV g c.nn l (lr c l j)=bdF n (lr c l j) g:=by obtain⟨y,rfl,hy⟩:=ho.tm.open_;obtain⟨h1,h2,h3⟩:=E1 hn hy ho.tv ho.sm (nn:=c.nn) (fun v hv=>by rw[hN];exact lh.2 (ho.oc v hv)) hr hi.ok;rw[List.length_take,Nat.min_eq_left hj]at h1;subst hn;exact aqp (by rw[kp];exact h1) (by omega) hi.nn (by omega)
def aki(hn:n=((l.length:Nat):Int))(hN:c.nn=srtU N)(ha:AxW l n N c.aux)(hj:j<c.aux.length)(hi:BsI l c n j):BsI l c n (j+1):=by
 have h2:=kp c l j
 have h3:∀i (h:i<c.aux.length),i<=j->∀d∈c.aux[i].of_.cs,d.v<n+(((lr c l j).length:Nat):Int):=fun i h h5 d hd=>by
  rcases ha i h with⟨v,h1,_⟩|⟨o,g,b,h1,_,ho,hr⟩;rw[h1]at hd;simp[yx]at hd;rw[h1]at hd;have:=(afv hn hN ho hr).rng d hd
  rw[List.length_take,Nat.min_eq_left (by omega)]at this;rw[h2,hn];omega
 have eD:c.aux.getD j default=c.aux[j]:=by simp[hj]
 have h6:bV c l (lr c l j) j=(if c.aux[j].by_=0 then 16 else bdF n (lr c l j) c.aux[j].of_/c.aux[j].by_+1):=by
  unfold bV;rw[eD];rcases ha j hj with⟨v,h1,_⟩|⟨o,g,b,h1,hb,ho,hr⟩;rw[h1];rfl;rw[h1];show(if b=0 then(16:Int)else fV g c.nn l (lr c l j)/b+1)=_
  rw[akx hn hN hi (by omega) ho hr]
 refine⟨fun i x hx=>?_,fun b hb=>?_⟩;have h7:i<(c.aux.take (j+1)).length:=(a0z.1 hx).1
 rw[List.length_take]at h7;have h4:c.aux[i]'(by omega)=x:=by have:=(a0z.1 hx).2;rwa [List.getElem_take]at this
 show(lr c l j++[bV c l (lr c l j) j]).getD i 0=if x.by_=0 then 16 else bdF n (lr c l j++[bV c l (lr c l j) j]) x.of_/x.by_+1
 rw[akw (by rw[<-h4];exact h3 i (by omega) (by omega))];by_cases h5:i<j;have h1:=hi.ok i x (by rw[List.getElem?_take_of_lt h5,az5 (by omega),h4])
 rw[<-h1,List.getD_eq_getElem?_getD,List.getD_eq_getElem?_getD,List.getElem?_append_left (by omega)];obtain rfl:i=j:=by omega
 rw[List.getD_eq_getElem?_getD,List.getElem?_append_right (by omega),h2,h6,<-h4];simp;rcases a0a.1 hb with hb|hb;exact hi.nn b hb;rw[az9.1 hb,h6];by_cases h0:c.aux[j].by_=0;rw[a0d h0];decide;rw[a0c h0];rcases ha j hj with⟨v,h1,_⟩|⟨o,g,d,h1,hd,ho,hr⟩;exact absurd (by rw[h1];rfl) h0;have e:c.aux[j].by_=d:=by rw[h1]
 have:=Int.ediv_nonneg (Xd (n:=n) hi.nn c.aux[j].of_) (show 0<=c.aux[j].by_ by omega);omega
theorem Dp(hn:n=((l.length:Nat):Int))(hN:c.nn=srtU N)(ha:AxW l n N c.aux):∀j,j<=c.aux.length->BsI l c n j
 |0,_=>⟨fun i x hx=>by simp at hx,fun b hb=>by simp[lr]at hb⟩
 |j+1,hj=>aki hn hN ha hj (Dp hn hN ha j (by omega))
end
section
variable{l:List PVar}{n:Int}{xs:List GLit}{b:KBl}
def arh{bs:List Int}{x:GLit}(h:LinV l nn m f)(hm:bdF n bs f<=1152921504606846976)(hk:-1099511627776<=f.k/\f.k<=1099511627776):LinV l nn m (lb x f).l/\bdF n bs (lb x f).l<=1152921504606846977/\(-1099511627777<=(lb x f).l.k/\(lb x f).l.k<=1099511627777):=by unfold bdF at hm ⊢;unfold lb;split;exact⟨h,show ci f.k+p6 n bs f.cs<=_ by omega,show -1099511627777<=f.k/\f.k<=1099511627777 by omega⟩;split;split;exact⟨h.neg,by show ci (-f.k+1)+p6 n bs (f.cs.map fun c=>⟨c.v,-c.n⟩)<=_;rw[Lz];have h1:=aq f.k;have h2:=aq (-f.k+1);omega,by show -1099511627777<=-f.k+1/\-f.k+1<=1099511627777;omega⟩;exact⟨h.con,by show ci (f.k+1)+p6 n bs f.cs<=_;have h1:=aq f.k;have h2:=aq (f.k+1);omega,by show -1099511627777<=f.k+1/\f.k+1<=1099511627777;omega⟩;exact⟨h,show ci f.k+p6 n bs f.cs<=_ by omega,show -1099511627777<=f.k/\f.k<=1099511627777 by omega⟩
def ast(hn:n=((l.length:Nat):Int))(hx:∀x∈xs,LitOk l x)(hv:∀x∈xs,LitV l x)(h:BldR l (b00 n) xs b):clB (mh b) l=true:=by
 have hh:=W5 h;have hb:=Ie h
 rw[hh]at hb;have hN:(mh b).nn=srtU b.N:=rfl
 have he:=Dp (c:=mh b) hn hN hb;have hl:=apa hx hv h
 have inN:∀{v:Int},(∃x∈xs,nnP x v)->v∈(mh b).nn:=fun e=>lh.2 ((W7 h _).2 e);have h1:P2 (mh b).nul l.length=true:=N4 fun v hm=>by obtain⟨x,h8,hk,rfl⟩:=(abo h v).1 hm;exact(hv x h8).v0 (.inl hk)
 have h2:P2 (mh b).nn l.length=true:=N4 hl
 have h3:tf (mh b).aux.length (Ck (mh b) l)=true:=by
  rw[ii];intro j hj;have hj:j<b.A.length:=hj
  have eD:(mh b).aux.getD j default=b.A[j]:=by show b.A.getD j default=_;simp[hj]
  unfold Ck;rw[eD];rcases hb j hj with⟨v,e,ht,hq⟩|⟨o,g,d,e,hd,ho,hr⟩;rw[e];have:=Lp (nn:=(mh b).nn) ht (lh.2 hq)
  show(if(0:Int)=0 then !(decide (0<((([]:List PCoef).length:Nat):Int))||!((0:Int)==0))&&B7 v (mh b).nn l else _)=true;rw[a0d rfl,this];rfl;have hi:=he j (by show j<=b.A.length;omega)
  have hf:=akx (c:=mh b) hn hN hi (by show j<=b.A.length;omega) ho hr;have h0:=Xd (n:=n) hi.nn g
  rw[e];show(if d=0 then _ else wiB d 1 1000&&(0:Int)==0&&!decide (fV g (mh b).nn l (lr (mh b) l j)<0))=true
  rw[a0c (by omega),hf];have a1:wiB d 1 1000=true:=by unfold wiB;simp;omega
  rw[a1];simp;omega
 have h9:=he b.A.length (a0j _);have hA:auh n b.A (lr (mh b) l b.A.length):=by have:=h9.ok;have e:(mh b).aux.take b.A.length=b.A:=List.take_length;rwa [e]at this
 have h4:tf (mh b).ints.length (Yi (mh b) l)=true:=by rw[ii];intro j hj;have hj:j<b.I.length:=hj;have eD:(mh b).ints.getD j default=b.I[j]:=(by show b.I.getD j default=_;simp[hj]);unfold Yi;rw[eD];obtain⟨x,h8,hi,f,e,hr⟩:=(W8 h).1 _ (az4 hj);have ht:=(hx x h8).tm hi;obtain⟨g1,g2,g3⟩:=E1 hn ht.tm ht.tv ht.sm (nn:=(mh b).nn) (fun v hv=>inN ⟨x,h8,.inl ⟨hi,hv⟩⟩) hr hA;obtain⟨k1,k2,k3⟩:=arh (x:=x) g1 g2 g3;rw[e];have hc:(lr (mh b) l b.A.length).length=b.A.length:=kp _ _ _;have hf:=aqp (l:=l) (bs:=lr (mh b) l b.A.length) (nn:=(mh b).nn) (f:=(lb x f).l) (by rw[hc];exact k1) k3 h9.nn (by rw[<-hn];exact k2);have h0:=Xd (n:=((l.length:Nat):Int)) h9.nn (lb x f).l;show(!decide (fV (lb x f).l (mh b).nn l (lr (mh b) l b.A.length)<0))=true;rw[hf];simp;omega
 have h5:tf (mh b).tests.length (Yf (mh b) l)=true:=by rw[ii];intro j hj;have hj:j<b.T.length:=hj;have eD:(mh b).tests.getD j default=b.T[j]:=(by show b.T.getD j default=_;simp[hj]);unfold Yf;rw[eD];obtain⟨x,h8,hk,e⟩:=(W6 h _).1 (az4 hj);obtain⟨t1,t2⟩:=(hv x h8).v5 hk;rw[e,t2];have:=Lp t1 (inN ⟨x,h8,.inr (.inl ⟨.inr (.inl hk),rfl⟩)⟩);exact this
 have ha:∀(P:List (Int×Int)) (k:Int),(k=6\/k=7)->(∀p∈P,∃x∈xs,x.e_.c_=k/\p=(x.e_.o_,x.e_.v_))->Jt P (mh b).nn l=true:=fun P k hk hP=>by unfold Jt;rw[ii];intro j hj;have eD:P.getD j default=P[j]:=(by simp[hj]);unfold adj;rw[eD];obtain⟨x,h8,hk2,e⟩:=hP _ (az4 hj);have hg:x.e_.c_=6\/x.e_.c_=7:=(by omega);obtain⟨t1,t2,t3⟩:=(hv x h8).v6 hg;rw[e,Lp t1 (inN ⟨x,h8,.inr (.inl ⟨by omega,rfl⟩)⟩),Lp t2 (inN ⟨x,h8,.inr (.inr ⟨hg,rfl⟩)⟩)];simpa using t3
 have h6:=ha b.S 6 (.inl rfl) fun p hp=>(abp h p).1 hp;have h7:=ha b.D 7 (.inr rfl) fun p hp=>(abq h p).1 hp
 unfold clB;rw[h1,h2,h3,h4,h5];show(true&&true&&true&&true&&true&&(Jt b.S (mh b).nn l&&Jt b.D (mh b).nn l))=true
 rw[h6,h7];rfl
end
end Go.Proofs.YtfpfdfhlljjckaaGreatDoor
