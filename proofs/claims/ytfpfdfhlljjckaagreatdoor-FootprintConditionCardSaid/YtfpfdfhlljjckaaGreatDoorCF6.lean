/- Texts of the claim. -/
import Derived.Shelf.Spec.SlicesGrow
import Derived.Test.YtfpfdfhlljjckaaGreatDoorProg
import Derived.Test.YtfpfdfhlljjckaaGreatDoorCF5
import Derived.Test.YtfpfdfhlljjckaaGreatDoorCQ2
import Derived.Test.YtfpfdfhlljjckaaGreatDoorCQ1
set_option linter.all false
namespace Go.Proofs.YtfpfdfhlljjckaaGreatDoor
open Tryz
set_option maxRecDepth 1000000
set_option maxHeartbeats 0
set_option linter.unusedVariables false
set_option linter.unusedSimpArgs false
open Go.RowKit
variable{af:Array Edge}{x:GFm}{p q:GPart}{c e n s v:Int}{es:List (Int×Int)}{o r:List AV}{ps:List GPart}{N nn vs z:List Int}{S fp:List Nat}{A' L:List PAux}{C:List PCl}{gs:List PLin}{l:List PVar}{B i j k m t t':Nat}{τ:Nat->AV}{y:Operand}{d:Option Tmp}{f:PLin}{P:Program}{pos:String}{α:Type}{ty:TypeId}
def Zg(l:List PVar)(v:Int):Bool:=(l.getD v.toNat default).nl
mutual
def lf(l:List PVar):List AV->List AV
 | [.v (.int k0 kd),.v (.int k1 ak),.v (.int k2 av),c,d,e,f,g,h,i,.tree q es]=>
  if kd=2 then(if(ak=0\/ak=1)/\Zg l av=false then fmA (cnF (ak==1))else[.v (.int k0 kd),.v (.int k1 ak),.v (.int k2 av),c,d,e,f,g,h,i,.tree q es])
  else fmA ⟨kd,zAt,Rj l es⟩
 |r=>r
def Rj(l:List PVar):List (List AV)->List (List AV)
 | []=>[]
 |r :: rs=>lf l r :: Rj l rs
end
theorem F5(l:List PVar):∀es,Rj l es=es.map (lf l)
 |[]=>by rw[Rj];rfl
 |r::rs=>by rw[Rj,F5 l rs];rfl
theorem om(l:List PVar)(x:GFm):lf l (fmA x)=if x.c_=2 then(if(x.e_.c_=0\/x.e_.c_=1)/\Zg l x.e_.p_=false then fmA (cnF (x.e_.c_==1))else fmA x)else fmA ⟨x.c_,zAt,x.b_.map (lf l)⟩:=by simp only[fmA,lf,fk,F5]
def Bw(L:List Int):Int:=L.foldl (fun s n=>min (s+n) 257) 0
def w6(L:List Int):Int:=L.foldl (fun s n=>min (s*n) 257) 1
mutual
def iq:List AV->Int
 | [.v (.int _ kd),.v (.int _ ak),_,_,_,_,_,_,_,_,.tree _ es]=>if kd=2 then(if ak=4 then 2 else 1)else if kd=1 then Bw (Pc es)else w6 (Pc es)
 |_=>0
def Pc:List (List AV)->List Int
 | []=>[]
 |r :: rs=>iq r :: Pc rs
end
mutual
def kq(l:List PVar):List AV->Int
 | [.v (.int _ kd),.v (.int _ ak),.v (.int _ av),_,_,_,_,_,_,_,.tree _ es]=>if kd=2 then(if ak=0/\Zg l av=false then 0 else if ak=4 then 2 else 1)else if kd=0 then w6 (Pb l es)else Bw (Pb l es)
 |_=>0
def Pb(l:List PVar):List (List AV)->List Int
 | []=>[]
 |r :: rs=>kq l r :: Pb l rs
end
theorem Hs:∀es,Pc es=es.map iq
 |[]=>by rw[Pc];rfl
 |r::rs=>by rw[Pc,Hs rs];rfl
theorem Hr(l:List PVar):∀es,Pb l es=es.map (kq l)
 |[]=>by rw[Pb];rfl
 |r::rs=>by rw[Pb,Hr l rs];rfl
theorem ke(x:GFm):iq (fmA x)=if x.c_=2 then(if x.e_.c_=4 then 2 else 1)else if x.c_=1 then Bw (x.b_.map iq)else w6 (x.b_.map iq):=by simp only[fmA,iq,fk,Hs]
theorem oo(l:List PVar)(x:GFm):kq l (fmA x)=if x.c_=2 then(if x.e_.c_=0/\Zg l x.e_.p_=false then 0 else if x.e_.c_=4 then 2 else 1)else if x.c_=0 then w6 (x.b_.map (kq l))else Bw (x.b_.map (kq l)):=by simp only[fmA,kq,fk,Hr]
theorem F2(L:List Int)(n:Int):Bw (L++[n])=min (Bw L+n) 257:=by simp[Bw,List.foldl_append]
theorem Gh(L:List Int)(n:Int):w6 (L++[n])=min (w6 L*n) 257:=by simp[w6,List.foldl_append]
theorem vm{α β:Type}{P:β->Prop}{f:β->α->β}:∀(l:List α) (b:β),P b->(∀b a,a∈l->P b->P (f b a))->P (l.foldl f b)
 |[],b,h,_=>h
 |a::l,b,h,hf=>vm l (f b a) (hf b a (by simp) h) fun b a ha hb=>hf b a (List.mem_cons_of_mem _ ha) hb
def yy{L:List Int}(h:∀n∈L,0<=n):0<=Bw L/\Bw L<=257:=
 vm (P:=fun s=>0<=s/\s<=257) L 0 (by decide) fun b a ha hb=>by have:=h a ha;omega
def vd{L:List Int}(h:∀n∈L,0<=n):0<=w6 L/\w6 L<=257:=
 vm (P:=fun s=>0<=s/\s<=257) L 1 (by decide) fun b a ha hb=>by have:=Int.mul_nonneg hb.1 (h a ha);omega
def zi(hr:IsFm r):0<=iq r/\iq r<=257:=
 IsFm.ind (M:=fun r=>0<=iq r/\iq r<=257) (fun x hx ih=>by
  have hn:∀n∈x.b_.map iq,0<=n:=fun n h=>by obtain⟨r,hr,rfl⟩:=azy.1 h;exact(ih r hr).1
  rw[ke];split;split<;>decide;split;exact yy hn;exact vd hn) hr
def Et(l:List PVar)(hr:IsFm r):0<=kq l r/\kq l r<=257:=
 IsFm.ind (M:=fun r=>0<=kq l r/\kq l r<=257) (fun x hx ih=>by
  have hn:∀n∈x.b_.map (kq l),0<=n:=fun n h=>by obtain⟨r,hr,rfl⟩:=azy.1 h;exact(ih r hr).1
  rw[oo];split;split;decide;split<;>decide;split;exact vd hn;exact yy hn) hr
section
variable{es:List (List AV)}{k:Nat}{f:List AV->Int}
theorem acg(hk:k<es.length)(h:s=Bw ((es.take k).map f)):min (s+f es[k]) 257=Bw ((es.take (k+1)).map f):=by grind[azj,List.map_singleton,F2]
theorem ac0(hk:k<es.length)(h:s=w6 ((es.take k).map f)):min (s*f es[k]) 257=w6 ((es.take (k+1)).map f):=by grind[azj,List.map_singleton,Gh]
end
inductive FmK(l:List PVar):List AV->Prop
 |mk (x:GFm) (hk:x.c_=0\/x.c_=1\/x.c_=2) (hl:x.b_.length<=100000) (ha:x.c_=2->(x.e_.c_=0\/x.e_.c_=1)->∃j,j<l.length/\x.e_.p_=((j:Nat):Int)) (h:x.c_≠2->∀r∈x.b_,FmK l r):FmK l (fmA x)
theorem Ui(h:FmK l (fmA x)):x.b_.length<=100000:=by
 generalize e:fmA x=r at h
 cases h with
 |mk y hk hl ha h=>rw[xf e];exact hl
theorem zc(h:FmK l (fmA x)):(x.c_=0\/x.c_=1\/x.c_=2)/\(x.c_=2->(x.e_.c_=0\/x.e_.c_=1)->∃j,j<l.length/\x.e_.p_=((j:Nat):Int))/\(x.c_≠2->∀r∈x.b_,FmK l r):=by
 generalize e:fmA x=r at h
 cases h with
 |mk y hk hl ha h=>rw[xf e];exact⟨hk,ha,h⟩
theorem Gs(h:j<l.length)(hv:v=((j:Nat):Int)):Zg l v=l[j].nl:=by unfold Zg;subst hv;simp[h]
theorem Vq(l:List PVar)(h:FmK l r):iq (lf l r)=kq l r:=by
 induction h with
 |mk x hk hl ha h ih=>
  rw[om,oo]
  by_cases h2:x.c_=2
  ·rw[azg h2,azg h2]
   by_cases hn:(x.e_.c_=0\/x.e_.c_=1)/\Zg l x.e_.p_=false
   ·rw[azg hn]
    obtain⟨h0|h0,hn⟩:=hn
    ·rw[azg ⟨h0,hn⟩,h0];simp[ke,cnF,Bw]
    ·rw[azf (by omega),azf (by omega),h0];simp[ke,cnF,w6]
   ·have h3:¬(x.e_.c_=0/\Zg l x.e_.p_=false):=fun g=>hn ⟨.inl g.1,g.2⟩
    rw[azf hn,ke,azg h2,azf h3]
  ·rw[azf h2,azf h2,ke]
   have e:(x.b_.map (lf l)).map iq=x.b_.map (kq l):=by
    rw[List.map_map];exact List.map_congr_left fun r hr=>ih h2 r hr
   show(if x.c_=2 then _ else if x.c_=1 then Bw ((x.b_.map (lf l)).map iq)else w6 ((x.b_.map (lf l)).map iq))=_
   rw[azf h2,e]
   obtain h0|h0|h0:=hk
   ·rw[azf (by omega),azg h0]
   ·rw[azg h0,azf (by omega)]
   ·exact absurd h0 h2
theorem rz(l:List PVar)(hr:IsFm r):IsFm (lf l r):=
 IsFm.ind (M:=fun r=>IsFm (lf l r)) (fun x hx ih=>by rw[om];split;split;exact yk fe;exact yk hx;exact yk ⟨th,by simpa using hx.b_.1,fun r hr=>by obtain⟨q,hq,rfl⟩:=azy.1 hr;exact ih q hq⟩) hr
structure KSP where
 k:Nat
 s:Int
 p:Int
def cR_0(h:x.c_=2)(h0:x.e_.c_=0)(hj:j<l.length)(hv:x.e_.p_=((j:Nat):Int))(hn:l[j].nl=false):(0:Int)=kq l (fmA x):=by rw[oo,azg h,azg ⟨h0,by rw[Gs hj hv];exact hn⟩]
def cR_1(h:x.c_=2)(h0:x.e_.c_=0)(hj:j<l.length)(hv:x.e_.p_=((j:Nat):Int))(hn:l[j].nl=true):(1:Int)=kq l (fmA x):=by grind[oo,Gs]
def cR_2(h:x.c_=2)(h0:x.e_.c_=4):(2:Int)=kq l (fmA x):=by rw[oo,azg h,azf (fun g=>by omega),azg h0]
def cR_3(h:x.c_=2)(h0:¬x.e_.c_=0)(h1:¬x.e_.c_=4):(1:Int)=kq l (fmA x):=by rw[oo,azg h,azf (fun g=>h0 g.1),azf h1]
def stR(x:GFm)(l:List PVar)(k:Nat):Int:=if x.c_=0 then w6 ((x.b_.take k).map (kq l))else Bw ((x.b_.take k).map (kq l))
def Ra(h:¬x.c_=2)(hk:¬k<x.b_.length):stR x l k=kq l (fmA x):=by rw[oo,azf h,stR,az0 (by omega)]
theorem aml :stR x l 0=if x.c_=0 then 1 else 0:=by unfold stR;simp[w6,Bw]
theorem amk(h:x.c_=0)(hk:k<x.b_.length):stR x l (k+1)=min (stR x l k*kq l x.b_[k]) 257:=by unfold stR;rw[azg h,azg h,ac0 hk rfl]
theorem amj(h:¬x.c_=0)(hk:k<x.b_.length):stR x l (k+1)=min (stR x l k+kq l x.b_[k]) 257:=by unfold stR;rw[azf h,azf h,acg hk rfl]
def Q9(h:∀r∈x.b_,IsFm r):0<=stR x l k/\stR x l k<=257:=by
 have hn:∀n∈(x.b_.take k).map (kq l),0<=n:=fun n hn=>by obtain⟨r,hr,rfl⟩:=azy.1 hn;exact(Et l (h r (List.mem_of_mem_take hr))).1
 unfold stR;split;exact vd hn;exact yy hn
def au2(h:e=stR x l k)(h0:x.c_=0)(hk:k<x.b_.length)(hg:e*kq l x.b_[k]>256):(257:Int)=stR x l (k+1):=by rw[amk h0 hk,<-h];omega
def au3(h:e=stR x l k)(h0:x.c_=0)(hk:k<x.b_.length)(hg:¬e*kq l x.b_[k]>256):e*kq l x.b_[k]=stR x l (k+1):=by rw[amk h0 hk,<-h];omega
def au0(h:e=stR x l k)(h0:¬x.c_=0)(hk:k<x.b_.length)(hg:e+kq l x.b_[k]>256):(257:Int)=stR x l (k+1):=by rw[amj h0 hk,<-h];omega
def au1(h:e=stR x l k)(h0:¬x.c_=0)(hk:k<x.b_.length)(hg:¬e+kq l x.b_[k]>256):e+kq l x.b_[k]=stR x l (k+1):=by rw[amj h0 hk,<-h];omega
def Ta{a b:Int}(ha:0<=a/\a<=257)(hb:0<=b/\b<=257):0<=a*b/\a*b<=66049:=⟨Int.mul_nonneg ha.1 hb.1,Int.mul_le_mul ha.2 hb.2 hb.1 (by decide)⟩
def cG_2(h:x.c_=2)(h0:x.e_.c_=4):(2:Int)=iq (fmA x):=by rw[ke,azg h,azg h0]
def cG_1(h:x.c_=2)(h0:¬x.e_.c_=4):(1:Int)=iq (fmA x):=by rw[ke,azg h,azf h0]
structure CtI(x:GFm)(q:KSP):Prop where
 s:q.s=Bw ((x.b_.take q.k).map iq)
 p:q.p=w6 ((x.b_.take q.k).map iq)
section
variable{x:GFm}{q:KSP}
def ct0:CtI x ⟨0,0,1⟩:=⟨rfl,rfl⟩
def aqn(h:CtI x q)(hx:∀r∈x.b_,IsFm r):(0<=q.s/\q.s<=257)/\0<=q.p/\q.p<=257:=by
 have hn:∀n∈(x.b_.take q.k).map iq,0<=n:=fun n hn=>by obtain⟨r,hr,rfl⟩:=azy.1 hn;exact(zi (hx r (List.mem_of_mem_take hr))).1
 rw[h.s,h.p];exact⟨yy hn,vd hn⟩
def ctA(h:CtI x q)(hk:q.k<x.b_.length):CtI x ⟨q.k+1,min (q.s+iq x.b_[q.k]) 257,min (q.p*iq x.b_[q.k]) 257⟩:=⟨acg hk h.s,ac0 hk h.p⟩
def ctB(h:CtI x q)(hk:q.k<x.b_.length)(hc:iq x.b_[q.k]<=0)(hr:0<=iq x.b_[q.k]):CtI x ⟨q.k+1,min (q.s+iq x.b_[q.k]) 257,q.p*iq x.b_[q.k]⟩:=by have h2:=ctA h hk;have e:iq x.b_[q.k]=0:=(by omega);have e2:min (q.p*0) 257=q.p*0:=(by rw[Int.mul_zero];decide);rw[e,e2]at h2;rw[e];exact h2
def ct_s(h:CtI x q)(hk:¬q.k<x.b_.length)(h1:x.c_=1):q.s=iq (fmA x):=by rw[ke,azf (by omega),azg h1,h.s,az0 (by omega)]
def ct_p(h:CtI x q)(hk:¬q.k<x.b_.length)(h1:¬x.c_=1)(h2:¬x.c_=2):q.p=iq (fmA x):=by rw[ke,azf h2,azf h1,h.p,az0 (by omega)]
end
def sm_1{b:Bool}(h:x.c_=2)(h0:x.e_.c_=0\/x.e_.c_=1)(hj:j<l.length)(hv:x.e_.p_=((j:Nat):Int))(hn:l[j].nl=false)(hb:b=(x.e_.c_==1)):lf l (fmA x)=fmA (cnF b):=by rw[om,azg h,azg ⟨h0,by rw[Gs hj hv];exact hn⟩,hb]
def au7(h:x.c_=2)(h0:x.e_.c_=0)(hj:j<l.length)(hv:x.e_.p_=((j:Nat):Int))(hn:l[j].nl=false):fmA (cnF false)=rwA (lf l (fmA x)):=(sm_1 h (.inl h0) hj hv hn (by rw[h0];rfl)).symm
def au6(h:x.c_=2)(h0:x.e_.c_=1)(hj:j<l.length)(hv:x.e_.p_=((j:Nat):Int))(hn:l[j].nl=false):fmA (cnF true)=rwA (lf l (fmA x)):=(sm_1 h (.inr h0) hj hv hn (by rw[h0];rfl)).symm
def sm_2(h:x.c_=2)(hj:j<l.length)(hv:x.e_.p_=((j:Nat):Int))(hn:l[j].nl=true):lf l (fmA x)=fmA x:=by grind[om,Gs]
def sm_3(h:x.c_=2)(h0:¬(x.e_.c_=0\/x.e_.c_=1)):lf l (fmA x)=fmA x:=by rw[om,azg h,azf (fun g=>h0 g.1)]
def sm_4{L:List GFm}(h:¬x.c_=2)(hL:(x.b_.take k).map (lf l)=L.map fmA)(hk:¬k<x.b_.length):lf l (fmA x)=fmA ⟨x.c_,zAt,L.map fmA⟩:=by rw[om,azf h,<-hL,az0 (by omega)]
def au5{L:List GFm}{f:GFm}(hk:k<x.b_.length)(hL:(x.b_.take k).map (lf l)=L.map fmA)(hf:lf l x.b_[k]=fmA f):(x.b_.take (k+1)).map (lf l)=(L++[f]).map fmA:=by grind[azj,List.map_singleton]
def U7(x:GFm)(hx:FitFm x)(vs:List PVar)(hvs:bq vs (fun y=>True))(hi:FmK vs (fmA x))(ih:∀r∈x.b_,FmK vs r->PRet prog 32 [.agg (rwA r),.tree 5 (vs.map vA),vI 256] (fun q=>q=vI (kq vs r))):PRet prog 32 [.agg (fmA x),.tree 5 (vs.map vA),vI 256] (fun q=>q=vI (kq vs (fmA x))):=by
 have hj:=zc hi;refine ovT [24,47,56,59,64] [] func32 rfl rfl ?_;apply cB<;>intro he;have h2:(x.c_:Int)=(2:Int):=by simpa using he
 apply cB<;>intro hf;have h7:(x.e_.c_:Int)=(0:Int):=by simpa using hf
 obtain⟨j,hk,hl⟩:=hj.2.1 (by omega) (by omega);refine OpG.lk (ae underlying54 uw rfl rfl hl hk) ?_;apply cB<;>intro hg;have hm:vs[j].nl=false:=by simpa using hg
 exact rV rfl rfl (congrArg vI (cR_0 h2 h7 hk hl hm));have hm:vs[j].nl=true:=by simpa using hg
 refine cB (fun hz=>by exfalso;have h:=(by simpa using hz:(x.e_.c_:Int)=4);omega) (fun _=>?_);exact rV rfl rfl (congrArg vI (cR_1 h2 h7 hk hl hm));have h7:¬((x.e_.c_:Int)=(0:Int)):=by simpa using hf
 refine cF (cB (fun h8=>?_) (fun h8=>?_));have h9:(x.e_.c_:Int)=(4:Int):=by simpa using h8
 exact rV rfl rfl (congrArg vI (cR_2 h2 h9));have h9:¬((x.e_.c_:Int)=(4:Int)):=by simpa using h8
 exact rV rfl rfl (congrArg vI (cR_3 h2 h7 h9));have h2:¬((x.c_:Int)=(2:Int)):=by simpa using he
 apply cB<;>intro hh
 ·have h4:(x.c_:Int)=(0:Int):=by simpa using hh
  refine LpG.on (fun k1:KE=>(⟨fL [(1,.tree 5 (vs.map vA)),(2,vI 256),(3,.ptr 0 0 0),(8,vI k1.e),(9,vI k1.k)],hLz [(0,⟨0,fmA x,0,false⟩)],1⟩:St)) (fun k1=>(x.b_.length-k1.k)) (fun k1=>(k1.k<=x.b_.length/\(k1.e=stR x vs k1.k))) (⟨0,_⟩:KE) (cnR rfl) ⟨azk _,(by rw[aml];(rw[azg ‹_›];done))⟩ ?_;rintro k1 ha;have hb:x.b_.length<=140737488355328:=hx.b_.1
  obtain⟨hc,h0⟩:=ha;refine LenG.of (cB (fun h3=>?_) (fun h3=>?_));have h1:k1.k<x.b_.length:=Int.ofNat_lt.1 (azi h3)
  have hn:0<=k1.e/\k1.e<=257:=by rw[h0];exact Q9 hx.b_.2
  have ho:=Et vs (hx.b_.2 x.b_[k1.k] (ay7 h1));have hp:=Ta hn ho
  refine IdxG.of ‹_› (OpG.lk (ci bu rfl (adt (hx.b_.2 _ (ay7 _)))) ?_);refine ArgG.mk (ih x.b_[k1.k] (ay7 _) (hj.2.2 h2 _ (ay7 _))) (show bz [.agg (rwA x.b_[k1.k]),.tree 5 (vs.map vA),vI 256]=true by simp[bz,AV.pureB,adu (hx.b_.2 _ (ay7 _))]) ?_;rintro _ rfl;refine cB (fun _=>?_) (fun hz=>by exfalso;have h:=(by simpa using hz:¬(x.c_:Int)=0);omega);refine OpG.lk (ki rfl rfl (by omega) (by omega)) ?_;apply cB<;>intro h5;have hd:=azi h5
  refine OpG.lk (lJ (m:=256) (n:=1) rfl rfl (by decide) (by decide)) ?_;refine⟨by omega,?_⟩;refine⟨(⟨k1.k+1,_⟩:KE),(nsA ‹_›),(cnR rfl),?_⟩;refine⟨‹_›,?_⟩;exact au2 h0 h4 h1 hd;have hd:=azh h5
  refine⟨by omega,?_⟩;refine⟨(⟨k1.k+1,_⟩:KE),(nsA ‹_›),(cnR rfl),?_⟩;refine⟨‹_›,?_⟩;exact au3 h0 h4 h1 hd;have h6:¬k1.k<x.b_.length:=fun h=>azh h3 (Int.ofNat_lt.2 h)
  exact rV rfl rfl (congrArg vI (h0.trans (Ra h2 h6)))
 have h4:¬((x.c_:Int)=(0:Int)):=by simpa using hh
 refine LpG.on (fun k1:KE=>(⟨fL [(1,.tree 5 (vs.map vA)),(2,vI 256),(3,.ptr 0 0 0),(8,vI k1.e),(9,vI k1.k)],hLz [(0,⟨0,fmA x,0,false⟩)],1⟩:St)) (fun k1=>(x.b_.length-k1.k)) (fun k1=>(k1.k<=x.b_.length/\(k1.e=stR x vs k1.k))) (⟨0,_⟩:KE) (cnR rfl) ⟨azk _,(by rw[aml];(rw[azf ‹_›];done))⟩ ?_;rintro k1 ha;have hb:x.b_.length<=140737488355328:=hx.b_.1
 obtain⟨hc,h0⟩:=ha;refine LenG.of (cB (fun h3=>?_) (fun h3=>?_));have h1:k1.k<x.b_.length:=Int.ofNat_lt.1 (azi h3)
 have hn:0<=k1.e/\k1.e<=257:=by rw[h0];exact Q9 hx.b_.2
 have ho:=Et vs (hx.b_.2 x.b_[k1.k] (ay7 h1));have hp:=Ta hn ho
 refine IdxG.of ‹_› (OpG.lk (ci bu rfl (adt (hx.b_.2 _ (ay7 _)))) ?_);refine ArgG.mk (ih x.b_[k1.k] (ay7 _) (hj.2.2 h2 _ (ay7 _))) (show bz [.agg (rwA x.b_[k1.k]),.tree 5 (vs.map vA),vI 256]=true by simp[bz,AV.pureB,adu (hx.b_.2 _ (ay7 _))]) ?_;rintro _ rfl;refine cB (fun hz=>by exfalso;have h:=(by simpa using hz:(x.c_:Int)=0);omega) (fun _=>?_);refine OpG.lk (lJ rfl rfl (by omega) (by omega)) ?_;apply cB<;>intro h5;have hd:=azi h5
 refine OpG.lk (lJ (m:=256) (n:=1) rfl rfl (by decide) (by decide)) ?_;refine⟨by omega,?_⟩;refine⟨(⟨k1.k+1,_⟩:KE),(nsA ‹_›),(cnR rfl),?_⟩;refine⟨‹_›,?_⟩;exact au0 h0 h4 h1 hd;have hd:=azh h5
 refine⟨by omega,?_⟩;refine⟨(⟨k1.k+1,_⟩:KE),(nsA ‹_›),(cnR rfl),?_⟩;refine⟨‹_›,?_⟩;exact au1 h0 h4 h1 hd;have h6:¬k1.k<x.b_.length:=fun h=>azh h3 (Int.ofNat_lt.2 h)
 exact rV rfl rfl (congrArg vI (h0.trans (Ra h2 h6)))
def U8(vs:List PVar)(h0:bq vs (fun _=>True))(r:List AV)(hr:IsFm r):FmK vs r->PRet prog 32 [.agg (rwA r),.tree 5 (vs.map vA),vI 256] (fun q=>q=vI (kq vs r)):=IsFm.ind (M:=fun r=>FmK vs r->PRet prog 32 [.agg (rwA r),.tree 5 (vs.map vA),vI 256] (fun q=>q=vI (kq vs r))) (fun x hx ih hk=>U7 x hx vs h0 hk ih) hr
def aao(x:GFm)(hx:FitFm x)(ih:∀r∈x.b_,PRet prog 189 [.agg (rwA r)] (fun q=>q=vI (iq r))):PRet prog 189 [.agg (fmA x)] (fun q=>q=vI (iq (fmA x))):=by refine ovT [26,27,30,34] [] func189 rfl rfl ?_;apply cB<;>intro h8;have h3:=h8;simp at h3;apply cB<;>intro h9;have h4:=h9;simp at h4;exact rV rfl rfl (congrArg vI (cG_2 h3 h4));have h4:=h9;simp at h4;exact rV rfl rfl (congrArg vI (cG_1 h3 h4));have h3:=h8;simp at h3;refine LenG.of (LpG.on (fun k0:KSP=>(⟨fL [(1,.ptr 0 0 0),(3,vI k0.s),(4,vI k0.p),(16,.tree 11 (x.b_.map rwA)),(17,vI x.b_.length),(18,vI k0.k)],hLz [(0,⟨0,fmA x,0,false⟩)],1⟩:St)) (fun k0=>(x.b_.length-k0.k)) (fun k0=>(k0.k<=x.b_.length/\CtI x k0)) (⟨0,0,1⟩:KSP) (cnR rfl) ⟨azk _,ct0⟩ ?_);rintro k0 hc;have hgr_k0:x.b_.length<=140737488355328:=hx.b_.1;obtain⟨hle_k0,h1⟩:=hc;apply cB<;>intro ha;have h2:k0.k<x.b_.length:=Int.ofNat_lt.1 (azi ha);obtain⟨x1,h0,hf⟩:=(hx.b_.2 _ (ay7 h2)).open_;have hg:fmA x1∈x.b_:=h0▸ay7 h2;have hh:=aqn h1 hx.b_.2;have he:=zi (yk hf);have hmm:=Ta hh.2 he;refine cb (j:=k0.k) ‹_› h0 (ArgG.mk (ih (fmA x1) hg) rfl ?_);rintro _ rfl;refine OpG.lk (lJ rfl rfl (by omega) (by omega)) ?_;refine OpG.lk (jb rfl rfl) ?_;refine OpG.lk (ki rfl rfl (by omega) (by omega)) ?_;apply cB<;>intro h7;have hd:=azi h7;skip;refine OpG.lk (jb rfl rfl) ?_;refine⟨by omega,?_⟩;refine⟨(⟨k0.k+1,_,_⟩:KSP),(nsA ‹_›),(cnR rfl),?_⟩;refine⟨‹_›,?_⟩;exact h0▸ctA h1 h2;have hd:=azh h7;have hz:=h7;simp at hz;refine⟨by omega,?_⟩;refine⟨(⟨k0.k+1,_,_⟩:KSP),(nsA ‹_›),(cnR rfl),?_⟩;refine⟨‹_›,?_⟩;exact h0▸ctB h1 h2 (h0.symm▸hz) (h0.symm▸he.1);have h6:¬k0.k<x.b_.length:=fun h=>azh ha (Int.ofNat_lt.2 h);apply cB<;>intro hb;have h5:=hb;simp at h5;exact rV rfl rfl (congrArg vI (ct_s h1 h6 h5));have h5:=hb;simp at h5;exact rV rfl rfl (congrArg vI (ct_p h1 h6 h5 h3))
def M5(r:List AV)(hr:IsFm r):PRet prog 189 [.agg (rwA r)] (fun q=>q=vI (iq r)):=IsFm.ind (M:=fun r=>PRet prog 189 [.agg (rwA r)] (fun q=>q=vI (iq r))) (fun x hx ih=>aao x hx ih) hr
def N4(x:GFm)(hx:FitFm x)(vs:List PVar)(hvs:bq vs (fun y=>True))(ha:FmK vs (fmA x))(ih:∀r∈x.b_,FmK vs r->PRet prog 188 [.agg (rwA r),.tree 5 (vs.map vA)] (fun q=>q=.agg (rwA (lf vs r)))):PRet prog 188 [.agg (fmA x),.tree 5 (vs.map vA)] (fun q=>q=.agg (rwA (lf vs (fmA x)))):=by have hh:=zc ha;have hfl:=Ui ha;refine ovT [26] [14] func188 rfl rfl ?_;apply cB<;>intro hb;have h0:=hb;simp at h0;apply cB<;>intro hc;have h2:=hc;simp at h2;obtain⟨j,h8,h9⟩:=hh.2.1 (by omega) (by omega);refine cT (OpG.lk (ae underlying54 uw rfl rfl h9 h8) ?_);apply cB<;>intro h3;have h4:=h3;simp at h4;refine cB (fun _=>?_) (fun hz=>by exfalso;have h:=(by simpa using hz:¬(x.e_.c_:Int)=0);omega);refine rtK rfl bu rfl ⟨[],i6⟩ ?_;exact congrArg AV.agg (au7 h0 h2 h8 h9 h4);have h4:=h3;simp at h4;refine rtK rfl bu rfl ⟨[],FzP.pure rfl⟩ ?_;exact congrArg AV.agg (sm_2 h0 h8 h9 h4).symm;have h2:=hc;simp at h2;apply cB<;>intro hd;have h5:=hd;simp at h5;obtain⟨j,h8,h9⟩:=hh.2.1 (by omega) (by omega);refine OpG.lk (ae underlying54 uw rfl rfl h9 h8) ?_;apply cB<;>intro h3;have h4:=h3;simp at h4;refine cB (fun hz=>by exfalso;have h:=(by simpa using hz:(x.e_.c_:Int)=0);omega) (fun _=>?_);refine rtK rfl bu rfl ⟨[],i6⟩ ?_;exact congrArg AV.agg (au6 h0 h5 h8 h9 h4);have h4:=h3;simp at h4;refine rtK rfl bu rfl ⟨[],FzP.pure rfl⟩ ?_;exact congrArg AV.agg (sm_2 h0 h8 h9 h4).symm;have h5:=hd;simp at h5;exact cF (rtK rfl bu rfl ⟨[],FzP.pure rfl⟩ (congrArg AV.agg (sm_3 h0 (fun h=>h.elim h2 h5)).symm));have h0:=hb;simp at h0;refine LenG.of (LpG.via (fun _ h=>cn 2 10 11 rfl rfl rfl rfl rfl 4 rfl h) ?_);refine LpG.on (fun k0:KL GFm=>(⟨fL [(1,.tree 5 (vs.map vA)),(4,.ptr 1 0 0),(6,.ptr 2 0 0),(41,.tree 11 (x.b_.map rwA)),(42,vI x.b_.length),(43,vI k0.k)],hLz [(1,⟨0,[vI 0,vI 0,vI 0,vI 0,vI 0,.v (.slice none 0 0),vI 0,vI 0,vB false,.v (.string ⟨#[]⟩),.v (.slice none 0 0)],0,false⟩),(2,⟨0,[vI x.c_,vI 0,vI 0,vI 0,vI 0,.v (.slice none 0 0),vI 0,vI 0,vB false,.v (.string ⟨#[]⟩),.sl 3 k0.L.length 0 k0.L.length],0,false⟩),(3,⟨k0.L.length,rF fmA k0.L,11,Nat.beq k0.L.length 0⟩)],4⟩:St)) (fun k0=>(x.b_.length-k0.k)) (fun k0=>(k0.k<=x.b_.length/\((x.b_.take k0.k).map (lf vs)=k0.L.map fmA/\k0.L.length=k0.k))) (⟨0,[]⟩:KL GFm) (cnS rfl (hpR rfl (hpR (by rfl) (hpS (ab aq _ _) (by rfl) trivial)))) ⟨azk _,⟨rfl,rfl⟩⟩ ?_;rintro k0 hi;have hgr_k0:x.b_.length<=140737488355328:=hx.b_.1;obtain⟨hle_k0,h1⟩:=hi;apply cB<;>intro he;have h6:k0.k<x.b_.length:=Int.ofNat_lt.1 (azi he);obtain⟨x1,h7,hk⟩:=(hx.b_.2 _ (ay7 h6)).open_;have hj:fmA x1∈x.b_:=h7▸ay7 h6;have hll:=h1.2;refine cb (j:=k0.k) ‹_› h7 (ArgG.mk ((show PRet prog 188 [.agg (fmA x1),.tree 5 (vs.map vA)] (fun q=>∃f:GFm,q=.agg (fmA f)/\FitFm f/\lf vs (fmA x1)=fmA f)by obtain⟨_,rfl,h⟩:=ih (fmA x1) hj (hh.2.2 h0 _ hj);obtain⟨f,e,hf⟩:=(rz vs (yk hk)).open_;exact⟨_,⟨f,by rw[e],hf,e⟩,h⟩)) rfl ?_);rintro _ ⟨f0,rfl,hf0,hl⟩;refine OpG.mk _ _ _ 6 (ah aq (a:=f0) underlying67 zv yr Bx rfl rfl rfl (am rfl rfl rfl rfl) rfl (by omega) (by omega) (by unfold TV;omega)) rfl rfl ?_;refine⟨by kernel_rfl,?_⟩;refine⟨by omega,?_⟩;refine⟨(⟨k0.k+1,k0.L++[f0]⟩:KL GFm),(nsA ‹_›),(cnS rfl (hpR rfl (.cons (by(rw[azb];rfl)) rfl rfl (.cons (by(rw[azb];rfl)) rfl (ab aq _ _) .nil)))),?_⟩;refine⟨‹_›,?_⟩;exact⟨au5 h6 h1.1 (h7.symm▸hl),by show(_++[_]).length=_;rw[azb,h1.2];rfl⟩;have hg:¬k0.k<x.b_.length:=fun h=>azh he (Int.ofNat_lt.2 h);refine RegG.via (fun _ h=>cz [3] 2 0 0 [vI x.c_,vI 0,vI 0,vI 0,vI 0,.v (.slice none 0 0),vI 0,vI 0,vB false,.v (.string ⟨#[]⟩),.sl 3 k0.L.length 0 k0.L.length] [vI x.c_,vI 0,vI 0,vI 0,vI 0,.v (.slice none 0 0),vI 0,vI 0,vB false,.v (.string ⟨#[]⟩),.tree 11 (k0.L.map fmA)] rfl rfl (.keep (.keep (.keep (.keep (.keep (.keep (.keep (.keep (.keep (.keep (.fz (FzP.rows aq (azc.2 rfl) rfl) (.same _)))))))))))) rfl h) ?_;refine ay ?_;refine rtK rfl bu rfl ⟨[],Bt⟩ ?_;exact congrArg AV.agg (sm_4 h0 h1.1 hg).symm
def N5(vs:List PVar)(h0:bq vs (fun _=>True))(r:List AV)(hr:IsFm r):FmK vs r->PRet prog 188 [.agg (rwA r),.tree 5 (vs.map vA)] (fun q=>q=.agg (rwA (lf vs r))):=IsFm.ind (M:=fun r=>FmK vs r->PRet prog 188 [.agg (rwA r),.tree 5 (vs.map vA)] (fun q=>q=.agg (rwA (lf vs r)))) (fun x hx ih hk=>N4 x hx vs h0 hk ih) hr
def dcP:List AV->GPart
 |[.v (.int _ c),.v (.int _ k),.v (.int _ v),.v (.int _ b),.tree _ o]=>⟨c,k,v,b,o⟩
 |_=>⟨0,0,0,0,[]⟩
def aql(p:GPart):dcP (ptA p)=p:=by simp only[ptA,dcP,fk]
def ad0:List AV->GAt
 |[.v (.int _ ak),.v (.int _ av),.v (.int _ ao),.v (.int _ c),.tree _ ps,.v (.int _ tv),.v (.int _ tk),.v (.bool ng),.v (.string s)]=>⟨ak,av,ao,⟨c,ps.map dcP⟩,⟨tv,tk,ng,s⟩⟩
 |_=>zAt
def J0(a:GAt):ad0 (atA a)=a:=by have e:(a.o_.a_.map ptA).map dcP=a.o_.a_:=(by rw[List.map_map];have:dcP∘ptA=id:=funext aql;rw[this,List.map_id]);simp only[atA,ad0,e]
structure GLit where
 e_:GAt
 F_:Bool
variable{M X:List (List GLit)}{xs:List GLit}
abbrev lyA(x:GLit):List AV:=[.v (.int .i64 x.e_.c_),.v (.int .i64 x.e_.p_),.v (.int .i64 x.e_.w_),.v (.int .i64 x.e_.o_.f_),.tree 5 (x.e_.o_.a_.map ptA),.v (.int .i64 x.e_.x_.v),.v (.int .i64 x.e_.x_.kd),.v (.bool x.e_.x_.ng),.v (.string x.e_.x_.s),.v (.bool x.F_)]
abbrev Gz(l:List GLit):List AV:=[.tree 10 (l.map lyA)]
def s6(a:GAt):List (List GLit):=if a.c_=4 then[[⟨a,false⟩],[⟨a,true⟩]]else[[⟨a,false⟩]]
def Fi(L:List (List (List GLit))):List (List GLit):=L.foldl (fun out more=>out.flatMap fun f=>more.map (f++·)) [[]]
mutual
def exR:List AV->List (List GLit)
 | [.v (.int k0 kd),a1,a2,a3,a4,a5,a6,a7,a8,a9,.tree q es]=>
  if iq [.v (.int k0 kd),a1,a2,a3,a4,a5,a6,a7,a8,a9,.tree q es]=0 then[]else
  if kd=2 then s6 (ad0 [a1,a2,a3,a4,a5,a6,a7,a8,a9])else if kd=1 then(alc es).flatten else Fi (alc es)
 |_=>[]
def alc:List (List AV)->List (List (List GLit))
 | []=>[]
 |r :: rs=>exR r :: alc rs
end
theorem M1:∀es,alc es=es.map exR
 |[]=>by rw[alc];rfl
 |r::rs=>by rw[alc,M1 rs];rfl
theorem vv(x:GFm):exR (fmA x)=if iq (fmA x)=0 then[]else if x.c_=2 then s6 x.e_ else if x.c_=1 then(x.b_.map exR).flatten else Fi (x.b_.map exR):=by have h:=J0 x.e_;simp only[fmA,exR,fk,M1];rw[show ad0 _=x.e_ from h]
theorem qz(L:List (List (List GLit)))(M:List (List GLit)):Fi (L++[M])=(Fi L).flatMap fun f=>M.map (f++·):=by simp[Fi,List.foldl_append]
theorem Q2:∀(L:List Int) (s:Int),(∀n∈L,0<=n)->L.foldl (fun s n=>min (s+n) 257) s<=256->s<=256/\∀n∈L,n<=256-s
 |[],s,_,h=>⟨h,by simp⟩
 |a::L,s,hn,h=>by have ha:=hn a (by simp);obtain⟨h1,h2⟩:=Q2 L (min (s+a) 257) (fun n h=>hn n (List.mem_cons_of_mem _ h)) h;refine⟨by omega,fun n hm=>?_⟩;rcases azz.1 hm with rfl|hm;omega;have:=h2 n hm;omega
theorem R9:∀(L:List Int) (s:Int),0<=s->(∀n∈L,0<=n)->0<L.foldl (fun s n=>min (s*n) 257) s->L.foldl (fun s n=>min (s*n) 257) s<=256->(0<s/\s<=256)/\∀n∈L,0<n/\n<=256
 |[],s,_,_,h0,h=>⟨⟨h0,h⟩,by simp⟩
 |a::L,s,hs,hn,h0,h=>by
  have ha:=hn a (by simp);have hm:=Int.mul_nonneg hs ha
  obtain⟨h1,h2⟩:=R9 L (min (s*a) 257) (by omega) (fun n h=>hn n (List.mem_cons_of_mem _ h)) h0 h;have h3:0<s*a/\s*a<=256:=by omega
  have h4:0<s:=by
   rcases Int.lt_or_eq_of_le hs with h|h;exact h;rw[<-h,Int.zero_mul]at h3;omega
  have ha0:0<a:=by
   rcases Int.lt_or_eq_of_le ha with h|h;exact h;rw[<-h,Int.mul_zero]at h3;omega
  have e1:s<=s*a:=by have:=Int.mul_le_mul_of_nonneg_left (show 1<=a by omega) hs;rwa [Int.mul_one]at this
  have e2:a<=s*a:=by have:=Int.mul_le_mul_of_nonneg_right (show 1<=s by omega) ha;rwa [Int.one_mul]at this
  refine⟨⟨h4,by omega⟩,fun n hm=>?_⟩;rcases azz.1 hm with rfl|hm;omega;exact h2 n hm
section
variable{L:List Int}(hn:∀n∈L,0<=n)
include hn
theorem F1(h:Bw L<=256)(k:Nat):Bw (L.take k)<=256:=by unfold Bw at h ⊢;rw[<-List.take_append_drop k L,List.foldl_append]at h;exact(Q2 (L.drop k) _ (fun n g=>hn n (List.mem_of_mem_drop g)) h).1
theorem Yk(h:Bw L<=256):∀n∈L,n<=256:=fun n hm=>by have:=(Q2 L 0 hn h).2 n hm;omega
theorem Gg(h0:0<w6 L)(h:w6 L<=256)(k:Nat):0<w6 (L.take k)/\w6 (L.take k)<=256:=by have hr:=(vd (L:=L.take k) fun n g=>hn n (List.mem_of_mem_take g)).1;unfold w6 at h0 h hr ⊢;rw[<-List.take_append_drop k L,List.foldl_append]at h h0;exact(R9 (L.drop k) _ hr (fun n g=>hn n (List.mem_of_mem_drop g)) h0 h).1
theorem Lx(h0:0<w6 L)(h:w6 L<=256):∀n∈L,0<n/\n<=256:=(R9 L 1 (by decide) hn h0 h).2
end
def Bk{es:List (List AV)}(h:∀r∈es,IsFm r):∀n∈es.map iq,0<=n:=fun n hn=>by obtain⟨r,hr,rfl⟩:=azy.1 hn;exact(zi (h r hr)).1
def pi(hx:FitFm x)(h2:¬x.c_=2)(h0:¬iq (fmA x)=0)(h:iq (fmA x)<=256):(x.c_=1->Bw (x.b_.map iq)<=256)/\(¬x.c_=1->0<w6 (x.b_.map iq)/\w6 (x.b_.map iq)<=256):=by have hr:=zi (yk hx);rw[ke,azf h2]at h h0 hr;constructor;intro h1;rw[azg h1]at h;exact h;intro h1;rw[azf h1]at h h0 hr;omega
def sf(hx:FitFm x)(h2:¬x.c_=2)(h0:¬iq (fmA x)=0)(h:iq (fmA x)<=256):∀r∈x.b_,iq r<=256:=fun r hr=>by have hn:=Bk hx.b_.2;by_cases h1:x.c_=1;exact Yk hn ((pi hx h2 h0 h).1 h1) _ (List.mem_map_of_mem hr);have:=(pi hx h2 h0 h).2 h1;exact(Lx hn this.1 this.2 _ (List.mem_map_of_mem hr)).2
theorem A7{L:List (List GLit)} :(L.flatMap fun f=>M.map (f++·)).length=L.length*M.length:=by
 induction L with
 |nil=>simp
 |cons a L ih=>rw[List.flatMap_cons,azb,aze,ih,azu,Nat.add_mul,Nat.one_mul,Nat.add_comm]
section
variable{x:GFm}(hx:FitFm x)(h2:¬x.c_=2)(h0:¬iq (fmA x)=0)(h:iq (fmA x)<=256)(ih:∀r∈x.b_,iq r<=256->(((exR r).length:Nat):Int)=iq r)
include hx h2 h0 h ih
theorem Sk(h1:x.c_=1):∀k,k<=x.b_.length->(((((x.b_.take k).map exR).flatten).length:Nat):Int)=Bw ((x.b_.take k).map iq)
 |0,_=>rfl
 |k+1,hk=>by have g:=Sk h1 k (by omega);have hs:=F1 (Bk hx.b_.2) ((pi hx h2 h0 h).1 h1) (k+1);rw[<-List.map_take]at hs;rw[azj (by omega)]at hs ⊢;simp only[azx,List.map_singleton,F2]at hs ⊢;rw[List.flatten_append,azb];have e:=ih x.b_[k] (ay7 _) (sf hx h2 h0 h _ (ay7 _));simp only[List.flatten_cons,List.flatten_nil,List.append_nil];omega
theorem Kh(h1:¬x.c_=1):∀k,k<=x.b_.length->((((Fi ((x.b_.take k).map exR))).length:Nat):Int)=w6 ((x.b_.take k).map iq)
 |0,_=>rfl
 |k+1,hk=>by have g:=Kh h1 k (by omega);have hp:=(pi hx h2 h0 h).2 h1;have hs:=Gg (Bk hx.b_.2) hp.1 hp.2 (k+1);rw[<-List.map_take]at hs;rw[azj (by omega)]at hs ⊢;simp only[azx,List.map_singleton,Gh]at hs ⊢;rw[qz,A7];have e:=ih x.b_[k] (ay7 _) (sf hx h2 h0 h _ (ay7 _));rw[Int.natCast_mul,g,e];omega
end
def Bb(r:List AV)(hr:IsFm r):iq r<=256->(((exR r).length:Nat):Int)=iq r:=
 IsFm.ind (M:=fun r=>iq r<=256->(((exR r).length:Nat):Int)=iq r) (fun x hx ih h=>by rw[vv];by_cases h0:iq (fmA x)=0;rw[azg h0,h0];rfl;rw[azf h0];by_cases h2:x.c_=2;rw[azg h2,ke,azg h2];unfold s6;split<;>rfl;rw[azf h2];by_cases h1:x.c_=1;have g:=Sk hx h2 h0 h ih h1 x.b_.length (azm _);rw[List.take_length]at g;rw[azg h1,g,ke,azf h2,azg h1];have g:=Kh hx h2 h0 h ih h1 x.b_.length (azm _);rw[List.take_length]at g;rw[azf h1,g,ke,azf h2,azf h1]) hr
mutual
def wgR(w:GAt->Nat):List AV->Nat
 | [.v (.int _ kd),a1,a2,a3,a4,a5,a6,a7,a8,a9,.tree _ es]=>if kd=2 then w (ad0 [a1,a2,a3,a4,a5,a6,a7,a8,a9])else(aln w es).sum
 |_=>0
def aln(w:GAt->Nat):List (List AV)->List Nat
 | []=>[]
 |r :: rs=>wgR w r :: aln w rs
end
theorem Ku(w:GAt->Nat):∀es,aln w es=es.map (wgR w)
 |[]=>by rw[aln];rfl
 |r::rs=>by rw[aln,Ku w rs];rfl
theorem uk(w:GAt->Nat)(x:GFm):wgR w (fmA x)=if x.c_=2 then w x.e_ else(x.b_.map (wgR w)).sum:=by have h:=J0 x.e_;simp only[fmA,wgR,fk,Ku];rw[show ad0 _=x.e_ from h]
theorem It{L:List Nat}{n:Nat}(h:n∈L):n<=L.sum:=by
 induction L with
 |nil=>simp at h
 |cons a L ih=>
  rw[List.sum_cons]
  rcases azz.1 h with rfl|h
  ·omega
  ·have:=ih h;omega
def wgL(w:GAt->Nat)(l:List GLit):Nat:=(l.map fun x=>w x.e_).sum
theorem afj(w:GAt->Nat)(a b:List GLit):wgL w (a++b)=wgL w a+wgL w b:=by simp[wgL]
theorem Sb{w:GAt->Nat}:∀{es:List (List AV)},(∀r∈es,∀c∈exR r,wgL w c<=wgR w r)->∀{k:Nat},k<=es.length->∀c∈Fi ((es.take k).map exR),wgL w c<=((es.take k).map (wgR w)).sum:=by
 intro es h k
 induction k with
 |zero=>intro _ c hc;simp[Fi]at hc;subst hc;simp[wgL]
 |succ k ih=>
  intro hk c hc
  rw[azj (by omega),azx,List.map_singleton]at hc ⊢
  rw[qz]at hc
  obtain⟨f,hf,hc⟩:=List.mem_flatMap.1 hc
  obtain⟨g,hg,rfl⟩:=azy.1 hc
  rw[afj,List.sum_append]
  have h1:=ih (by omega) f hf
  have h2:=h _ (ay7 _) g hg
  simp only[List.sum_cons,List.sum_nil]
  omega
def Uv(w:GAt->Nat)(r:List AV)(hr:IsFm r):∀c∈exR r,wgL w c<=wgR w r:=
 IsFm.ind (M:=fun r=>∀c∈exR r,wgL w c<=wgR w r) (fun x hx ih c hc=>by rw[vv]at hc;by_cases h0:iq (fmA x)=0;rw[azg h0]at hc;simp at hc;rw[azf h0]at hc;rw[uk];by_cases h2:x.c_=2;rw[azg h2]at hc ⊢;unfold s6 at hc;split at hc;rcases azz.1 hc with rfl|hc;simp[wgL];rw[azc.1 hc];simp[wgL];rw[azc.1 hc];simp[wgL];rw[azf h2]at hc ⊢;by_cases h1:x.c_=1;rw[azg h1]at hc;obtain⟨L,hL,hc⟩:=List.mem_flatten.1 hc;obtain⟨r,hr,rfl⟩:=azy.1 hL;exact azp (ih r hr c hc) (It (List.mem_map_of_mem hr));rw[azf h1]at hc;have:=Sb ih (azm _) c (by rwa [List.take_length]);rwa [List.take_length]at this) hr
end Go.Proofs.YtfpfdfhlljjckaaGreatDoor
namespace Go.Proofs
open Go.Shelf
def Tryz.growL_ren:Go.Shelf.Ren:=⟨fun|4=>257|n=>n,fun|22=>292|25=>319|3=>3|4=>4|9=>9|20=>20|0=>0|n=>n,fun|n=>n⟩
def Tryz.growL:Go.Proofs.Lays8.n4 Tryz.prog Tryz.growL_ren:={
 mixed:=by kernel_rfl
 f4:=⟨Tryz.f257.name,by decide,Tryz.func257.trans (congrArg some (by kernel_rfl))⟩
 t0:=Tryz.underlying0
 a0:=Tryz.isAgg0
 z0:=Tryz.sizeOf0
 v0:=Tryz.zeroValue0
 t3:=Tryz.underlying3
 a3:=Tryz.isAgg3
 z3:=Tryz.sizeOf3
 v3:=Tryz.zeroValue3
 t4:=Tryz.underlying4
 a4:=Tryz.isAgg4
 z4:=Tryz.sizeOf4
 v4:=Tryz.zeroValue4
 t9:=Tryz.underlying9
 a9:=Tryz.isAgg9
 z9:=Tryz.sizeOf9
 v9:=Tryz.zeroValue9
 t20:=Tryz.underlying20
 a20:=Tryz.isAgg20
 z20:=Tryz.sizeOf20
 v20:=Tryz.zeroValue20
 t22:=Tryz.underlying292
 a22:=Tryz.isAgg292
 z22:=Tryz.sizeOf292
 v22:=Tryz.zeroValue292}
end Go.Proofs
namespace Go.Proofs.YtfpfdfhlljjckaaGreatDoor
open Tryz
variable{af:Array Edge}{x:GFm}{p q:GPart}{c e n s v:Int}{es:List (Int×Int)}{o r:List AV}{ps:List GPart}{N nn vs z:List Int}{S fp:List Nat}{A' L:List PAux}{C:List PCl}{gs:List PLin}{l:List PVar}{B i j k m t t':Nat}{τ:Nat->AV}{y:Operand}{d:Option Tmp}{f:PLin}{P:Program}{pos:String}{α:Type}{ty:TypeId}{M X:List (List GLit)}{xs:List GLit}
set_option maxRecDepth 1000000
set_option maxHeartbeats 0
set_option linter.unusedVariables false
set_option linter.unusedSimpArgs false
open Go.RowKit
def ak4(P:Program)(f:FuncId)(args:List AV)(z:Nat):Prop:=
 ∀(T:Nat->Prop) (w:World) (vals:Array Value),TRs T w args vals->(∀b,T b->b<w.heap.size)->Calls P f vals w (fun e w'=>∃b o cap cells t,e=.returned (.slice (some ⟨b,o,none⟩) 0 cap)/\Below w.heap.size w w'/\w.heap.size<=b/\w'.heap[b]? =some (.cells cells t (0,0))/\cap<=maxLen/\o+cap*z<=cells.size)
section
variable{P:Program}{τ:Nat->AV}{η:bm}{d:Option Tmp}{ty:TypeId}{pos:String}{af:Array Edge}{g:Option (Nat×Bool)}
def Xn(u:Nat){f:FuncId}{xs:Array Operand}{ats:Array TypeId}{z:Nat}(hb:cw P f=true)(hp:bz (xs.toList.map (aev τ))=true)(hc:ak4 P f (xs.toList.map (aev τ)) z):
 LOp P ⟨d,.call {callee:=.value (.func f),args:=xs,argTypes:=ats},ty,pos,af,g⟩ τ η [] [(u,some ⟨0,[],z,false⟩)] (.sl u 0 0 0):=by
 intro C a hg h7 _ h3 K Q hK
 have hu:¬C.U u:=h3 (u,some ⟨0,[],z,false⟩) (by simp) (by simp)
 have h1:=Nn (a:=a) (fun x hx=>h7 x (by simp[Op.operands,Call.operands];exact .inr (by simpa using hx))) hp
 have h4:(execOp a.eval ⟨d,.call {callee:=.value (.func f),args:=xs,argTypes:=ats},ty,pos,af,g⟩).run P C.w=.ok (.enter f (xs.map a.eval)) C.w:=by have:execOp a.eval ⟨d,.call {callee:=.value (.func f),args:=xs,argTypes:=ats},ty,pos,af,g⟩=callFunc f (#[]++xs.map a.eval++#[]):=rfl;rw[this,fu hb];simp
 unfold Oper.wp
 rw[h4]
 refine Calls.mono (hc C.T C.w _ h1 (fun b hb=>hg.tlt hb)) ?_
 rintro e w' ⟨b,o,cap,cells,t,rfl,h0,h8,h2,h5,hsz⟩
 have h6:ReplOk C u (b,o) cells.size ⟨0,[],z,false⟩ w':=⟨h0.os,h0.tape,h0.output,h0.size,fun k hk _=>h0.block k hk,.inr h8,fun h=>absurd h hu,rfl,fun e=>absurd e (by show¬((0:Nat)=TV);decide),cells,t,h2,rfl,by simp;omega,fun j h=>absurd h (by simp)⟩
 refine hK _ (C.repl u (b,o) cells.size ⟨0,[],z,false⟩ w') rfl (fun i=>by simp[Ctx.repl]) (qh hg h6) (qi hg h6) ?_
 have:=VR.sl (C:=C.repl u (b,o) cells.size ⟨0,[],z,false⟩ w') (id:=u) (ver:=0) (off:=0) (len:=0) (cap:=cap) (b:=⟨0,[],z,false⟩) (aw _ _ _) rfl rfl (azk _) h5 (azk _) (by simp[Ctx.repl];omega)
 simpa[Ctx.repl]using this
end
theorem K4{T:Nat->Prop}{w:World}{x y:Value}{vals:Array Value}(h:TRs T w [.v x,.v y] vals):vals=#[x,y]:=by obtain⟨h0,hv⟩:=h;have k0:=(hv 0 (by simp) (by simp at h0;omega)).v_inv;have k1:=(hv 1 (by simp) (by simp at h0;omega)).v_inv;apply Array.ext;simpa using h0.symm;intro i hi h1;have:i=0\/i=1:=(by simp at h1;omega);rcases this with rfl|rfl;exact k0;exact k1
def I3:RowF lyA 10:=⟨fun _=>rfl,fun _=>rfl,fun _ _=>rfl,fun _ _=>rfl,fun _ _=>rfl,fun _=>rfl⟩
def j3:RowF (fun l:List GLit=>[AV.tree 10 (l.map lyA)]) 1:=⟨fun _=>rfl,fun _=>rfl,fun _ _=>rfl,fun _ _=>rfl,fun _ _=>rfl,fun _=>rfl⟩
def Ln:RowF Gz 1:=j3
def aiu{η:bm}{id v:Nat}(h0:id∈fp)(hb:η id=some ⟨v,[.v (.slice none 0 0)],1,false⟩):FzP fp η (.sl id v 0 1) (.tree 1 ([([]:List GLit)].map Gz)):=by refine FzP.sl (rows:=[Gz []]) h0 hb rfl rfl (by decide) (fun k h=>?_) (fun k h j h'=>?_);have hk:k=0:=(by simp at h;omega);subst hk;rfl;have hk:k=0:=(by simp at h;omega);subst hk;have hj:j=0:=(by simp[Gz]at h';omega);subst hj;exact⟨.v (.slice none 0 0),rfl,FzP.nil⟩
def w1(_:GAt):Nat:=1
theorem alo(l:List GLit):wgL w1 l=l.length:=by
 induction l with
 |nil=>rfl
 |cons a l ih=>simp only[wgL,azw,List.sum_cons,azu]at ih ⊢;rw[ih];show 1+_=_;omega
def ex_0(h:iq (fmA x)=0):[]=(exR (fmA x)).map Gz:=by rw[vv,azg h];rfl
def ex_4(h0:¬iq (fmA x)=0)(h2:x.c_=2)(h:x.e_.c_=4):[[⟨x.e_,false⟩],[⟨x.e_,true⟩]]=exR (fmA x):=by rw[vv,azf h0,azg h2,s6,azg h]
def ex_2(h0:¬iq (fmA x)=0)(h2:x.c_=2)(h:¬x.e_.c_=4):[[⟨x.e_,false⟩]]=exR (fmA x):=by rw[vv,azf h0,azg h2,s6,azf h]
def ex_1{L:List (List GLit)}(h0:¬iq (fmA x)=0)(h2:¬x.c_=2)(h1:x.c_=1)(hk:¬k<x.b_.length)(hL:L=((x.b_.take k).map exR).flatten):L=exR (fmA x):=by rw[vv,azf h0,azf h2,azg h1,hL,az0 (by omega)]
def ex_p{L:List (List GLit)}(h0:¬iq (fmA x)=0)(h2:¬x.c_=2)(h1:¬x.c_=1)(hk:¬k<x.b_.length)(hL:L=Fi ((x.b_.take k).map exR)):L=exR (fmA x):=by rw[vv,azf h0,azf h2,azf h1,hL,az0 (by omega)]
def ab4(h2:¬x.c_=2){N:Nat}(hw:wgR w1 (fmA x)<=N):∀r∈x.b_,wgR w1 r<=N:=fun r hr=>by rw[uk,azf h2]at hw;exact azp (It (List.mem_map_of_mem hr)) hw
section
variable{x x1:GFm}{k:Nat}
theorem ans{L:List (List GLit)}(hk:k<x.b_.length)(he:x.b_[k]=fmA x1)(hL:L=((x.b_.take k).map exR).flatten):L++exR (fmA x1)=((x.b_.take (k+1)).map exR).flatten:=by grind[azj,List.flatten_append,List.map_singleton]
variable(hx:FitFm x)(h2:¬x.c_=2)(h0:¬iq (fmA x)=0)(h:iq (fmA x)<=256)
include hx h2 h0 h
theorem avm{L:List (List GLit)}(h1:x.c_=1)(hk:k<x.b_.length)(he:x.b_[k]=fmA x1)(hL:L=((x.b_.take k).map exR).flatten):L.length+(exR (fmA x1)).length<=256:=by have g:=Sk hx h2 h0 h (fun r hr=>Bb r (hx.b_.2 r hr)) h1 (k+1) (by omega);rw[<-ans hk he hL,azb]at g;have hs:=F1 (Bk hx.b_.2) ((pi hx h2 h0 h).1 h1) (k+1);rw[<-List.map_take]at hs;omega
theorem as6{L:List (List GLit)}(h1:¬x.c_=1)(hk:k<x.b_.length)(he:x.b_[k]=fmA x1)(hL:L=Fi ((x.b_.take k).map exR)):L.length*(exR (fmA x1)).length<=256/\(exR (fmA x1)).length<=256/\L.length<=256:=by have g:=Kh hx h2 h0 h (fun r hr=>Bb r (hx.b_.2 r hr)) h1 (k+1) (by omega);have hp:=(pi hx h2 h0 h).2 h1;have hs:=Gg (Bk hx.b_.2) hp.1 hp.2 (k+1);rw[<-List.map_take]at hs;have e3:(Fi ((x.b_.take (k+1)).map exR)).length=L.length*(exR (fmA x1)).length:=(by rw[azj hk,azx,List.map_singleton,qz,A7,<-hL,he]);have e:=(Lx (Bk hx.b_.2) hp.1 hp.2 _ (List.mem_map_of_mem (ay7 hk))).1;have e2:=Bb _ (hx.b_.2 _ (ay7 hk)) (sf hx h2 h0 h _ (ay7 hk));rw[he]at e e2;have e4:=sf hx h2 h0 h _ (ay7 hk);rw[he]at e4;have e5:L.length*(exR (fmA x1)).length<=256:=(by rw[<-e3];omega);have e6:L.length*1<=L.length*(exR (fmA x1)).length:=Nat.mul_le_mul_left _ (by omega);exact⟨e5,by omega,by omega⟩
theorem as4{L:List (List GLit)}{N:Nat}(hw:wgR w1 (fmA x)<=N)(hk:k<x.b_.length)(he:x.b_[k]=fmA x1)(hL:L=Fi ((x.b_.take k).map exR)):∀a∈L,∀b∈exR (fmA x1),a.length+b.length<=N:=by intro a ha b hb;rw[hL]at ha;have g1:=Sb (w:=w1) (fun r hr=>Uv w1 r (hx.b_.2 r hr)) (by omega:k<=x.b_.length) a ha;have g2:=Uv w1 _ (hx.b_.2 _ (ay7 hk)) b (by rw[he];exact hb);rw[alo]at g1 g2;rw[uk,azf h2]at hw;have e:(x.b_.map (wgR w1)).sum=((x.b_.take k).map (wgR w1)).sum+((x.b_.drop k).map (wgR w1)).sum:=(by rw[<-List.sum_append,<-azx,List.take_append_drop]);rw[az3 hk,azw,List.sum_cons]at e;omega
end
def crs(F B:List (List GLit))(i j:Nat):List (List GLit):=((F.take i).flatMap fun f=>B.map (f++·))++(if h:i<F.length then(B.take j).map (F[i]++·)else[])
section
variable{F B L:List (List GLit)}{i j:Nat}
def aqp(hi:i<F.length)(hj:j<B.length)(h:L=crs F B i j):L++[F[i]++B[j]]=crs F B i (j+1):=by grind[crs,azj,List.append_assoc]
theorem ajg(hi:i<F.length)(hj:¬j<B.length):crs F B i j=crs F B (i+1) 0:=by grind[crs,az0,azj]
theorem aji(hi:¬i<F.length):crs F B i 0=F.flatMap fun f=>B.map (f++·):=by unfold crs;rw[dif_neg hi,az0 (by omega),List.append_nil]
def ajh(hi:i<F.length)(hj:j<=B.length):(crs F B i j).length<=F.length*B.length:=by unfold crs;rw[dif_pos hi,azb,A7,aze,List.length_take,List.length_take,Nat.min_eq_left (by omega),Nat.min_eq_left hj];have:(i+1)*B.length<=F.length*B.length:=Nat.mul_le_mul_right _ hi;rw[Nat.add_mul]at this;omega
end
def as5{x1:GFm}{L:List (List GLit)}(hk:k<x.b_.length)(he:x.b_[k]=fmA x1)(hL:L=Fi ((x.b_.take k).map exR))(hM:M=crs L (exR (fmA x1)) i 0)(hi:¬i<L.length):M=Fi ((x.b_.take (k+1)).map exR):=by rw[azj hk,azx,List.map_singleton,qz,<-hL,he,hM,aji hi]
def Ub(m:Int)(h:m=0):qe prog 257 [.v (.slice none 0 0),.v (.int .i64 m)] (.v (.slice none 0 0)):=by subst h;intro T w vals hv hT;rw[K4 hv];refine(Any8.slices_Grow_room Tryz.growL none 0 0 0 w (azm _) (by omega) (by omega) (by omega)).mono ?_;rintro e w' ⟨rfl,rfl⟩;exact⟨_,T,rfl,.v _,fun _ h=>h,fun _ h=>.inl h,fun b hb=>hT b hb,Below.refl _ _⟩
theorem Ua{z:Value}(m:Nat)(h0:0<m)(h1:m<=100000)(hs:aj prog 319=some 10)(hz:bp prog 319=some z)(h2:z.cells.size=10)(hb:(prog.info? 319).map (·.bytes)=some B)(hB:B<=1000):ak4 prog 257 [.v (.slice none 0 0),.v (.int .i64 ((m:Nat):Int))] 10:=by
 intro T w vals hv hT
 rw[K4 hv]
 unfold aj at hs
 unfold bp at hz
 cases hi:prog.info? 319 with
 |none=>rw[hi]at hs;cases hs
 |some inf=>
  rw[hi]at hz hs hb
  simp only[az6]at hz
  simp only[az5,aza]at hs hb
  have hmB:(0+m)*inf.bytes<=140737488355328:=by
   rw[hb]
   exact azp (Nat.mul_le_mul (Nat.le_of_eq (Nat.zero_add m)) hB) (by omega)
  refine(Any8.slices_Grow_grow Tryz.growL inf _ hi hz (by omega) none 0 0 m [] w (azm _) (by omega) (by omega) (by omega) (by simp) (fun _=>rfl) (fun a h=>by cases h)).mono ?_
  rintro e w' ⟨rfl,rfl⟩
  have hge:=grownCap_ge w (0+m) 0 319
  have h3:grownCap w (0+m) 0 319<=maxLen:=grownCap_le_maxLen w (0+m) 0 319 (by unfold maxLen;omega)
  refine⟨w.heap.size,0,_,_,319,rfl,?_,azm _,heap_alloc_new w.drew _,h3,?_⟩
  ·exact⟨rfl,rfl,rfl,by simp,fun k hk=>Below.heap_alloc w.drew _ k hk⟩
  ·have e26:(Tryz.growL_ren.t 25)=319:=rfl
   simp only[e26,Array.size_append,size_zeroCells,h2]
   simp
   omega
def ais(x:Int)(m:Nat)(hx:x=((m:Nat):Int))(h0:0<m)(h1:m<=100000)(hs:aj prog 319=some 10){z:Value}(hz:bp prog 319=some z)(h2:z.cells.size=10)(hb:(prog.info? 319).map (·.bytes)=some B)(hB:B<=1000):ak4 prog 257 [.v (.slice none 0 0),vI x] 10:=by subst hx;exact Ua m h0 h1 hs hz h2 hb hB
def arn:cw prog 257=true:=by kernel_rfl
def arc:(prog.info? 292).map (·.bytes)=some 24:=by kernel_rfl
def ajz:(prog.info? 319).map (·.bytes)=some 104:=by kernel_rfl
def N3:aj prog 292=some 1:=by kernel_rfl
def F0:aj prog 319=some 10:=by kernel_rfl
def Nz:bp prog 292=some (.slice none 0 0):=by kernel_rfl
def Ny:bp prog 319=some (.agg #[.int .i64 0,.int .i64 0,.int .i64 0,.int .i64 0,.slice none 0 0,.int .i64 0,.int .i64 0,.bool false,.string ⟨#[]⟩,.bool false]):=by kernel_rfl
def Vf(a b:List GLit)(hp:0<a.length+b.length)(hl:a.length+b.length<=100000):PRet prog 218 [.tree 1 (([a,b]).map (fun l=>[.tree 10 (l.map lyA)]))] (fun q=>q=.tree 10 ((a++b).map lyA)):=by have e0:([a,b][0]).length=a.length:=rfl;have e1:([a,b][1]).length=b.length:=rfl;refine ovT [24,33] [] func218 rfl rfl (LenG.of (eu (ULp.step (cT (IdxG.of (j:=0) (by simp) (LenG.of ⟨by omega,cB (fun h0=>by exfalso;have h:=azi h0;omega) (fun h0=>⟨by omega,ULp.step (cT (IdxG.of (j:=1) (by simp) (LenG.of ⟨by omega,cB (fun h0=>by exfalso;have h:=azi h0;omega) (fun h0=>⟨by omega,ULp.step (cF (OpG.nw (Xn 0 arn rfl (ais _ (a.length+b.length) (by simp) hp hl F0 Ny rfl ajz (by omega))) rfl (LenG.of (eu (ULp.step (cT (IdxG.of (j:=0) (by simp) (OpG.mk _ _ _ 1 (mo I3 (l:=[]) (l':=a) underlying292 F0 Ny ajz rfl rfl rfl rfl (by simp only[azv];omega) (by simp only[azv];omega) (by unfold TV;omega)) rfl rfl ⟨by omega,ULp.step (cT (IdxG.of (j:=1) (by simp) (OpG.mk _ _ _ 1 (mo I3 (l:=[]++a) (l':=b) underlying292 F0 Ny ajz rfl rfl rfl rfl (by simp only[azb,azv];omega) (by simp only[azb,azv];omega) (by unfold TV;omega)) rfl rfl ⟨by omega,ULp.step (cF (rtA rfl ⟨[0],fg I3 (azc.2 rfl) rfl⟩ ?_))⟩)))⟩))))))))⟩)⟩)))⟩)⟩))))));simp
def Vg(a b:List GLit)(ha:a=[])(hb:b=[]):PRet prog 218 [.tree 1 (([a,b]).map (fun l=>[.tree 10 (l.map lyA)]))] (fun q=>q=.tree 10 []):=by subst ha;subst hb;have e0:([([]:List GLit),[]][0]).length=0:=rfl;have e1:([([]:List GLit),[]][1]).length=0:=rfl;refine ovT [33] [] func218 rfl rfl (LenG.of (eu (ULp.step (cT (IdxG.of (j:=0) (by simp) (LenG.of ⟨by omega,cB (fun h0=>by exfalso;have h:=azi h0;simp at h) (fun h0=>⟨by omega,ULp.step (cT (IdxG.of (j:=1) (by simp) (LenG.of ⟨by omega,cB (fun h0=>by exfalso;have h:=azi h0;simp at h) (fun h0=>⟨by omega,ULp.step (cF (ArgG.mk (PRet.of_call (Ub _ (by rfl))) rfl ?_))⟩)⟩)))⟩)⟩))))));rintro _ rfl;exact LenG.of (eu (ULp.step (cT (IdxG.of (j:=0) (by simp) (OpG.lk (Bq underlying292 F0 rfl (nk (f:=lyA) (l:=[]) rfl) rfl) ⟨by omega,ULp.step (cT (IdxG.of (j:=1) (by simp) (OpG.lk (Bq underlying292 F0 rfl (nk (f:=lyA) (l:=[]) rfl) rfl) ⟨by omega,ULp.step (cF (rtA rfl ⟨[],FzP.nil (n:=10)⟩ rfl))⟩)))⟩)))))
def Ve(a b:List GLit)(hl:a.length+b.length<=100000):PRet prog 218 [.tree 1 ([a,b].map Gz)] (fun q=>q=.tree 10 ((a++b).map lyA)):=by by_cases h:0<a.length+b.length;exact Vf a b h hl;have ha:a=[]:=az1 (by omega);have hb:b=[]:=az1 (by omega);subst ha;subst hb;exact Vg [] [] rfl rfl
def aae(x:GFm)(hx:FitFm x)(vs:List PVar)(ht:FmK vs (fmA x))(hf:iq (fmA x)<=256)(hw:wgR w1 (fmA x)<=100000)(ih:∀r∈x.b_,FmK vs r->iq r<=256->wgR w1 r<=100000->PRet prog 190 [.agg (rwA r)] (fun q=>q=.tree 1 ((exR r).map Gz))):PRet prog 190 [.agg (fmA x)] (fun q=>q=.tree 1 ((exR (fmA x)).map Gz)):=by have hfl:=Ui ht;refine ovT [29,33,34,38,39,52,55,80] [31] func190 rfl rfl ?_;refine ArgG.mk (M5 (fmA x) (yk hx)) rfl ?_;rintro _ rfl;apply cB<;>intro hg;have h1:=hg;simp at h1;refine rtA rfl ⟨[],FzP.nil (n:=1)⟩ ?_;exact congrArg (AV.tree 1) (ex_0 h1);have h1:=hg;simp at h1;apply cB<;>intro hh;have h3:=hh;simp at h3;apply cB<;>intro hi;have h8:=hi;simp at h8;refine OpG.nw (cm (de underlying292 F0 Ny rfl rfl rfl rfl) (fun η' h=>ba (f:=lyA) (l:=([⟨x.e_,false⟩]:List GLit)) (azc.2 rfl) h rfl rfl rfl rfl rfl (fun a _=>⟨rfl,rfl⟩))) rfl ?_;refine OpG.nw (cm (de underlying292 F0 Ny rfl rfl rfl rfl) (fun η' h=>ba (f:=lyA) (l:=([⟨x.e_,true⟩]:List GLit)) (azc.2 rfl) h rfl rfl rfl rfl rfl (fun a _=>⟨rfl,rfl⟩))) rfl ?_;refine OpG.nw (cm (de underlying290 N3 Nz rfl rfl rfl rfl) (fun η' h=>ba (f:=Gz) (l:=[([⟨x.e_,false⟩]:List GLit),([⟨x.e_,true⟩]:List GLit)]) (azc.2 rfl) h rfl rfl rfl rfl rfl (fun a _=>⟨rfl,rfl⟩))) rfl ?_;refine rtA rfl ⟨[],FzP.pure rfl⟩ ?_;exact congrArg (fun L=>AV.tree 1 (L.map Gz)) (ex_4 h1 h3 h8);have h8:=hi;simp at h8;refine OpG.nw (cm (de underlying292 F0 Ny rfl rfl rfl rfl) (fun η' h=>ba (f:=lyA) (l:=([⟨x.e_,false⟩]:List GLit)) (azc.2 rfl) h rfl rfl rfl rfl rfl (fun a _=>⟨rfl,rfl⟩))) rfl ?_;refine OpG.nw (cm (de underlying290 N3 Nz rfl rfl rfl rfl) (fun η' h=>ba (f:=Gz) (l:=[([⟨x.e_,false⟩]:List GLit)]) (azc.2 rfl) h rfl rfl rfl rfl rfl (fun a _=>⟨rfl,rfl⟩))) rfl ?_;refine rtA rfl ⟨[],FzP.pure rfl⟩ ?_;exact congrArg (fun L=>AV.tree 1 (L.map Gz)) (ex_2 h1 h3 h8);have h3:=hh;simp at h3;apply cB<;>intro hj;have h9:=hj;simp at h9;refine LenG.of (LpG.via (fun _ h=>bl 3 1 rfl 2 rfl h) ?_);refine LpG.on (fun k1:KW (List GLit)=>(⟨fL [(3,.sl 1 k1.v 0 k1.L.length),(43,.tree 11 (x.b_.map rwA)),(44,vI x.b_.length),(45,vI k1.k)],hLz [(1,⟨k1.v,rF (fun l=>[.tree 10 (l.map lyA)]) k1.L,1,Nat.beq k1.L.length 0⟩)],2⟩:St)) (fun k1=>(x.b_.length-k1.k)) (fun k1=>(k1.k<=x.b_.length/\(k1.L=((x.b_.take k1.k).map exR).flatten/\k1.v<=k1.k))) (⟨0,[],0⟩:KW (List GLit)) (cnS (by rfl) (hpS (ab j3 _ _) (by rfl) trivial)) ⟨azk _,⟨rfl,azm _⟩⟩ ?_;rintro k1 h4;have hgr_k1:x.b_.length<=140737488355328:=hx.b_.1;obtain⟨hle_k1,h5⟩:=h4;apply cB<;>intro hk;have h6:k1.k<x.b_.length:=Int.ofNat_lt.1 (azi hk);obtain⟨x1,h0,hu⟩:=(hx.b_.2 _ (ay7 h6)).open_;have hd:fmA x1∈x.b_:=h0▸ay7 h6;have hc:¬x.c_=2:=‹_›;have hv:=avm hx hc h1 hf ‹_› h6 h0 h5.1;have hvv:=h5.2;refine cb (j:=k1.k) ‹_› h0 (ArgG.mk (ih (fmA x1) hd ((zc ht).2.2 hc _ hd) (sf hx hc h1 hf _ hd) (ab4 hc hw _ hd)) rfl ?_);rintro _ rfl;refine OpG.mk _ _ _ 3 (d4 Ln (l:=k1.L) (l':=(exR (fmA x1))) underlying290 N3 Nz arc rfl rfl rfl rfl (by omega) (by omega) (by unfold TV;omega)) rfl rfl ?_;refine⟨by omega,?_⟩;refine⟨(⟨k1.k+1,k1.L++(exR (fmA x1)),vbX k1.v (k1.L++(exR (fmA x1))).length⟩:KW (List GLit)),(nsA ‹_›),(cnS (by rfl) (hpS (ab j3 _ _) (by rfl) trivial)),?_⟩;refine⟨‹_›,?_⟩;exact⟨ans h6 h0 h5.1,show vbX _ _<=k1.k+1 from azp xp.2 (by omega)⟩;have hl:¬k1.k<x.b_.length:=fun h=>azh hk (Int.ofNat_lt.2 h);refine rtA rfl ⟨[1],FzP.rows Ln (azc.2 rfl) rfl⟩ ?_;exact congrArg (fun L=>AV.tree 1 (L.map Gz)) (ex_1 h1 h3 h9 hl h5.1);have h9:=hj;simp at h9;refine OpG.nw (cm (de underlying290 N3 Nz rfl rfl rfl rfl) (fun η' h=>aiu (azc.2 rfl) h)) rfl ?_;refine LenG.of (LpG.on (fun k3:KL (List GLit)=>(⟨fL [(6,.tree 1 (k3.L.map (fun l=>[.tree 10 (l.map lyA)]))),(57,.tree 11 (x.b_.map rwA)),(58,vI x.b_.length),(59,vI k3.k)],hLz [],2⟩:St)) (fun k3=>(x.b_.length-k3.k)) (fun k3=>(k3.k<=x.b_.length/\(k3.L=Fi ((x.b_.take k3.k).map exR)))) (⟨0,[[]]⟩:KL (List GLit)) (cnR rfl) ⟨azk _,rfl⟩ ?_);rintro k3 h4;have hgr_k3:x.b_.length<=140737488355328:=hx.b_.1;obtain⟨hle_k3,h7⟩:=h4;apply cB<;>intro hm;have h2:k3.k<x.b_.length:=Int.ofNat_lt.1 (azi hm);obtain⟨x1,h0,hu⟩:=(hx.b_.2 _ (ay7 h2)).open_;have hd:fmA x1∈x.b_:=h0▸ay7 h2;have hc:¬x.c_=2:=‹_›;have hv:=as6 hx hc h1 hf ‹_› h2 h0 h7;have hy:=as4 hx hc h1 hf hw h2 h0 h7;refine cb (j:=k3.k) ‹_› h0 (ArgG.mk (ih (fmA x1) hd ((zc ht).2.2 hc _ hd) (sf hx hc h1 hf _ hd) (ab4 hc hw _ hd)) rfl ?_);rintro _ rfl;refine LenG.of (LpG.via (fun _ h=>bl 9 1 rfl 4 rfl h) ?_);refine LpG.on (fun k5:KL (List GLit)=>(⟨fL [(9,.sl 3 k5.L.length 0 k5.L.length),(10,.tree 1 (((exR (fmA x1))).map (fun l=>[.tree 10 (l.map lyA)]))),(57,.tree 11 (x.b_.map rwA)),(58,vI x.b_.length),(59,vI k3.k),(65,.tree 1 (k3.L.map (fun l=>[.tree 10 (l.map lyA)]))),(66,vI k3.L.length),(67,vI k5.k)],hLz [(3,⟨k5.L.length,rF (fun l=>[.tree 10 (l.map lyA)]) k5.L,1,Nat.beq k5.L.length 0⟩)],4⟩:St)) (fun k5=>(k3.L.length-k5.k)) (fun k5=>(k5.k<=k3.L.length/\(k5.L=crs k3.L (exR (fmA x1)) k5.k 0))) (⟨0,[]⟩:KL (List GLit)) (cnS (by rfl) (hpS (ab j3 _ _) (by rfl) trivial)) ⟨azk _,(by unfold crs;simp)⟩ ?_;rintro k5 h4;obtain⟨hle_k5,he⟩:=h4;apply cB<;>intro hn;have ha:k5.k<k3.L.length:=Int.ofNat_lt.1 (azi hn);skip;refine IdxG.of ‹_› (LenG.of ?_);refine LpG.on (fun k7:KL (List GLit)=>(⟨fL [(9,.sl 3 k7.L.length 0 k7.L.length),(10,.tree 1 (((exR (fmA x1))).map (fun l=>[.tree 10 (l.map lyA)]))),(12,.tree 10 ((k3.L[k5.k]).map lyA)),(57,.tree 11 (x.b_.map rwA)),(58,vI x.b_.length),(59,vI k3.k),(65,.tree 1 (k3.L.map (fun l=>[.tree 10 (l.map lyA)]))),(66,vI k3.L.length),(67,vI k5.k),(71,.tree 1 (((exR (fmA x1))).map (fun l=>[.tree 10 (l.map lyA)]))),(72,vI ((((exR (fmA x1))).length:Nat):Int)),(73,vI k7.k)],hLz [(3,⟨k7.L.length,rF (fun l=>[.tree 10 (l.map lyA)]) k7.L,1,Nat.beq k7.L.length 0⟩)],4⟩:St)) (fun k7=>((exR (fmA x1)).length-k7.k)) (fun k7=>(k7.k<=(exR (fmA x1)).length/\(k7.L=crs k3.L (exR (fmA x1)) k5.k k7.k))) (⟨0,k5.L⟩:KL (List GLit)) (cnS (by rfl) (hpS (ab j3 _ _) (by rfl) trivial)) ⟨azk _,he⟩ ?_;rintro k7 h4;obtain⟨hle_k7,hb⟩:=h4;apply cB<;>intro ho;have hp:k7.k<((exR (fmA x1))).length:=Int.ofNat_lt.1 (azi ho);have hz:=ajh (F:=k3.L) (B:=(exR (fmA x1))) (i:=k5.k) (j:=k7.k) ha (by omega);rw[<-hb]at hz;refine IdxG.of ‹_› (OpG.nw (cm (de underlying290 N3 Nz rfl rfl rfl rfl) (fun η' h=>ba (f:=Gz) (l:=[k3.L[k5.k],(exR (fmA x1))[k7.k]]) (azc.2 rfl) h rfl rfl rfl rfl rfl (fun a _=>⟨rfl,rfl⟩))) rfl ?_);refine ArgG.mk (Ve k3.L[k5.k] (exR (fmA x1))[k7.k] (hy _ (ay7 _) _ (ay7 _))) rfl ?_;rintro _ rfl;refine OpG.mk _ _ _ 6 (ah j3 (a:=(k3.L[k5.k]++(exR (fmA x1))[k7.k])) underlying290 N3 Nz arc rfl rfl rfl (am rfl rfl rfl rfl) rfl (by omega) (by omega) (by unfold TV;omega)) rfl rfl ?_;refine⟨by omega,?_⟩;refine⟨(⟨k7.k+1,k7.L++[(k3.L[k5.k]++(exR (fmA x1))[k7.k])]⟩:KL (List GLit)),(by show(exR (fmA x1)).length-(k7.k+1)<(exR (fmA x1)).length-k7.k;omega),(cO (.cons (by(rw[azb];rfl)) rfl (.cons rfl rfl (.cons rfl rfl (.cons rfl rfl (.cons rfl rfl (.cons rfl rfl (.cons rfl rfl (.cons rfl rfl (.cons rfl rfl (.cons rfl rfl (.cons rfl rfl (.cons rfl rfl .nil)))))))))))) (.cons (by(rw[azb];rfl)) rfl (ab j3 _ _) .nil)),?_⟩;refine⟨‹_›,?_⟩;exact aqp ha hp hb;have hq:¬k7.k<((exR (fmA x1))).length:=fun h=>azh ho (Int.ofNat_lt.2 h);refine⟨by omega,?_⟩;refine⟨(⟨k5.k+1,k7.L⟩:KL (List GLit)),(nsA ‹_›),(cnS (by rfl) (hpS (ab j3 _ _) (by rfl) trivial)),?_⟩;refine⟨‹_›,?_⟩;show k7.L=_;rw[hb,ajg ha hq];have hr:¬k5.k<k3.L.length:=fun h=>azh hn (Int.ofNat_lt.2 h);refine RegG.via (fun _ h=>bc [3] 9 (.tree 1 (k5.L.map (fun l=>[.tree 10 (l.map lyA)]))) (FzP.rows j3 (azc.2 rfl) rfl) rfl h) ?_;refine ay ?_;refine⟨by omega,?_⟩;refine⟨(⟨k3.k+1,k5.L⟩:KL (List GLit)),(nsA ‹_›),(cnR rfl),?_⟩;refine⟨‹_›,?_⟩;exact as5 h2 h0 h7 he hr;have hs:¬k3.k<x.b_.length:=fun h=>azh hm (Int.ofNat_lt.2 h);refine rtA rfl ⟨[],FzP.pure rfl⟩ ?_;exact congrArg (fun L=>AV.tree 1 (L.map Gz)) (ex_p h1 h3 h9 hs h7)
def aaf(vs:List PVar)(r:List AV)(hr:IsFm r):FmK vs r->iq r<=256->wgR w1 r<=100000->PRet prog 190 [.agg (rwA r)] (fun q=>q=.tree 1 ((exR r).map Gz)):=IsFm.ind (M:=fun r=>FmK vs r->iq r<=256->wgR w1 r<=100000->PRet prog 190 [.agg (rwA r)] (fun q=>q=.tree 1 ((exR r).map Gz))) (fun x hx ih hk hc hw=>aae x hx vs hk hc hw ih) hr
def Yx:RowF iA 1:=⟨fun _=>rfl,fun _=>rfl,fun _ _=>rfl,fun _ _=>rfl,fun _ _=>rfl,fun _=>rfl⟩
def Ro:RowF cfA 2:=⟨fun _=>rfl,fun _=>rfl,fun _ _=>rfl,fun _ _=>rfl,fun _ _=>rfl,fun _=>rfl⟩
def aan{f:α->List AV}{q:Nat}(h:RowF f q){m:List (Nat×Nat)}{v:Nat}{l:List α}{n:Bool}(e:gOf m i=k):ju m [(i,some ⟨v,rF f l,q,n⟩)]=[(k,some ⟨v,rF f l,q,n⟩)]:=by simp only[ju,azw,List.map_nil,e,az5,n8 h]
def vkS(es:List (Int×Int))(S:List Nat):List Int:=(S.filter fun i=>!((es.getD i (0,0)).2==0)).map fun i=>(es.getD i (0,0)).1
def at6(hj:j<es.length)(h:¬es[j].2=0):vkS es (S++[j])=vkS es S++[es[j].1]:=by unfold vkS;rw[List.filter_append,azx];simp[List.getD,hj,h]
def at7(hj:j<es.length)(h:es[j].2=0):vkS es (S++[j])=vkS es S:=by unfold vkS;rw[List.filter_append,azx];simp[List.getD,hj,h]
def alq :(vkS es S).length<=S.length:=by unfold vkS;rw[aze];exact List.length_filter_le _ _
def L9{n:Nat}(h0:S.Nodup)(h1:∀i∈S,i<n):S.length<=n:=by have h:=List.Nodup.length_le_of_subset (l₂:=List.range n) h0 (fun i hi=>List.mem_range.2 (h1 i hi));simpa using h
def Zh{n:Nat}(h0:S.Nodup)(h1:∀i∈S,i<n)(hj:j<n)(h2:¬j∈S):S.length<n:=by have h:=L9 (S:=j::S) (n:=n) (List.nodup_cons.2 ⟨h2,h0⟩) (fun i hi=>by rcases azz.1 hi with rfl|h;exact hj;exact h1 i h);simp only[azu]at h;omega
def eg(es:List (Int×Int)):List Int:=(es.filter fun p=>!(p.2==0)).map (·.1)
theorem Of :(List.range es.length).map (fun i=>es.getD i (0,0))=es:=by apply List.ext_getElem;simp;intro i h1 h2;simp[List.getD,h2]
def afl(h3:S.Nodup)(h4:∀i∈S,i<es.length)(h0:∀j,j<es.length->j∈S):(vkS es S).Perm (eg es):=by
 have h1:S.Perm (List.range es.length):=(List.perm_ext_iff_of_nodup h3 List.nodup_range).2 fun i=>⟨fun h=>List.mem_range.2 (h4 i h),fun h=>h0 i (List.mem_range.1 h)⟩
 have h2:vkS es (List.range es.length)=eg es:=by
  unfold vkS eg
  conv=>rhs;rw[<-Of (es:=es)]
  rw[List.filter_map,List.map_map]
  rfl
 rw[<-h2]
 exact(h1.filter _).map _
def Yp{l m:List Int}(h:l.Perm m):srt l=srt m:=by grind[List.Perm.eq_of_pairwise,List.pairwise_mergeSort,List.mergeSort_perm]
def ml(es:List (Int×Int))(v:Int):Int:=((es.find? fun p=>p.1==v).map (·.2)).getD 0
def B4(es:List (Int×Int)):List PCoef:=(srt (eg es)).map fun v=>⟨v,ml es v⟩
theorem Tk(h:v∈srt (eg es)):∃(j:Nat) (hj:j<es.length),es[j].1=v/\(∀i (hi:i<es.length),i<j->es[i].1≠v)/\ml es v=es[j].2:=by
 have h1:v∈eg es:=(List.mergeSort_perm _ _).mem_iff.1 h
 obtain⟨p,hp,rfl⟩:=azy.1 h1
 have h0:=(List.mem_filter.1 hp).1
 cases hf:es.find? (fun q=>q.1==p.1)with
 |none=>exact absurd h0 (fun hm=>by have:=List.find?_eq_none.1 hf p hm;simp at this)
 |some q=>
  obtain⟨hq,j,hj,he,hi⟩:=List.find?_eq_some_iff_getElem.1 hf
  refine⟨j,hj,by rw[he];simpa using hq,fun i hi' h2=>by simpa using hi i h2,?_⟩
  unfold ml
  rw[hf,<-he];rfl
def Mo :(eg es).length<=es.length:=by unfold eg;rw[aze];exact List.length_filter_le _ _
theorem mGet(hj:j<es.length):(mEs 0 es)[j]'(by rw[qb];exact hj)=(.int .i64 es[j].1,vI (es[j].2),j):=by rw[tr,Nat.zero_add]
theorem awd :∀e∈mEs 0 es,∃q,e.1=.int .i64 q:=fun e he=>by obtain⟨j,hj,rfl⟩:=D6 he;exact⟨_,rfl⟩
theorem ah8(h:∀i (hi:i<es.length),i<j->es[i].1≠v):∀i (hi:i<(mEs 0 es).length),i<j->(mEs 0 es)[i].1≠.int .i64 v:=by grind[tr,qb]
def apv{η:bm}{id v:Nat}{l:List Int}(h0:id∈fp)(hb:η id=some ⟨v,rF iA (srt l),1,Nat.beq l.length 0⟩):FzP fp η (.sl id v 0 l.length) (isA (srt l)):=by have:=FzP.rows (η:=η) Yx (l:=srt l) (v:=v) h0 (by rw[fq];exact hb);rwa [fq]at this
def Kn{η:bm}{g:Option (Nat×Bool)}{kt et id ver z clock:Nat}{x i:Operand}{z0:Value}(ht:P.underlying t=some (.map kt et))(hk:P.underlying kt=some (.int .i64))(hz:bp P et=some z0)(hm:aev τ x=.mp id ver)(hkey:aev τ i=vI v)(hb:η id=some (cj ver z clock (mEs 0 es)))(hv:v∈srt (eg es)):
 LOp P ⟨d,.lookup t x i false,ty,pos,af,g⟩ τ η [id] [] (vI (ml es v)):=by grind[Tk,Ps,qb,awd,mGet,ah8]
def ard:(prog.info? 196).map (·.bytes)=some 16:=by kernel_rfl
def avk:i9 prog 196=some [(0,1),(1,1)]:=by kernel_rfl
def ajm(es:List (Int×Int))(v z:Nat)(hl:es.length<=1000000):jy prog 266 [.mp TOP v] [(TOP,cj v z es.length (mEs 0 es))] [(TOP,some (cj v z es.length (mEs 0 es)))] (csA (B4 es)):=by
 refine jy.of_body func266 rfl ntmps266 (azo rfl) (wS (wR (oL (lA (a:=.v _) rfl) rfl rfl (oN (aN (wS (wR (oL (lA (a:=.v _) rfl) rfl rfl (oN (aN (wS (wS (wR (oL (lM (a:=.mp _ _) rfl) rfl rfl (Ff (Pp 0 underlying364 rfl rfl rfl) rfl rfl 1 rfl rfl (oN (aN (wB (bl 3 1 rfl 2 rfl (wL (fun n s=>∃S:List Nat,n=(es.length-S.length)/\s=⟨fL [(0,.mp TOP v),(3,.sl 1 (vkS es S).length 0 (vkS es S).length),(10,.it 0 0)],hLz [(0,di 0 0 (.mp TOP v) es.length S es.length),(1,⟨(vkS es S).length,rF iA (vkS es S),1,Nat.beq (vkS es S).length 0⟩),(TOP,cj v z es.length (mEs 0 es))],2⟩/\(S.Nodup/\∀i∈S,i<es.length)) (n:=(es.length-([]:List Nat).length)) (s1:=⟨fL [(0,.mp TOP v),(3,.sl 1 (vkS es ([]:List Nat)).length 0 (vkS es ([]:List Nat)).length),(10,.it 0 0)],hLz [(0,di 0 0 (.mp TOP v) es.length ([]:List Nat) es.length),(1,⟨(vkS es ([]:List Nat)).length,rF iA (vkS es ([]:List Nat)),1,Nat.beq (vkS es ([]:List Nat)).length 0⟩),(TOP,cj v z es.length (mEs 0 es))],2⟩) (cnS (by rfl) (hpS (Ao rfl) rfl (hpS (ab Yx _ _) (by rfl) (hpS (j5 _ _ _) rfl trivial)))) ⟨([]:List Nat),rfl,rfl,List.nodup_nil,fun _ h=>by cases h⟩ ?_))))))))))))))))))));rintro n s ⟨S,rfl,rfl,h1⟩;obtain⟨h4,h5⟩:=h1;have hSl:S.length<=es.length:=L9 h4 h5
 have hvl:(vkS es S).length<=S.length:=alq;refine wS (wR (Fm.next rfl rfl rfl rfl rfl rfl (fun e he=>by obtain⟨j,hj,rfl⟩:=D6 he;show 0+j<es.length;omega) (by cases es with|nil=>exact .inr (.inl rfl)|cons a r=>exact .inr (.inr ⟨_,List.mem_cons_self ..,by simp⟩)) (fun h6=>?_) (fun e he hh=>?_)));skip;have hd:∀j,j<es.length->j∈S:=fun j hj=>by have:=h6 _ (ao5 (i:=0) hj);simpa using this
 refine oL (LOp.extract rfl rfl) rfl rfl (oN (aN (wS (Ih rfl (AWP.exit (aE (aE (bEz (aN (wS (wR (oL (lM (a:=.sl _ _ _ _) rfl) rfl rfl (Ff (bg [(TOP,1)] v8 (ux (vkS es S) (vkS es S).length (by omega)) rfl rfl rfl rfl ⟨ig Yx,trivial⟩ ⟨d5 Yx,trivial⟩ ⟨c9 Yx _ _,trivial⟩ rfl rfl rfl rfl (aan Yx rfl) rfl) rfl rfl 2 rfl rfl (oN (aN (wS (wR (oL (lA (a:=.v _) rfl) rfl rfl (oN (aN (wS (wS (wR (oL (lM (a:=.sl _ _ _ _) rfl) rfl rfl (oL (we rfl underlying53 rfl rfl rfl) rfl rfl (oL (lM (a:=.v _) rfl) rfl rfl (oN (aN (wB (have h7:=Yp (afl h4 h5 hd);have h8:(vkS es S).length=(srt (eg es)).length:=(by rw[<-h7,fq]);bc [1] 24 (isA (srt (vkS es S))) (apv (azc.2 rfl) rfl) rfl (bl 6 2 rfl 3 rfl (wL (fun n s=>∃k2:Nat,n=((srt (eg es)).length-k2)/\s=⟨fL [(0,.mp TOP v),(6,.sl 2 k2 0 (((srt (eg es)).take k2).map fun v=>(⟨v,ml es v⟩:PCoef)).length),(24,isA (srt (eg es))),(25,vI (((srt (eg es)).length:Nat):Int)),(26,vI k2)],hLz [(2,⟨k2,rF cfA (((srt (eg es)).take k2).map fun v=>(⟨v,ml es v⟩:PCoef)),2,Nat.beq (((srt (eg es)).take k2).map fun v=>(⟨v,ml es v⟩:PCoef)).length 0⟩),(TOP,cj v z es.length (mEs 0 es))],3⟩/\(k2<=(srt (eg es)).length/\∀j,j<k2->(fun _=>true) j=true)) (n:=((srt (eg es)).length-0)) (s1:=⟨fL [(0,.mp TOP v),(6,.sl 2 0 0 (((srt (eg es)).take 0).map fun v=>(⟨v,ml es v⟩:PCoef)).length),(24,isA (srt (eg es))),(25,vI (((srt (eg es)).length:Nat):Int)),(26,vI 0)],hLz [(2,⟨0,rF cfA (((srt (eg es)).take 0).map fun v=>(⟨v,ml es v⟩:PCoef)),2,Nat.beq (((srt (eg es)).take 0).map fun v=>(⟨v,ml es v⟩:PCoef)).length 0⟩),(TOP,cj v z es.length (mEs 0 es))],3⟩) (cO (.cons rfl rfl (.cons (by rfl) rfl (.cons (by(rw[<-h7];rfl)) rfl (.cons (by exact at8 (by rw[h8])) rfl (.cons rfl rfl .nil))))) (.cons (by rfl) rfl (ab Ro _ _) (.cons rfl rfl (j5 _ _ _) .nil))) ⟨0,rfl,rfl,⟨azk _,fun j h=>absurd h (azl j)⟩⟩ ?_))))))))))))))))))))))))))))))));rintro n s ⟨k2,rfl,rfl,h1⟩;obtain⟨hk,hj⟩:=h1;have hcl:((srt (eg es)).take k2).length<=k2:=by rw[List.length_take];omega
 have hkl:(srt (eg es)).length<=1000000:=by rw[fq];exact azp Mo hl
 refine wS (wR (oL (lP rfl (fun _ _=>nofun) (fun _=>rfl)) rfl rfl (oN (aN (wS (wC rfl (fun h2=>?_) (fun h2=>?_)))))));skip;have h9:k2<(srt (eg es)).length:=Int.ofNat_lt.1 (azi h2)
 have hf:(srt (eg es))[k2]∈srt (eg es):=ay7 h9;have h0:(((srt (eg es)).take (k2+1)).map fun v=>(⟨v,ml es v⟩:PCoef))=(((srt (eg es)).take k2).map fun v=>(⟨v,ml es v⟩:PCoef))++[⟨(srt (eg es))[k2],ml es (srt (eg es))[k2]⟩]:=by rw[azj h9,azx];rfl
 refine wK (aN (wS (wB (wS (wR (oL (lI underlying53 sz3 rfl rfl (by first|assumption|omega)) rfl rfl (oL (lE row3 rfl rfl) rfl rfl (oL (lA (a:=.v _) rfl) rfl rfl (oN (aN (wR (oL (lM (a:=.sl _ _ _ _) rfl) rfl rfl (oL (lM (a:=.v _) rfl) rfl rfl (oL (lM (a:=.mp _ _) rfl) rfl rfl (oL (lM (a:=.v _) rfl) rfl rfl (oL (Kn underlying364 underlying3 zr2 rfl rfl rfl hf) rfl rfl (oL (LOp.bd Qa avk rfl rfl) rfl rfl (oW (de underlying183 Yh Qa rfl rfl rfl rfl) rfl rfl 4 rfl (Ff (ah Ro (a:=⟨(srt (eg es))[k2],ml es (srt (eg es))[k2]⟩) underlying183 Yh Qa ard rfl rfl rfl (am rfl rfl rfl rfl) rfl (by rw[aze];omega) (by rw[aze];omega) (by unfold TV;omega)) rfl rfl 4 rfl rfl (oL (lA (a:=.sl _ _ _ _) rfl) rfl rfl (oN (bNz (aN (wR (oL (lJ rfl rfl (by omega) (by omega)) rfl rfl (oL (lM (a:=.v _) rfl) rfl rfl (oN (aN ⟨((srt (eg es)).length-(k2+1)),⟨fL [(0,.mp TOP v),(6,.sl 2 (k2+1) 0 (((srt (eg es)).take (k2+1)).map fun v=>(⟨v,ml es v⟩:PCoef)).length),(24,isA (srt (eg es))),(25,vI (((srt (eg es)).length:Nat):Int)),(26,vI (((k2+1):Nat):Int))],hLz [(2,⟨(k2+1),rF cfA (((srt (eg es)).take (k2+1)).map fun v=>(⟨v,ml es v⟩:PCoef)),2,Nat.beq (((srt (eg es)).take (k2+1)).map fun v=>(⟨v,ml es v⟩:PCoef)).length 0⟩),(TOP,cj v z es.length (mEs 0 es))],3⟩,by omega,(cO (.cons rfl rfl (.cons (by(rw[h0,azb];rfl)) rfl (.cons (by rfl) rfl (.cons (by rfl) rfl (.cons rfl rfl .nil))))) (.cons (by(rw[h0,azb];rfl)) rfl (ab Ro _ _) (.cons rfl rfl (j5 _ _ _) .nil))),(k2+1),rfl,rfl,⟨by omega,fun j h=>?_⟩⟩))))))))))))))))))))))))))));rcases azn.1 h with h|rfl;exact hj j h;rfl;skip;have hge:¬k2<(srt (eg es)).length:=fun h=>azh h2 (Int.ofNat_lt.2 h)
 have hm:(((srt (eg es)).take k2).map fun v=>(⟨v,ml es v⟩:PCoef))=B4 es:=by unfold B4;rw[az0 (by omega)]
 exact AWP.exit (aE (aE (bEz (aN (wS (wR (oL (lM (a:=.sl _ _ _ _) rfl) rfl rfl (oL (lA (a:=.sl _ _ _ _) rfl) rfl rfl (oN (aN (wT (⟨.inr rfl,Pn.of [2] (cy rfl (.cons (ay3.tmp rfl) .nil)) rfl ⟨.same rfl (by decide),trivial⟩ (.fz (by rw[<-hm];exact FzP.rows Ro (azc.2 rfl) rfl))⟩))))))))))));skip;obtain⟨j,hj,rfl⟩:=D6 he;rw[Nat.zero_add]at *;have hg:¬j∈S:=by simpa using hh
 have hSl2:S.length<es.length:=Zh h4 h5 hj hg;refine oL (LOp.extract rfl rfl) rfl rfl (oN (aN (wS (Ig rfl (wK (aN (wB (wS (wR (oL (Px rfl rfl rfl hj) rfl rfl (oL (LOp.extract rfl rfl) rfl rfl (oL (LOp.extract rfl rfl) rfl rfl (oL (lA (a:=.v _) rfl) rfl rfl (oL (lA (a:=.v _) rfl) rfl rfl (oN (aN (wS (wR (oL (lM (a:=.v _) rfl) rfl rfl (oL (lP rfl (fun _ _=>nofun) (fun _=>rfl)) rfl rfl (oN (aN (wC rfl (fun h3=>?_) (fun h3=>?_))))))))))))))))))))))));skip;have hz:¬es[j].2=0:=by simpa using h3
 have hc:=at6 (S:=S) hj hz;refine wR (oL (lM (a:=.sl _ _ _ _) rfl) rfl rfl (oL (lM (a:=.v _) rfl) rfl rfl (oW (de underlying53 sz3 zr3 rfl rfl rfl rfl) rfl rfl 3 rfl (Ff (ah Yx (a:=es[j].1) underlying53 sz3 zr3 by3 rfl rfl rfl (am rfl rfl rfl rfl) rfl (by omega) (by omega) (by unfold TV;omega)) rfl rfl 3 rfl rfl (oL (lA (a:=.sl _ _ _ _) rfl) rfl rfl (oN (bNz (aN ⟨(es.length-(S++[j]).length),⟨fL [(0,.mp TOP v),(3,.sl 1 (vkS es (S++[j])).length 0 (vkS es (S++[j])).length),(10,.it 0 0)],hLz [(0,di 0 0 (.mp TOP v) es.length (S++[j]) es.length),(1,⟨(vkS es (S++[j])).length,rF iA (vkS es (S++[j])),1,Nat.beq (vkS es (S++[j])).length 0⟩),(TOP,cj v z es.length (mEs 0 es))],2⟩,(by rw[azb];simp only[List.length_singleton];omega),(cO (.cons rfl rfl (.cons (by(rw[hc,azb];rfl)) rfl (.cons rfl rfl .nil))) (.cons rfl rfl (Ao rfl) (.cons (by(rw[hc,azb];rfl)) rfl (ab Yx _ _) (.cons rfl rfl (j5 _ _ _) .nil)))),(S++[j]),rfl,rfl,⟨by rw[List.nodup_append];exact⟨h4,by simp,fun a ha b hb=>by simp at hb;subst hb;exact fun e=>hg (e▸ha)⟩,fun i hi=>?_⟩⟩))))))));rcases azd.1 hi with h|h;exact h5 i h;simp at h;subst h;exact hj;skip;have hz:es[j].2=0:=by simpa using h3
 have hc:=at7 (S:=S) hj hz;refine wK (bNz (aN ⟨(es.length-(S++[j]).length),⟨fL [(0,.mp TOP v),(3,.sl 1 (vkS es (S++[j])).length 0 (vkS es (S++[j])).length),(10,.it 0 0)],hLz [(0,di 0 0 (.mp TOP v) es.length (S++[j]) es.length),(1,⟨(vkS es (S++[j])).length,rF iA (vkS es (S++[j])),1,Nat.beq (vkS es (S++[j])).length 0⟩),(TOP,cj v z es.length (mEs 0 es))],2⟩,(by rw[azb];simp only[List.length_singleton];omega),(cO (.cons rfl rfl (.cons (by(rw[hc];rfl)) rfl (.cons rfl rfl .nil))) (.cons rfl rfl (Ao rfl) (.cons (by(rw[hc];rfl)) rfl (ab Yx _ _) (.cons rfl rfl (j5 _ _ _) .nil)))),(S++[j]),rfl,rfl,⟨by rw[List.nodup_append];exact⟨h4,by simp,fun a ha b hb=>by simp at hb;subst hb;exact fun e=>hg (e▸ha)⟩,fun i hi=>?_⟩⟩));rcases azd.1 hi with h|h;exact h5 i h;simp at h;subst h;exact hj
def vw(vs:List Int)(ps:List GPart):List (Int×Int):=vs.zip (ps.map (·.i_))
theorem sc(h:vs.length=ps.length):(vw vs ps).map (·.1)=vs:=List.map_fst_zip (by simp[h])
theorem oe(h:vs.length=ps.length):(vw vs ps).length=ps.length:=by simp[vw,h]
theorem ud(h:vs.length=ps.length)(hi:i<ps.length):(vw vs ps)[i]'(by rw[oe h];exact hi)=(vs[i]'(by omega),ps[i].i_):=by simp[vw]
theorem y8(h:∀p∈es,p.2≠0):eg es=es.map (·.1):=by unfold eg;rw[List.filter_eq_self.2 fun p hp=>by simpa using h p hp]
theorem Tl(hn:(es.map (·.1)).Nodup){p:Int×Int}(hp:p∈es):ml es p.1=p.2:=by
 unfold ml
 have:es.find? (fun q=>q.1==p.1)=some p:=by
  induction es with
  |nil=>cases hp
  |cons a r ih=>
   rw[azw,List.nodup_cons]at hn
   rcases azz.1 hp with rfl|h0
   ·simp
   ·have:a.1≠p.1:=fun e=>hn.1 (e▸List.mem_map_of_mem h0)
    rw[List.find?_cons_of_neg (by simpa using this)]
    exact ih hn.2 h0
 rw[this];rfl
def Bj(hz:∀p∈es,p.2≠0)(hn:(es.map (·.1)).Nodup):(B4 es).Perm (es.map fun p=>⟨p.1,p.2⟩):=by
 unfold B4;rw[y8 hz];have h:=(List.mergeSort_perm (es.map (·.1)) (fun a b=>decide (a<=b))).map (fun v=>(⟨v,ml es v⟩:PCoef))
 refine h.trans ?_;rw[List.map_map];have e:es.map ((fun v=>(⟨v,ml es v⟩:PCoef))∘(·.1))=es.map fun p=>⟨p.1,p.2⟩:=List.map_congr_left fun p hp=>by simp only[Function.comp,Tl hn hp]
 rw[e]
theorem Bi(es:List (Int×Int)):(B4 es).map (·.v)=srt (eg es):=by unfold B4;rw[List.map_map];exact List.map_id _
def Vo{es':List (Int×Int)}(hz:∀p∈es,p.2≠0)(h0:∀p∈es',p.2≠0)(h:B4 es=B4 es'):(es.map (·.1)).Perm (es'.map (·.1)):=by have e:=congrArg (List.map PCoef.v) h;rw[Bi,Bi,y8 hz,y8 h0]at e;exact((List.mergeSort_perm (es.map (·.1)) (fun a b=>decide (a<=b))).symm.trans (by show(srt (es.map (·.1))).Perm _;rw[e])).trans (List.mergeSort_perm _ _)
def Vp(hz:∀p∈es,p.2≠0)(hn:(es.map (·.1)).Nodup):((B4 es).map (·.v)).Pairwise (·<·):=by rw[Bi,y8 hz];have h0:(srt (es.map (·.1))).Nodup:=(List.mergeSort_perm _ _).nodup_iff.2 hn;exact(amn.and h0).imp fun h=>by omega
def yo(v:Int):PAux:=⟨⟨0,[]⟩,0,v⟩
def P7(n:Int)(L:List PAux)(p:GPart)(v:Int)(g:PLin):Prop:=
 (p.c_=0->v=p.p_)/\(p.c_=1->∃j:Nat,L[j]? =some (yo p.p_)/\v=n+((j:Nat):Int))/\(p.c_=2->∃j:Nat,L[j]? =some ⟨g,p.by_,0⟩/\v=n+((j:Nat):Int))
def wj:PLin:=⟨0,[]⟩
inductive RepT(n:Int)(L:List PAux):List AV->PLin->Prop
 |mk (x:GTm) (vs:List Int) (gs:List PLin) (hv:vs.length=x.a_.length) (hg:gs.length=x.a_.length)
  (hr:∀i (h:i<x.a_.length),P7 n L x.a_[i] (vs.getD i 0) (gs.getD i wj))
  (ho:∀i (h:i<x.a_.length),x.a_[i].c_=2->∀r∈x.a_[i].of_,RepT n L r (gs.getD i wj)) :
  RepT n L (tmA x) ⟨x.f_,B4 (vw vs x.a_)⟩
theorem mt{x:GTm}(h:RepT n L (tmA x) f):∃vs:List Int,∃gs:List PLin,vs.length=x.a_.length/\gs.length=x.a_.length/\(∀i (h:i<x.a_.length),P7 n L x.a_[i] (vs.getD i 0) (gs.getD i wj))/\
 (∀i (h:i<x.a_.length),x.a_[i].c_=2->∀r∈x.a_[i].of_,RepT n L r (gs.getD i wj))/\f=⟨x.f_,B4 (vw vs x.a_)⟩:=by
 generalize e:tmA x=r at h
 cases h with
 |mk y vs gs hv hg hr ho=>rw[Qz e];exact⟨vs,gs,hv,hg,hr,ho,rfl⟩
theorem ag7{L M:List α}(h:L<+:M){x:α}(e:L[j]? =some x):M[j]? =some x:=by obtain⟨z,rfl⟩:=h;obtain⟨hj,e⟩:=az2.1 e;rw[List.getElem?_append_left hj,ay8 hj,e]
def P7.mono{M:List PAux}{g:PLin}(hLM:L<+:M)(h:P7 n L p v g):P7 n M p v g:=by grind[P7,ag7]
theorem RepT.mono{M:List PAux}(h0:L<+:M)(h:RepT n L r f):RepT n M r f:=by
 induction h with
 |mk x vs gs hv hg hr ho ih=>exact .mk x vs gs hv hg (fun i hi=>(hr i hi).mono h0) ih
def Uc(h:Ow p q)(hc:p.i_=q.i_):p=q:=by obtain⟨a,b,c,d,e⟩:=p;obtain⟨a',b',c',d',e'⟩:=q;obtain⟨h1,h2,h3,h4⟩:=h;simp only at h1 h2 h3 h4 hc;subst h1 h2 h3 h4 hc;rfl
theorem Ow.cd(h:Ow p q):cdP p=cdP q:=by unfold cdP;rw[h.1,h.2.1,h.2.2.1,h.2.2.2]
def alh(l:List PVar)(n:Int)(L:List PAux)(r:List AV):Prop:=∀r' f,IsTm r'->TmV l r'->RepT n L r f->RepT n L r' f->r=r'
section
variable{l:List PVar}{n:Int}{L:List PAux}
def Tt{g g':PLin}(hn:n=((l.length:Nat):Int))(hp:FitPart p)(hq:FitPart q)(vp:PtV l p)(vq:PtV l q)(rp:P7 n L p v g)(rq:P7 n L q v g')(sp:p.c_=2->∀r∈p.of_,RepT n L r g)(sq:q.c_=2->∀r∈q.of_,RepT n L r g')(ih:∀r∈p.of_,alh l n L r):Ow p q:=by
 have h0:=hp.kd;have h1:=hq.kd
 have col:∀{p:GPart},PtV l p->p.c_=0->p.p_<n:=fun{p} h e=>by obtain⟨j,hj,e1,_⟩:=h.1 e;rw[e1,hn];exact Int.ofNat_lt.2 hj
 have k3:p.c_=0\/p.c_=1\/p.c_=2:=by have:=h0.1;omega
 have k4:q.c_=0\/q.c_=1\/q.c_=2:=by have:=h1.1;omega
 have b0:∀{p q:GPart},PtV l p->PtV l q->p.c_≠2->q.c_≠2->p.by_=q.by_:=fun vp vq h h'=>by rw[vp.2.2.2.1 h,vq.2.2.2.1 h']
 rcases k3 with k3|k3|k3;have e1:=rp.1 k3
 have c1:=col vp k3;rcases k4 with k4|k4|k4;have e2:=rq.1 k4
 exact⟨by omega,by omega,b0 vp vq (by omega) (by omega),by rw[h0.2.2 (by omega),h1.2.2 (by omega)]⟩;obtain⟨j,_,e2⟩:=rq.2.1 k4;omega;obtain⟨j,_,e2⟩:=rq.2.2 k4;omega;obtain⟨i,a1,e1⟩:=rp.2.1 k3;rcases k4 with k4|k4|k4;have e2:=rq.1 k4
 have:=col vq k4;omega;obtain⟨j,a2,e2⟩:=rq.2.1 k4;obtain rfl:i=j:=by omega
 rw[a1]at a2;have e3:p.p_=q.p_:=congrArg PAux.tx (Option.some.inj a2)
 exact⟨by omega,e3,b0 vp vq (by omega) (by omega),by rw[h0.2.2 (by omega),h1.2.2 (by omega)]⟩;obtain⟨j,a2,e2⟩:=rq.2.2 k4;obtain rfl:i=j:=by omega
 rw[a1]at a2;have e3:(0:Int)=q.by_:=congrArg PAux.by_ (Option.some.inj a2)
 have:=(h1.2.1 k4).2.1;omega;obtain⟨i,a1,e1⟩:=rp.2.2 k3;rcases k4 with k4|k4|k4;have e2:=rq.1 k4
 have:=col vq k4;omega;obtain⟨j,a2,e2⟩:=rq.2.1 k4;obtain rfl:i=j:=by omega
 rw[a1]at a2;have e3:p.by_=(0:Int):=congrArg PAux.by_ (Option.some.inj a2)
 have:=(h0.2.1 k3).2.1;omega;obtain⟨j,a2,e2⟩:=rq.2.2 k4;obtain rfl:i=j:=by omega
 rw[a1]at a2;have e3:p.by_=q.by_:=congrArg PAux.by_ (Option.some.inj a2)
 have e4:g=g':=congrArg PAux.of_ (Option.some.inj a2);obtain⟨o,ho⟩:=az4.1 (h0.2.1 k3).1;obtain⟨o',h2⟩:=az4.1 (h1.2.1 k4).1;have m1:o∈p.of_:=by rw[ho];simp
 have m2:o'∈q.of_:=by rw[h2];simp
 have e5:o=o':=ih o m1 o' g (hq.of_.2 o' m2) (vq.2.2.1 k4 o' m2) (sp k3 o m1) (e4▸sq k4 o' m2);exact⟨by omega,by rw[vp.2.2.2.2 k3,vq.2.2.2.2 k4],e3,by rw[ho,h2,e5]⟩
def amm(hs:Srt ps)(hi:i<ps.length)(hj:j<ps.length)(h:Ow ps[i] ps[j]):i=j:=by rcases Nat.lt_trichotomy i j with g|g|g;have:=List.pairwise_iff_getElem.1 hs.1 i j hi hj g;rw[h.cd,Ar]at this;omega;exact g;have:=List.pairwise_iff_getElem.1 hs.1 j i hj hi g;rw[h.cd,Ar]at this;omega
def agh{a b:List GPart}(ha:Srt a)(hb:Srt b)(h:∀p,p∈a↔p∈b):a=b:=by
 have nd:∀{a:List GPart},Srt a->a.Nodup:=fun ha=>ha.1.imp fun{x y} h e=>by rw[e,Ar]at h;omega
 have hp:a.Perm b:=(List.perm_ext_iff_of_nodup (nd ha) (nd hb)).2 h;exact List.Perm.eq_of_pairwise (le:=fun p q=>lx (cdP p) (cdP q)<0) (fun p q _ _ h1 h2=>by have:=Jn (cdP p) (cdP q);omega) ha.1 hb.1 hp
def C3{x:GTm}(hx:FitTm x):∀p∈vw vs x.a_,p.2≠0:=fun p hp=>by obtain⟨q,hq,e⟩:=azy.1 (List.of_mem_zip hp).2;rw[<-e];exact hx.srt.2 q hq
def Rr{x:GTm}(hn:n=((l.length:Nat):Int))(hx:FitTm x)(hv:TmV l (tmA x))(hk:k<=x.a_.length)(hvs:vs.length=k)
 (hr:∀i (h:i<x.a_.length),i<k->P7 n L x.a_[i] (vs.getD i 0) (gs.getD i wj))(ho:∀i (h:i<x.a_.length),i<k->x.a_[i].c_=2->∀r∈x.a_[i].of_,RepT n L r (gs.getD i wj))(ih:∀p∈x.a_,∀r∈p.of_,alh l n L r):vs.Nodup:=by
 refine List.pairwise_iff_getElem.2 fun i j hi hj hij e=>?_
 have e1:vs.getD i 0=vs[i]:=by simp[hi]
 have e2:vs.getD j 0=vs[j]:=by simp[hj]
 have r1:=hr i (by omega) (by omega)
 have r2:=hr j (by omega) (by omega)
 rw[e1]at r1
 rw[e2,<-e]at r2
 have h0:=tmV.1 hv
 have:=amm hx.srt _ _ (Tt hn (hx.a_.2 _ (ay7 (by omega))) (hx.a_.2 _ (ay7 (by omega))) (h0 _ (ay7 _)) (h0 _ (ay7 _)) r1 r2 (ho i (by omega) (by omega)) (ho j (by omega) (by omega)) (ih _ (ay7 _)))
 omega
def agz(hn:n=((l.length:Nat):Int))(hr:IsTm r):TmV l r->alh l n L r:=
 IsTm.ind (M:=fun r=>TmV l r->alh l n L r) (fun x hx ih h3 r' f h7 h0 h1 h2=>by
  obtain⟨y,rfl,hy⟩:=h7.open_;have h4:=tmV.1 h3
  have h8:=tmV.1 h0
  have ihx:∀p∈x.a_,∀r∈p.of_,alh l n L r:=fun p hp r hr=>by
   by_cases k2:p.c_=2;exact ih p hp r hr ((h4 p hp).2.2.1 k2 r hr);rw[(hx.a_.2 p hp).kd.2.2 k2]at hr;simp at hr
  obtain⟨vs,gs,l1,l2,a1,a2,rfl⟩:=mt h1;obtain⟨ws,hs,m1,m2,b1,b2,e⟩:=mt h2;have ec:x.f_=y.f_:=congrArg PLin.k e
  have ef:B4 (vw vs x.a_)=B4 (vw ws y.a_):=congrArg PLin.cs e;have h5:vs.Nodup:=Rr hn hx h3 (azm _) l1 (fun i h _=>a1 i h) (fun i h _=>a2 i h) ihx
  have h6:=Vo (C3 hx) (C3 hy) ef;rw[sc l1,sc m1]at h6;have h9:ws.Nodup:=h6.nodup_iff.1 h5
  have hP:(vw vs x.a_).Perm (vw ws y.a_):=by have p1:=Bj (C3 (vs:=vs) hx) (by rw[sc l1];exact h5);have p2:=Bj (C3 (vs:=ws) hy) (by rw[sc m1];exact h9);rw[ef]at p1;have p3:=(p1.symm.trans p2).map fun c:PCoef=>(c.v,c.n);rw[List.map_map,List.map_map]at p3;have ha:((fun c:PCoef=>(c.v,c.n))∘fun p:Int×Int=>(⟨p.1,p.2⟩:PCoef))=id:=rfl;rwa [ha,List.map_id,List.map_id]at p3
  have both:∀i (hi:i<x.a_.length) j (hj:j<y.a_.length),(vs.getD i 0=ws.getD j 0)->x.a_[i].i_=y.a_[j].i_->x.a_[i]=y.a_[j]:=fun i hi j hj e1 e2=>
   Uc (Tt hn (hx.a_.2 _ (ay7 hi)) (hy.a_.2 _ (ay7 hj)) (h4 _ (ay7 hi)) (h8 _ (ay7 hj)) (e1▸a1 i hi) (b1 j hj) (a2 i hi) (b2 j hj) (ihx _ (ay7 hi))) e2
  have key:∀i (hi:i<x.a_.length),∃j,∃hj:j<y.a_.length,x.a_[i]=y.a_[j]:=fun i hi=>by have hm:(vw vs x.a_)[i]'(by rw[oe l1];exact hi)∈vw ws y.a_:=hP.mem_iff.1 (ay7 _);obtain⟨j,hj,e2⟩:=azs hm;rw[oe m1]at hj;rw[ud l1 hi,ud m1 hj]at e2;have e3:=(Prod.mk.inj e2);refine⟨j,hj,both i hi j hj ?_ e3.2.symm⟩;simp only[List.getD_eq_getElem?_getD];rw[ay8 (by omega),ay8 (by omega)];simp only[Option.getD_some];exact e3.1.symm
  have key2:∀j (hj:j<y.a_.length),∃i,∃hi:i<x.a_.length,x.a_[i]=y.a_[j]:=fun j hj=>by have hm:(vw ws y.a_)[j]'(by rw[oe m1];exact hj)∈vw vs x.a_:=hP.mem_iff.2 (ay7 _);obtain⟨i,hi,e2⟩:=azs hm;rw[oe l1]at hi;rw[ud l1 hi,ud m1 hj]at e2;have e3:=(Prod.mk.inj e2);refine⟨i,hi,both i hi j hj ?_ e3.2⟩;simp only[List.getD_eq_getElem?_getD];rw[ay8 (by omega),ay8 (by omega)];simp only[Option.getD_some];exact e3.1
  have ep:x.a_=y.a_:=agh hx.srt hy.srt fun p=>by
   constructor;intro hp;obtain⟨i,hi,rfl⟩:=azs hp;obtain⟨j,hj,e⟩:=key i hi;rw[e];exact ay7 hj;intro hp;obtain⟨j,hj,rfl⟩:=azs hp;obtain⟨i,hi,e⟩:=key2 j hj;rw[<-e];exact ay7 hi
  obtain⟨c,ps⟩:=x;obtain⟨c',ps'⟩:=y;simp only at ec ep;rw[ec,ep]) hr
end
theorem aak(a b c d:Int)(w:World):(Op.equalIn 10000 196 (.agg #[.int .i64 a,.int .i64 b]) (.agg #[.int .i64 c,.int .i64 d])).run prog w=.ok (a==c&&b==d) w:=by rw[run_equalIn_agg w 9999 196 _ _ (show prog.underlying 196=some (.struct (prog.fieldsOf 196))by kernel_rfl) (by kernel_rfl)];simp only[Program.fieldsOf,underlying196];simp[Op.eqFields,part,run_equalIn_int _ 9998 3 _ _ _ _ underlying3,run_equalIn_int _ 9998 2 _ _ _ _ underlying2,T5]
theorem egCf:prog.eqGuardType prog.depth 196=false:=by kernel_rfl
def abu{η:bm}{dd:Option Tmp}{g:Option (Nat×Bool)}{x:Operand}{a b d:Int}(hx:aev τ x=.agg [vI a,vI b])(hy:aev τ y=.agg [vI c,vI d]):
 LOp prog ⟨dd,.binOp .neq 196 x y t',ty,pos,af,g⟩ τ η [] [] (vB (!(a==c&&b==d))):=
 .look [] fun C a' _ hq _=>by have e1:=hq x (by simp[Op.operands]);have e2:=hq y (by simp[Op.operands]);rw[hx]at e1;rw[hy]at e2;have f1:=wt (y:=.agg #[.int .i64 a,.int .i64 b]) e1 rfl;have f2:=wt (y:=.agg #[.int .i64 c,.int .i64 d]) e2 rfl;refine⟨_,?_,VR.v C _⟩;simp only[execOp,f1,f2,Sem.run_bind,run_eqGuard_agg C.w .neq 196 x y _ _ egCf,azq,run_neq_struct,aak,azr]
def axq{x y:PCoef}(h:(!(x.v==y.v&&x.n==y.n))=false):x=y:=by obtain⟨a,b⟩:=x;obtain⟨c,d⟩:=y;simp at h;rw[h.1,h.2]
def axo{x y:PCoef}(h:(!(x.v==y.v&&x.n==y.n))=true):¬x=y:=fun e=>by subst e;simp at h
structure KBl where
 n:Int
 U:List Int
 N:List Int
 v:Nat
 A:List PAux
 I:List PCon
 T:List PTest
 S:List (Int×Int)
 D:List (Int×Int)
variable{b b':KBl}
theorem bh:RowF paA 2:=⟨fun _=>rfl,fun _=>rfl,fun _ _=>rfl,fun _ _=>rfl,fun _ _=>rfl,fun _=>rfl⟩
theorem da:RowF axA 4:=⟨fun _=>rfl,fun _=>rfl,fun _ _=>rfl,fun _ _=>rfl,fun _ _=>rfl,fun _=>rfl⟩
abbrev kB(b:KBl):Blk:=⟨0,[.v (.int .i64 b.n),.sl 1000001 b.U.length 0 b.U.length,.sl 1000002 b.v 0 b.N.length,.sl 1000003 b.A.length 0 b.A.length,.sl 1000004 b.I.length 0 b.I.length,.sl 1000005 b.T.length 0 b.T.length,.sl 1000006 b.S.length 0 b.S.length,.sl 1000007 b.D.length 0 b.D.length],0,false⟩
abbrev b1(b:KBl):Blk:=⟨b.U.length,rF iA b.U,1,Nat.beq b.U.length 0⟩
abbrev b2(b:KBl):Blk:=⟨b.v,rF iA b.N,1,Nat.beq b.N.length 0⟩
abbrev b3(b:KBl):Blk:=⟨b.A.length,rF axA b.A,4,Nat.beq b.A.length 0⟩
abbrev b4(b:KBl):Blk:=⟨b.I.length,rF cnA b.I,3,Nat.beq b.I.length 0⟩
abbrev b5(b:KBl):Blk:=⟨b.T.length,rF teA b.T,4,Nat.beq b.T.length 0⟩
abbrev b6(b:KBl):Blk:=⟨b.S.length,rF paA b.S,2,Nat.beq b.S.length 0⟩
abbrev b7(b:KBl):Blk:=⟨b.D.length,rF paA b.D,2,Nat.beq b.D.length 0⟩
section
variable{P:Program}{τ:Nat->AV}{η:bm}{d:Option Tmp}{ty:TypeId}{pos:String}{af:Array Edge}{g:Option (Nat×Bool)}{α:Type}{f:α->List AV}{q:Nat}{L:List α}{k:Nat}
def E7(hf:RowF f q){e n:Nat}{x:Operand}{id ver:Nat}(he:P.underlying t=some (.slice e))(hs:aj P e=some q)(hx:aev τ x=.sl id ver 0 n)(hi:aev τ y=vI v)(hv:v=((k:Nat):Int))(hj:k<n)(hb:η id=some ⟨ver,rF f L,q,Nat.beq L.length 0⟩)(hk:k<L.length):
 LOp P ⟨d,.indexAddr t x y,ty,pos,af,g⟩ τ η [id] [] (.ptr id ver (k*q)):=dy hf he hs hx hi hv hj (L:=L) (by rw[hb,kg (by omega)])
def Ib(hf:RowF f q){x:Operand}{id ver:Nat}(ht:ey P t=some (some q))(hx:aev τ x=.ptr id ver (k*q))(hb:η id=some ⟨ver,rF f L,q,Nat.beq L.length 0⟩)(hk:k<L.length):
 LOp P ⟨d,.load t x,ty,pos,af,g⟩ τ η [id] [] (.agg (f L[k])):=uh hf ht hx (by rw[hb,kg (by omega)]) hk
end
section
variable{b:KBl}{x:PAux}
def svA3:some (⟨b.A.length+1,rF axA (b.A++[x]),4,Nat.beq (b.A++[x]).length 0⟩:Blk)=some (b3 {b with A:=b.A++[x]}):=by rw[show b.A.length+1=(b.A++[x]).length by simp]
def svA0:some (⟨0,[vI b.n,.sl 1000001 b.U.length 0 b.U.length,.sl 1000002 b.v 0 b.N.length,.sl 1000003 (b.A.length+1) 0 (b.A++[x]).length,.sl 1000004 b.I.length 0 b.I.length,.sl 1000005 b.T.length 0 b.T.length,.sl 1000006 b.S.length 0 b.S.length,.sl 1000007 b.D.length 0 b.D.length],0,false⟩:Blk)=some (kB {b with A:=b.A++[x]}):=by rw[show b.A.length+1=(b.A++[x]).length by simp]
end
open Classical in
noncomputable def axI(L:List PAux)(x:PAux):List PAux:=if x∈L then L else L++[x]
def Ke{x:PAux}:L<+:axI L x:=by unfold axI;split;exact List.prefix_rfl;exact List.prefix_append _ _
def ae5{x:PAux}:(axI L x).length<=L.length+1:=by unfold axI;split<;>simp
theorem asn{x:PAux}(h:L[k]? =some x):axI L x=L:=azg (List.mem_of_getElem? h)
theorem asm{x:PAux}(hk:¬k<L.length)(h:∀j,∀hl:j<L.length,j<k->¬L[j]=x):axI L x=L++[x]:=by grind[axI,azs]
def ayd{x y:PAux}(h1:x.by_=y.by_)(h2:x.tx=y.tx)(h3:x.of_.k=y.of_.k)(h4:x.of_.cs=y.of_.cs):x=y:=by obtain⟨⟨a,b⟩,c,d⟩:=x;obtain⟨⟨a',b'⟩,c',d'⟩:=y;simp only at h1 h2 h3 h4;subst h1 h2 h3 h4;rfl
def axt:(prog.info? 242).map (·.bytes)=some 48:=by kernel_rfl
def am8:ey prog 242=some (some 4):=by kernel_rfl
def amd:aj prog 242=some 4:=by kernel_rfl
def alj:bp prog 242=some (.agg #[.int .i64 0,.slice none 0 0,.int .i64 0,.int .i64 0]):=by kernel_rfl
def aaj(a:List PCoef)(ha:bq a (fun y=>True))(b:List PCoef)(hb:bq b (fun y=>True)):PRet prog 333 [.tree 2 (a.map cfA),.tree 2 (b.map cfA)] (fun r=>∃v:Bool,r=vB v/\(v=true↔a=b)):=by refine ovT [24] [] func333 rfl rfl ?_;refine LenG.of (LenG.of ?_);apply cB<;>intro h0;have h4:=h0;simp at h4;refine rV rfl rfl ?_;refine⟨_,rfl,fun h=>absurd h az7,fun h=>?_⟩;subst h;simp at h0;have h4:=h0;simp at h4;have h7:a.length=b.length:=(by have h:=h0;simp at h;omega);refine LenG.of (LpG.on (fun k0:Nat=>(⟨fL [(0,.tree 2 (a.map cfA)),(1,.tree 2 (b.map cfA)),(12,vI a.length),(13,vI k0)],hLz [],0⟩:St)) (fun k0=>(a.length-k0)) (fun k0=>(k0<=a.length/\∀j (hl:j<a.length),j<k0->∀h2:j<b.length,a[j]=b[j])) 0 (cnR rfl) ⟨azk _,fun j _ h=>absurd h (azl j)⟩ ?_);rintro k0 h6;have hgr_k0:a.length<=140737488355328:=ha.1;obtain⟨hle_k0,h3⟩:=h6;apply cL<;>intro hlt14;refine IdxG.of ‹_› (IdxG.of (by omega) ?_);refine OpG.lk (abu rfl rfl) ?_;refine⟨by kernel_rfl,?_⟩;apply cB<;>intro h5;exact rV rfl rfl ⟨_,rfl,fun h=>absurd h az7,fun h=>by subst h;exact absurd rfl (axo h5)⟩;refine⟨by omega,?_⟩;refine⟨(k0+1),by omega,(cnR rfl),?_⟩;refine⟨by omega,fun j hl h=>?_⟩;rcases azn.1 h with h|rfl;exact h3 j hl h;exact fun _=>axq h5;exact rV rfl rfl ⟨_,rfl,fun _=>List.ext_getElem h7 (fun i h1 h2=>h3 i h1 (by omega) h2),fun _=>rfl⟩
def ae9(x:PAux)(b:KBl)(hbn:0<=b.n/\b.n<=1000)(hbA:b.A.length<=1000000000)(he:bq x.of_.cs (fun _=>True))(hf:∀y∈b.A,bq y.of_.cs (fun _=>True)):aby prog 306 [.ptr 1000000 0 0,.agg (axA x)] [(1000000,kB b),(1000001,b1 b),(1000002,b2 b),(1000003,b3 b),(1000004,b4 b),(1000005,b5 b),(1000006,b6 b),(1000007,b7 b)] [(1000000,some (kB {b with A:=axI b.A x})),(1000001,some (b1 {b with A:=axI b.A x})),(1000002,some (b2 {b with A:=axI b.A x})),(1000003,some (b3 {b with A:=axI b.A x})),(1000004,some (b4 {b with A:=axI b.A x})),(1000005,some (b5 {b with A:=axI b.A x})),(1000006,some (b6 {b with A:=axI b.A x})),(1000007,some (b7 {b with A:=axI b.A x}))] (fun q=>∃j:Nat,q=vI (b.n+((j:Nat):Int))/\(axI b.A x)[j]? =some x):=by
 refine aby.of_vc ua [12,16,17,63,76] [] func306 rfl ntmps306 rfl (by kernel_rfl) (OpG.lk (we rfl underlying123 rfl rfl rfl) (LpG.on (fun k0:Nat=>(⟨fL [(0,.ptr 1000000 0 0),(3,.ptr 0 0 0),(11,.sl 1000003 b.A.length 0 b.A.length),(12,vI b.A.length),(13,vI k0)],hLz [(0,⟨0,axA x,0,false⟩),(1000000,kB b),(1000001,b1 b),(1000002,b2 b),(1000003,b3 b),(1000004,b4 b),(1000005,b5 b),(1000006,b6 b),(1000007,b7 b)],1⟩:St)) (fun k0=>(b.A.length-k0)) (fun k0=>(k0<=b.A.length/\∀j (hl:j<b.A.length),j<k0->¬b.A[j]=x)) 0 (cnS rfl (hpR rfl (hpR rfl (hpS (ab ai _ _) rfl (hpS (ab ai _ _) rfl (hpS (ab da _ _) rfl (hpS (ab cg _ _) rfl (hpS (ab cr _ _) rfl (hpS (ab bh _ _) rfl (hpS (ab bh _ _) rfl trivial)))))))))) ⟨azk _,fun j _ h=>absurd h (azl j)⟩ ?_));rintro k0 hb;obtain⟨hle_k0,h0⟩:=hb;apply cB<;>intro h6;have h7:k0<b.A.length:=Int.ofNat_lt.1 (azi h6)
 refine OpG.lk (E7 (k:=k0) da underlying123 amd rfl rfl rfl (by omega) rfl (by omega)) (OpG.lk (Ib (k:=k0) da am8 rfl rfl (by omega)) (cB (fun h2=>?_) (fun h2=>?_)));have h3:(x.by_:Int)=(b.A[k0].by_:Int):=by simpa using h2
 apply cB<;>intro h8;have h4:(x.tx:Int)=(b.A[k0].tx:Int):=by simpa using h8
 apply cB<;>intro h9;have h5:(x.of_.k:Int)=(b.A[k0].of_.k:Int):=by simpa using h9
 refine ArgG.mk (aaj x.of_.cs he b.A[k0].of_.cs (hf _ (ay7 _))) rfl ?_;rintro _ ⟨c0,rfl,hc⟩;refine cB (fun h1=>by have hg:b.A[k0]=x:=(ayd h3 h4 h5 (hc.1 h1)).symm;have hd:b.A[k0]? =some x:=(by rw[ay8 h7,hg]);rw[asn hd];exact⟨by omega,⟨.inr rfl,_,Pn.of [] (cy rfl (.cons (ay3.tmp rfl) .nil)) rfl ⟨.same rfl (by decide),.same rfl (by decide),.same rfl (by decide),.same rfl (by decide),.same rfl (by decide),.same rfl (by decide),.same rfl (by decide),.same rfl (by decide),trivial⟩ .same,⟨k0,rfl,hd⟩⟩⟩) (fun h1=>⟨by omega,⟨(k0+1),by omega,(cnS rfl (hpR rfl (hpR rfl (hpS (ab ai _ _) rfl (hpS (ab ai _ _) rfl (hpS (ab da _ _) rfl (hpS (ab cg _ _) rfl (hpS (ab cr _ _) rfl (hpS (ab bh _ _) rfl (hpS (ab bh _ _) rfl trivial)))))))))),⟨by omega,fun j hl h=>?_⟩⟩⟩);rcases azn.1 h with h|rfl;exact h0 j hl h;exact fun e=>by rw[hc.2 (by rw[e])]at h1;cases h1
 have h5:¬((x.of_.k:Int)=(b.A[k0].of_.k:Int)):=by simpa using h9
 refine cF ⟨by omega,⟨(k0+1),by omega,(cnS rfl (hpR rfl (hpR rfl (hpS (ab ai _ _) rfl (hpS (ab ai _ _) rfl (hpS (ab da _ _) rfl (hpS (ab cg _ _) rfl (hpS (ab cr _ _) rfl (hpS (ab bh _ _) rfl (hpS (ab bh _ _) rfl trivial)))))))))),⟨by omega,fun j hl h=>?_⟩⟩⟩;rcases azn.1 h with h|rfl;exact h0 j hl h;exact fun e=>h5 (by rw[e])
 have h4:¬((x.tx:Int)=(b.A[k0].tx:Int)):=by simpa using h8
 refine cF (cF ⟨by omega,⟨(k0+1),by omega,(cnS rfl (hpR rfl (hpR rfl (hpS (ab ai _ _) rfl (hpS (ab ai _ _) rfl (hpS (ab da _ _) rfl (hpS (ab cg _ _) rfl (hpS (ab cr _ _) rfl (hpS (ab bh _ _) rfl (hpS (ab bh _ _) rfl trivial)))))))))),⟨by omega,fun j hl h=>?_⟩⟩⟩);rcases azn.1 h with h|rfl;exact h0 j hl h;exact fun e=>h4 (by rw[e])
 have h3:¬((x.by_:Int)=(b.A[k0].by_:Int)):=by simpa using h2
 refine cF (cF (cF ⟨by omega,⟨(k0+1),by omega,(cnS rfl (hpR rfl (hpR rfl (hpS (ab ai _ _) rfl (hpS (ab ai _ _) rfl (hpS (ab da _ _) rfl (hpS (ab cg _ _) rfl (hpS (ab cr _ _) rfl (hpS (ab bh _ _) rfl (hpS (ab bh _ _) rfl trivial)))))))))),⟨by omega,fun j hl h=>?_⟩⟩⟩));rcases azn.1 h with h|rfl;exact h0 j hl h;exact fun e=>h3 (by rw[e])
 have ha:¬k0<b.A.length:=fun h=>azh h6 (Int.ofNat_lt.2 h);have hl1:(b.A++[x]).length=b.A.length+1:=by simp
 rw[asm ha h0];exact OpG.mk _ _ _ 2 (ah da (l:=b.A) (a:=x) underlying123 amd alj axt rfl rfl rfl (am rfl rfl rfl rfl) rfl (by omega) (by omega) (by unfold TV;omega)) rfl rfl ⟨by kernel_rfl,OpG.lk (we rfl underlying123 rfl rfl rfl) ⟨by omega,⟨by omega,⟨by kernel_rfl,⟨.inr rfl,_,Pn.of [] (cy rfl (.cons (ay3.tmp rfl) .nil)) rfl ⟨.same svA0 (by decide),.same rfl (by decide),.same rfl (by decide),.same svA3 (by decide),.same rfl (by decide),.same rfl (by decide),.same rfl (by decide),.same rfl (by decide),trivial⟩ .same,⟨b.A.length,congrArg vI (by omega),by simp⟩⟩⟩⟩⟩⟩
mutual
def nxT:List AV->Nat
 | [.v _,.tree _ ps]=>aom ps
 |_=>0
def aom:List (List AV)->Nat
 | []=>0
 |r :: rs=>nxR r+aom rs
def nxR:List AV->Nat
 | [.v _,.v (.int _ k),.v _,.v _,.tree _ os]=>(if k=0 then 0 else 1)+Za os
 |_=>0
def Za:List (List AV)->Nat
 | []=>0
 |r :: rs=>nxT r+Za rs
end
def nxP(p:GPart):Nat:=(if p.c_=0 then 0 else 1)+Za p.of_
theorem L6:∀l:List GPart,aom (l.map ptA)=(l.map nxP).sum
 |[]=>by simp[aom]
 |p::l=>by simp only[azw,aom,L6 l,ptA,nxR,nxP,fk,List.sum_cons]
theorem Cm(x:GTm):nxT (tmA x)=(x.a_.map nxP).sum:=by simp only[tmA,nxT,L6]
theorem Sw(r:List AV):Za [r]=nxT r:=by simp[Za]
structure TmG(l:List PVar)(N:List Int)(r:List AV):Prop where
 tm:IsTm r
 sm:smR r=true
 ln:lnR r=true
 tv:TmV l r
 oc:∀v∈d7 r,v∈N
def TmG.mono{M:List Int}(h:TmG l N r)(hm:∀v∈N,v∈M):TmG l M r:=⟨h.tm,h.sm,h.ln,h.tv,fun v hv=>hm v (h.oc v hv)⟩
theorem TmG.part{x:GTm}(hx:FitTm x)(h:TmG l N (tmA x))(hp:p∈x.a_)(h2:p.c_=2)(hr:r∈p.of_):TmG l N r:=by have hf:=hx.a_.2 p hp;refine⟨hf.of_.2 r hr,hf.sm r hr,hf.ln r hr,(tmV.1 h.tv p hp).2.2.1 h2 r hr,fun v hv=>h.oc v ?_⟩;rw[dj,List.mem_flatMap];refine⟨p,hp,?_⟩;unfold lm;rw[azg h2];obtain⟨o,ho⟩:=az4.1 (hf.kd.2.1 h2).1;rw[ho]at hr ⊢;rw[azc.1 hr]at hv;simpa[ve]using hv
def TmG.var{x:GTm}(h:TmG l N (tmA x))(hp:p∈x.a_)(h2:¬p.c_=2):p.p_∈N:=h.oc _ (by rw[dj,List.mem_flatMap];exact⟨p,hp,by unfold lm;rw[azf h2];simp⟩)
def AxE(l:List PVar)(n:Int)(N:List Int)(M:List PAux)(x:PAux):Prop:=
 (∃v,x=yo v/\TyV l 2 v/\v∈N)\/∃o g b,x=⟨g,b,0⟩/\(1<=b/\b<=1000)/\TmG l N o/\RepT n M o g
def AxW(l:List PVar)(n:Int)(N:List Int)(L:List PAux):Prop:=∀j (h:j<L.length),AxE l n N (L.take j) L[j]
section
variable{l:List PVar}{n:Int}{N:List Int}{L:List PAux}
def ayg:AxW l n N []:=fun j h=>absurd h (azl j)
def abf{M:List Int}{K:List PAux}{x:PAux}(h:AxE l n N K x)(hm:∀v∈N,v∈M):AxE l n M K x:=by rcases h with⟨v,h1,h2,h3⟩|⟨o,g,b,h1,h2,h3,h4⟩;exact .inl ⟨v,h1,h2,hm v h3⟩;exact .inr ⟨o,g,b,h1,h2,h3.mono hm,h4⟩
def si{M:List Int}(h:AxW l n N L)(hm:∀v∈N,v∈M):AxW l n M L:=fun j hj=>abf (h j hj) hm
def aki{x:PAux}(h:AxW l n N L)(hx:AxE l n N L x):AxW l n N (L++[x]):=by grind[AxE,AxW]
def Wz{x:PAux}(h:AxW l n N L)(hx:AxE l n N L x):AxW l n N (axI L x):=by unfold axI;split;exact h;exact aki h hx
theorem p7(hr:lnR r=true)(h:RepT n L r f):f.cs.length<=1000000:=by
 cases h with
 |mk x vs gs hv hg h1 h2=>
  have h3:=(vf x).1 hr
  show(B4 (vw vs x.a_)).length<=_
  unfold B4
  rw[aze,fq]
  have:=Mo (es:=vw vs x.a_)
  rw[oe hv]at this
  omega
def Wy(h:AxW l n N L):∀y∈L,bq y.of_.cs (fun _=>True):=fun y hy=>by obtain⟨j,hj,rfl⟩:=azs hy;refine⟨?_,fun _ _=>trivial⟩;rcases h j hj with⟨v,h1,_⟩|⟨o,g,b,h1,_,h3,h4⟩;rw[h1];simp[yo];rw[h1];exact azp (p7 h3.ln h4) (by decide)
end
structure KFm where
 k:Nat
 A:List PAux
 es:List (Int×Int)
 gs:List PLin
structure FoI(l:List PVar)(n:Int)(N:List Int)(A0:List PAux)(x:GTm)(s:KFm):Prop where
 pre:A0 <+: s.A
 ax:AxW l n N s.A
 le:s.es.length=s.k
 lg:s.gs.length=s.k
 cf:s.es.map (·.2)=(x.a_.take s.k).map (·.i_)
 rp:∀i (h:i<x.a_.length),i<s.k->P7 n s.A x.a_[i] ((s.es.map (·.1)).getD i 0) (s.gs.getD i wj)
 ro:∀i (h:i<x.a_.length),i<s.k->x.a_[i].c_=2->∀r∈x.a_[i].of_,RepT n s.A r (s.gs.getD i wj)
 sz:s.A.length<=A0.length+((x.a_.take s.k).map nxP).sum
section
variable{l:List PVar}{n:Int}{N:List Int}{A0:List PAux}{x:GTm}{s:KFm}
def fo0(h:AxW l n N A0):FoI l n N A0 x ⟨0,A0,[],[]⟩ where
 pre:=List.prefix_rfl
 ax:=h
 le:=rfl
 lg:=rfl
 cf:=rfl
 rp:=fun i _ hi=>absurd hi (azl i)
 ro:=fun i _ hi=>absurd hi (azl i)
 sz:=Nat.le_add_right _ _
def aiy(h:FoI l n N A0 x s)(hk:s.k<x.a_.length){g:PLin}(hp:s.A<+:A')(ha:AxW l n N A')(hv:P7 n A' x.a_[s.k] v g)(ho:x.a_[s.k].c_=2->∀r∈x.a_[s.k].of_,RepT n A' r g)(hs:A'.length<=s.A.length+nxP x.a_[s.k]):
 FoI l n N A0 x ⟨s.k+1,A',s.es++[(v,x.a_[s.k].i_)],s.gs++[g]⟩ where
 pre:=h.pre.trans hp
 ax:=ha
 le:=by show(s.es++[_]).length=s.k+1;rw[azb,h.le];rfl
 lg:=by show(s.gs++[_]).length=s.k+1;rw[azb,h.lg];rfl
 cf:=by show(s.es++[_]).map _=(x.a_.take (s.k+1)).map _;rw[azj hk,azx,azx,h.cf];rfl
 rp:=fun i hi h0=>by show P7 n A' x.a_[i] (((s.es++[(v,x.a_[s.k].i_)]).map (·.1)).getD i 0) ((s.gs++[g]).getD i wj);have h0:i<s.k+1:=h0;by_cases hj:i<s.k;have e1:((s.es++[(v,x.a_[s.k].i_)]).map (·.1)).getD i 0=(s.es.map (·.1)).getD i 0:=(by simp[List.getElem?_append_left (show i<(s.es.map (·.1)).length by rw[aze,h.le];exact hj),azx]);have e2:(s.gs++[g]).getD i wj=s.gs.getD i wj:=(by simp[List.getElem?_append_left (show i<s.gs.length by rw[h.lg];exact hj)]);rw[e1,e2];exact(h.rp i hi hj).mono hp;obtain rfl:i=s.k:=(by omega);have e1:((s.es++[(v,x.a_[s.k].i_)]).map (·.1)).getD s.k 0=v:=(by simp[azx,<-h.le]);have e2:(s.gs++[g]).getD s.k wj=g:=(by simp[<-h.lg]);rw[e1,e2];exact hv
 ro:=fun i hi h0 h2 r hr=>by show RepT n A' r ((s.gs++[g]).getD i wj);have h0:i<s.k+1:=h0;by_cases hj:i<s.k;have e2:(s.gs++[g]).getD i wj=s.gs.getD i wj:=(by simp[List.getElem?_append_left (show i<s.gs.length by rw[h.lg];exact hj)]);rw[e2];exact(h.ro i hi hj h2 r hr).mono hp;obtain rfl:i=s.k:=(by omega);have e2:(s.gs++[g]).getD s.k wj=g:=(by simp[<-h.lg]);rw[e2];exact ho h2 r hr
 sz:=by show A'.length<=A0.length+((x.a_.take (s.k+1)).map nxP).sum;rw[azj hk,azx,List.sum_append];simp only[azw,List.map_nil,List.sum_cons,List.sum_nil];have:=h.sz;omega
def apw(hn:n=((l.length:Nat):Int))(hx:FitTm x)(hv:TmV l (tmA x))(A:List PAux):∀p∈x.a_,∀r∈p.of_,alh l n A r:=fun p hp r hr=>by by_cases h2:p.c_=2;exact agz hn ((hx.a_.2 p hp).of_.2 r hr) ((tmV.1 hv p hp).2.2.1 h2 r hr);rw[(hx.a_.2 p hp).kd.2.2 h2]at hr;simp at hr
def awr(hn:n=((l.length:Nat):Int))(hx:FitTm x)(hv:TmV l (tmA x))(h:FoI l n N A0 x s)(hk:s.k<=x.a_.length):(s.es.map (·.1)).Nodup:=
 Rr hn hx hv hk (by rw[aze,h.le]) (fun i hi h0=>h.rp i hi h0) (fun i hi h0=>h.ro i hi h0) (apw hn hx hv s.A)
def Ug(hn:n=((l.length:Nat):Int))(hx:FitTm x)(hv:TmV l (tmA x)){g:PLin}(h:FoI l n N A0 x ⟨s.k+1,A',s.es++[(v,c)],s.gs++[g]⟩)(hk:s.k<x.a_.length):∀e∈mEs 0 s.es,∃q,e.1=.int .i64 q/\q≠v:=fun e he=>by have h0:=awr hn hx hv h hk;have h0:(s.es.map (·.1)++[v]).Nodup:=(by simpa[azx]using h0);obtain⟨j,hj,rfl⟩:=D6 he;refine⟨_,rfl,fun e=>?_⟩;rw[List.nodup_append]at h0;exact h0.2.2 s.es[j].1 (List.mem_map_of_mem (ay7 hj)) v (by simp) e
def apx(h:FoI l n N A0 x s)(hk:s.k=x.a_.length):RepT n s.A (tmA x) ⟨x.f_,B4 s.es⟩:=by
 have h1:=h.cf;rw[hk,List.take_length]at h1
 have e:vw (s.es.map (·.1)) x.a_=s.es:=by
  unfold vw;rw[<-h1];apply List.ext_getElem;simp;intro i h1 h2;simp
 have:=RepT.mk (n:=n) (L:=s.A) x (s.es.map (·.1)) s.gs (by rw[aze,h.le,hk]) (by rw[h.lg,hk]) (fun i hi=>h.rp i hi (by omega)) (fun i hi=>h.ro i hi (by omega));rwa [e]at this
end
def Jm :some (cj 0 0 (es.length+1) (mEs 0 es++[(.int .i64 v,.v (.int .i64 c),es.length)]))=some (cj 0 0 (es++[(v,c)]).length (mEs 0 (es++[(v,c)]))):=by have:=Ti 0 es (v,c);rw[Nat.zero_add]at this;rw[azb,<-this];rfl
def E9{η:bm}{g:Option (Nat×Bool)}{x:Operand}(hx:aev τ x=vI 0)(hy:aev τ y=vI n)(h1:-9223372036854775808<=n)(h2:n<=9223372036854775807):
 LOp P ⟨d,.binOp .add t x y t',ty,pos,af,g⟩ τ η [] [] (vI n):=by
 have:=lJ (P:=P) (τ:=τ) (η:=η) (d:=d) (ty:=ty) (pos:=pos) (af:=af) (g:=g) (t:=t) (t':=t') hx hy (by omega) (by omega)
 rwa [Int.zero_add]at this
def atr :ju [(1000000,1000000),(1000001,1000001),(1000002,1000002),(1000003,1000003),(1000004,1000004),(1000005,1000005),(1000006,1000006),(1000007,1000007)] [(1000000,some (kB b)),(1000001,some (b1 b)),(1000002,some (b2 b)),(1000003,some (b3 b)),(1000004,some (b4 b)),(1000005,some (b5 b)),(1000006,some (b6 b)),(1000007,some (b7 b))]=[(1000000,some (kB b)),(1000001,some (b1 b)),(1000002,some (b2 b)),(1000003,some (b3 b)),(1000004,some (b4 b)),(1000005,some (b5 b)),(1000006,some (b6 b)),(1000007,some (b7 b))]:=by simp only[ju,azw,List.map_nil,az5,n8 ai,n8 da,n8 cg,n8 cr,n8 bh];rfl
def av6(h:¬p.c_=0):1<=nxP p:=by unfold nxP;rw[azf h];omega
def av5(h:¬p.c_=0)(ho:p.of_=[r]):nxP p=1+nxT r:=by unfold nxP;rw[azf h,ho,Sw]
def av4{x:GTm}(hk:k<x.a_.length):((x.a_.take k).map nxP).sum+nxP x.a_[k]<=nxT (tmA x):=by grind[Cm,nxP,List.take_append_drop,az3]
def aol{x:GTm}(hk:k=x.a_.length):((x.a_.take k).map nxP).sum=nxT (tmA x):=by rw[Cm,hk,List.take_length]
def ak5(l:List PVar)(b:KBl)(r:List AV):Prop:=∃A' f,b.A<+:A'/\AxW l b.n b.N A'/\RepT b.n A' r f/\A'.length<=b.A.length+nxT r/\jy prog 258 [.ptr 1000000 0 0,.agg r] [(1000000,kB b),(1000001,b1 b),(1000002,b2 b),(1000003,b3 b),(1000004,b4 b),(1000005,b5 b),(1000006,b6 b),(1000007,b7 b)] [(1000000,some (kB {b with A:=A'})),(1000001,some (b1 {b with A:=A'})),(1000002,some (b2 {b with A:=A'})),(1000003,some (b3 {b with A:=A'})),(1000004,some (b4 {b with A:=A'})),(1000005,some (b5 {b with A:=A'})),(1000006,some (b6 {b with A:=A'})),(1000007,some (b7 {b with A:=A'}))] (.agg (liA f))
def aek:cw prog 258=true:=by kernel_rfl
def arm:cw prog 266=true:=by kernel_rfl
def aei:cw prog 306=true:=by kernel_rfl
def avi:i9 prog 242=some [(0,2),(2,1),(3,1)]:=by kernel_rfl
def aco:ey prog 185=some (some 2):=by kernel_rfl
def aiv(x:GTm)(hx:FitTm x)(l:List PVar)(b:KBl)(ha:0<=b.n/\b.n<=1000)(hn:b.n=((l.length:Nat):Int))(hm:AxW l b.n b.N b.A)(h4:TmG l b.N (tmA x))(hsz:b.A.length+nxT (tmA x)<=1000000000)(ih:∀p∈x.a_,∀r∈p.of_,∀b:KBl,(0<=b.n/\b.n<=1000)->b.n=((l.length:Nat):Int)->AxW l b.n b.N b.A->TmG l b.N r->b.A.length+nxT r<=1000000000->ak5 l b r):Fa prog 258 [.ptr 1000000 0 0,.agg (tmA x)] [(1000000,kB b),(1000001,b1 b),(1000002,b2 b),(1000003,b3 b),(1000004,b4 b),(1000005,b5 b),(1000006,b6 b),(1000007,b7 b)] (fun q hb'=>∃A' f,q=.agg (liA f)/\hb'=[(1000000,some (kB {b with A:=A'})),(1000001,some (b1 {b with A:=A'})),(1000002,some (b2 {b with A:=A'})),(1000003,some (b3 {b with A:=A'})),(1000004,some (b4 {b with A:=A'})),(1000005,some (b5 {b with A:=A'})),(1000006,some (b6 {b with A:=A'})),(1000007,some (b7 {b with A:=A'}))]/\b.A<+:A'/\AxW l b.n b.N A'/\RepT b.n A' (tmA x) f/\A'.length<=b.A.length+nxT (tmA x)):=by
 have hpl:=(vf x).1 h4.ln
 have hb:=((fb x).1 h4.sm).1.2
 refine Fa.of_vc ua [26,27,36,40,43,46,51] [8,10,11] func258 rfl ntmps258 rfl (by kernel_rfl) (OpG.nw (LOp.makeMap 2) rfl ?_)
 refine LenG.of (LpG.on (fun k0:KFm=>(⟨fL [(0,.ptr 1000000 0 0),(3,.ptr 0 0 0),(4,.ptr 1 0 0),(5,.mp 2 0),(11,.tree 5 (x.a_.map ptA)),(12,vI x.a_.length),(13,vI k0.k)],hLz [(0,⟨0,tmA x,0,false⟩),(1,⟨0,[vI 0,.v (.slice none 0 0)],0,false⟩),(2,cj 0 0 k0.es.length (mEs 0 k0.es)),(1000000,kB {b with A:=k0.A}),(1000001,b1 {b with A:=k0.A}),(1000002,b2 {b with A:=k0.A}),(1000003,b3 {b with A:=k0.A}),(1000004,b4 {b with A:=k0.A}),(1000005,b5 {b with A:=k0.A}),(1000006,b6 {b with A:=k0.A}),(1000007,b7 {b with A:=k0.A})],3⟩:St)) (fun k0=>(x.a_.length-k0.k)) (fun k0=>(k0.k<=x.a_.length/\FoI l b.n b.N b.A x k0)) (⟨0,b.A,[],[]⟩:KFm) (cnS rfl (.cons rfl rfl rfl (.cons rfl rfl rfl (.cons rfl rfl (j5 _ _ _) (.cons rfl rfl rfl (.cons rfl rfl (ab ai _ _) (.cons rfl rfl (ab ai _ _) (.cons rfl rfl (ab da _ _) (.cons rfl rfl (ab cg _ _) (.cons rfl rfl (ab cr _ _) (.cons rfl rfl (ab bh _ _) (.cons rfl rfl (ab bh _ _) .nil)))))))))))) ⟨azk _,fo0 hm⟩ ?_)
 rintro k0 hc
 have hgr_k0:x.a_.length<=140737488355328:=hx.a_.1
 obtain⟨hle_k0,h1⟩:=hc
 apply cL<;>intro h0
 ·have hnl:=av4 h0
  have hd:=h1.sz
  have hcf:=hb _ (ay7 h0)
  have hkp:=(hx.a_.2 _ (ay7 h0)).kd.1
  refine IdxG.of ‹_› (cE (fun h8=>?_) (fun h8=>?_))
  have ho:=av6 (p:=x.a_[k0.k]) (by omega)
  obtain⟨_,⟨j8,rfl,hp⟩,hq⟩:=ae9 (yo x.a_[k0.k].p_) {b with A:=k0.A} ha (show k0.A.length<=_ by omega) ⟨by simp[yo],fun _ _=>trivial⟩ (Wy h1.ax)
  have he:=ae5 (L:=k0.A) (x:=yo x.a_[k0.k].p_)
  have h5:=aiy h1 h0 (v:=b.n+((j8:Nat):Int)) (g:=wj) (Ke (x:=yo x.a_[k0.k].p_)) (Wz h1.ax (.inl ⟨_,rfl,(tmV.1 h4.tv _ (ay7 h0)).2.1 h8,h4.var (ay7 h0) (by omega)⟩)) ⟨fun h=>by omega,fun _=>⟨j8,hp,rfl⟩,fun h=>by omega⟩ (fun h=>by omega) (by omega)
  skip -- pL
  refine ay (OpG.lk (nr (LOp.bd alj avi rfl rfl) (fun _=>FzP.aggL (.cons (.pure rfl) (.cons (FzP.nil (n:=2)) (.cons (.pure rfl) (.cons (.pure rfl) .nil)))))) ?_)
  refine OpG.mk _ _ _ 4 (bg [(1000000,1000000),(1000001,1000001),(1000002,1000002),(1000003,1000003),(1000004,1000004),(1000005,1000005),(1000006,1000006),(1000007,1000007)] aei hq rfl rfl rfl rfl ⟨rfl,sX ai,sX ai,sX da,sX cg,sX cr,sX bh,sX bh,trivial⟩ ⟨⟨rfl,.inl rfl⟩,d5 ai,d5 ai,d5 da,d5 cg,d5 cr,d5 bh,d5 bh,trivial⟩ ⟨rfl,c9 ai _ _,c9 ai _ _,c9 da _ _,c9 cg _ _,c9 cr _ _,c9 bh _ _,c9 bh _ _,trivial⟩ rfl rfl rfl rfl atr rfl) rfl rfl ?_
  have h2:=Ug hn hx h4.tv h5 h0
  refine ay (OpG.lk (ug underlying364 underlying3 zr2 rfl rfl rfl h2) ?_)
  refine OpG.lk (E9 rfl rfl (by omega) (by omega)) (OpG.wr (xl underlying364 underlying3 rfl rfl rfl h2) rfl ?_)
  refine⟨by omega,⟨(⟨k0.k+1,axI k0.A (yo x.a_[k0.k].p_),k0.es++[((b.n+((j8:Nat):Int)),x.a_[k0.k].i_)],k0.gs++[wj]⟩:KFm),(nsA ‹_›),(cnS rfl (.cons rfl rfl rfl (.cons rfl rfl rfl (.cons (by exact Jm) rfl (j5 _ _ _) (.cons rfl rfl rfl (.cons rfl rfl (ab ai _ _) (.cons rfl rfl (ab ai _ _) (.cons rfl rfl (ab da _ _) (.cons rfl rfl (ab cg _ _) (.cons rfl rfl (ab cr _ _) (.cons rfl rfl (ab bh _ _) (.cons rfl rfl (ab bh _ _) .nil)))))))))))),?_⟩⟩
  exact⟨‹_›,h5⟩
  apply cE<;>intro h3
  ·have hs:0<x.a_[k0.k].of_.length:=by have:=((hx.a_.2 _ (ay7 h0)).kd.2.1 h3).1;omega
   obtain⟨y0,h6,hy0⟩:=((hx.a_.2 _ (ay7 h0)).of_.2 (x.a_[k0.k].of_[0]) (ay7 hs)).open_
   have hkd:=((hx.a_.2 _ (ay7 h0)).kd.2.1 h3).1
   have h9:x.a_[k0.k].of_=[tmA y0]:=co (by omega) h6
   have ho:=av5 (p:=x.a_[k0.k]) (by omega) h9
   have h7:=h4.part hx (ay7 h0) h3 (show tmA y0∈x.a_[k0.k].of_ by rw[h9];simp)
   have ht:=((hx.a_.2 _ (ay7 h0)).kd.2.1 h3).2
   obtain⟨L1,g1,hu,hj,hf,hk,hg⟩:=ih x.a_[k0.k] (ay7 h0) (tmA y0) (by rw[h9];simp) {b with A:=k0.A} ha hn h1.ax h7 (show k0.A.length+_<=_ by omega)
   have hk:L1.length<=k0.A.length+nxT (tmA y0):=hk
   obtain⟨_,⟨j10,rfl,hh⟩,hi⟩:=ae9 ⟨g1,x.a_[k0.k].by_,0⟩ {b with A:=L1} ha (show L1.length<=_ by omega) ⟨azp (p7 h7.ln hf) (by decide),fun _ _=>trivial⟩ (Wy hj)
   have he:=ae5 (L:=L1) (x:=⟨g1,x.a_[k0.k].by_,0⟩)
   have h5:=aiy h1 h0 (v:=b.n+((j10:Nat):Int)) (g:=g1) (hu.trans (Ke (x:=⟨g1,x.a_[k0.k].by_,0⟩))) (Wz hj (.inr ⟨tmA y0,g1,x.a_[k0.k].by_,rfl,ht,h7,hf⟩)) ⟨fun h=>by omega,fun h=>by omega,fun _=>⟨j10,hh,rfl⟩⟩ (fun _ r hr=>by rw[h9,azc]at hr;subst hr;exact hf.mono Ke) (by omega)
   skip -- pD
   refine ay (cb (j:=0) ‹_› h6 ?_)
   refine OpG.mk _ _ _ 4 (bg [(1000000,1000000),(1000001,1000001),(1000002,1000002),(1000003,1000003),(1000004,1000004),(1000005,1000005),(1000006,1000006),(1000007,1000007)] aek hg rfl rfl rfl rfl ⟨rfl,sX ai,sX ai,sX da,sX cg,sX cr,sX bh,sX bh,trivial⟩ ⟨⟨rfl,.inl rfl⟩,d5 ai,d5 ai,d5 da,d5 cg,d5 cr,d5 bh,d5 bh,trivial⟩ ⟨rfl,c9 ai _ _,c9 ai _ _,c9 da _ _,c9 cg _ _,c9 cr _ _,c9 bh _ _,c9 bh _ _,trivial⟩ rfl rfl rfl rfl atr rfl) rfl rfl (OpG.mk _ _ _ 4 (bg [(1000000,1000000),(1000001,1000001),(1000002,1000002),(1000003,1000003),(1000004,1000004),(1000005,1000005),(1000006,1000006),(1000007,1000007)] aei hi rfl rfl rfl rfl ⟨rfl,sX ai,sX ai,sX da,sX cg,sX cr,sX bh,sX bh,trivial⟩ ⟨⟨rfl,.inl rfl⟩,d5 ai,d5 ai,d5 da,d5 cg,d5 cr,d5 bh,d5 bh,trivial⟩ ⟨rfl,c9 ai _ _,c9 ai _ _,c9 da _ _,c9 cg _ _,c9 cr _ _,c9 bh _ _,c9 bh _ _,trivial⟩ rfl rfl rfl rfl atr rfl) rfl rfl ?_)
   refine⟨by kernel_rfl,?_⟩
   have h2:=Ug hn hx h4.tv h5 h0
   refine ay (OpG.lk (ug underlying364 underlying3 zr2 rfl rfl rfl h2) ?_)
   refine OpG.lk (E9 rfl rfl (by omega) (by omega)) (OpG.wr (xl underlying364 underlying3 rfl rfl rfl h2) rfl ?_)
   refine⟨by omega,⟨(⟨k0.k+1,axI L1 ⟨g1,x.a_[k0.k].by_,0⟩,k0.es++[((b.n+((j10:Nat):Int)),x.a_[k0.k].i_)],k0.gs++[g1]⟩:KFm),(nsA ‹_›),(cnS rfl (.cons rfl rfl rfl (.cons rfl rfl rfl (.cons (by exact Jm) rfl (j5 _ _ _) (.cons rfl rfl rfl (.cons rfl rfl (ab ai _ _) (.cons rfl rfl (ab ai _ _) (.cons rfl rfl (ab da _ _) (.cons rfl rfl (ab cg _ _) (.cons rfl rfl (ab cr _ _) (.cons rfl rfl (ab bh _ _) (.cons rfl rfl (ab bh _ _) .nil)))))))))))),?_⟩⟩
   exact⟨‹_›,h5⟩
  have h5:=aiy h1 h0 (v:=x.a_[k0.k].p_) (g:=wj) List.prefix_rfl h1.ax ⟨fun _=>rfl,fun h=>by omega,fun h=>by omega⟩ (fun h=>by omega) (by omega)
  skip -- pC
  have h2:=Ug hn hx h4.tv h5 h0
  refine ay (OpG.lk (ug underlying364 underlying3 zr2 rfl rfl rfl h2) ?_)
  refine OpG.lk (E9 rfl rfl (by omega) (by omega)) (OpG.wr (xl underlying364 underlying3 rfl rfl rfl h2) rfl ?_)
  refine⟨by omega,⟨(⟨k0.k+1,k0.A,k0.es++[(x.a_[k0.k].p_,x.a_[k0.k].i_)],k0.gs++[wj]⟩:KFm),(nsA ‹_›),(cnS rfl (.cons rfl rfl rfl (.cons rfl rfl rfl (.cons (by exact Jm) rfl (j5 _ _ _) (.cons rfl rfl rfl (.cons rfl rfl (ab ai _ _) (.cons rfl rfl (ab ai _ _) (.cons rfl rfl (ab da _ _) (.cons rfl rfl (ab cg _ _) (.cons rfl rfl (ab cr _ _) (.cons rfl rfl (ab bh _ _) (.cons rfl rfl (ab bh _ _) .nil)))))))))))),?_⟩⟩
  exact⟨‹_›,h5⟩
 have hl:k0.k=x.a_.length:=by omega
 have hna:=aol hl
 have hd:=h1.sz
 have hel:=h1.le
 refine OpG.lk (H7 (bg [(TOP,2)] arm (ajm k0.es 0 0 (by omega)) rfl rfl rfl rfl ⟨Rf,trivial⟩ ⟨ahp,trivial⟩ ⟨Mg _ _ _,trivial⟩ rfl rfl rfl rfl (O5 rfl) rfl) ⟨⟨azc.2 rfl,rfl,rfl⟩,trivial⟩) ⟨by kernel_rfl,⟨.inr rfl,_,_,Pn.of (hb':=[(1000000,some (kB {b with A:=k0.A})),(1000001,some (b1 {b with A:=k0.A})),(1000002,some (b2 {b with A:=k0.A})),(1000003,some (b3 {b with A:=k0.A})),(1000004,some (b4 {b with A:=k0.A})),(1000005,some (b5 {b with A:=k0.A})),(1000006,some (b6 {b with A:=k0.A})),(1000007,some (b7 {b with A:=k0.A}))]) [] (cy rfl (.cons (ay3.cellN aco rfl rfl trivial rfl rfl rfl) .nil)) rfl ⟨.same rfl (by decide),.same rfl (by decide),.same rfl (by decide),.same rfl (by decide),.same rfl (by decide),.same rfl (by decide),.same rfl (by decide),.same rfl (by decide),trivial⟩ .same,?_⟩⟩
 exact⟨k0.A,_,rfl,rfl,h1.pre,h1.ax,apx h1 hl,by omega⟩
def aiw(l:List PVar)(r:List AV)(hr:IsTm r):∀b:KBl,(0<=b.n/\b.n<=1000)->b.n=((l.length:Nat):Int)->AxW l b.n b.N b.A->TmG l b.N r->b.A.length+nxT r<=1000000000->ak5 l b r:=
 IsTm.ind (M:=fun r=>∀b:KBl,(0<=b.n/\b.n<=1000)->b.n=((l.length:Nat):Int)->AxW l b.n b.N b.A->TmG l b.N r->b.A.length+nxT r<=1000000000->ak5 l b r) (fun x hx ih b h1 h2 h3 h4 h5=>by obtain⟨_,_,⟨A',f,rfl,rfl,p1,p2,p3,p4⟩,hc⟩:=aiv x hx l b h1 h2 h3 h4 h5 ih;exact⟨A',f,p1,p2,p3,p4,hc⟩) hr
def Ou(f:PLin):PLin:=⟨-f.k,f.cs.map fun c=>⟨c.v,-c.n⟩⟩
def aox{L:List PCoef}(hk:k<f.cs.length)(h:L=(f.cs.take k).map fun c=>(⟨c.v,-c.n⟩:PCoef)):L++[⟨f.cs[k].v,-f.cs[k].n⟩]=(f.cs.take (k+1)).map fun c=>(⟨c.v,-c.n⟩:PCoef):=by rw[azj hk,azx,h];rfl
theorem acu{x:GTm}(h:RepT n L (tmA x) f):f.k=x.f_:=by obtain⟨_,_,_,_,_,_,rfl⟩:=mt h;rfl
def ag0{x:GTm}(h:RepT n L (tmA x) f)(hs:smR (tmA x)=true):∀c∈f.cs,-1048576<=c.n/\c.n<=1048576:=by obtain⟨vs,gs,l1,_,_,_,rfl⟩:=mt h;intro c hc;obtain⟨v,hv,rfl⟩:=azy.1 hc;obtain⟨j,hj,_,_,e⟩:=Tk hv;show -1048576<=ml _ v/\ml _ v<=1048576;rw[e];rw[oe l1]at hj;rw[ud l1 hj];exact((fb x).1 hs).1.2 _ (ay7 hj)
structure FitLit(x:GLit):Prop where
 e_:FitAt x.e_
def Du:RowF cfA 2:=Ro
structure TmB(l:List PVar)(x:GTm):Prop where
 tm:FitTm x
 sm:smR (tmA x)=true
 ln:lnR (tmA x)=true
 tv:TmV l (tmA x)
theorem TmB.g{x:GTm}(h:TmB l x):TmG l (N++srtU (d7 (tmA x))) (tmA x):=⟨Cr h.tm,h.sm,h.ln,h.tv,fun v hv=>azd.2 (.inr (la.2 hv))⟩
def kv(x:GLit)(f:PLin):PCon:=if x.e_.c_=3 then⟨f,true⟩else if x.e_.c_=4 then(if x.F_=true then⟨⟨-f.k+1,(Ou f).cs⟩,false⟩else⟨⟨f.k+1,f.cs⟩,false⟩)else⟨f,false⟩
inductive AddR(l:List PVar)(x:GLit)(b:KBl):KBl->Prop
 |nul (h:x.e_.c_=0):AddR l x b {b with U:=b.U++[x.e_.p_]}
 |nnl (h:x.e_.c_=1):AddR l x b {b with N:=b.N++[x.e_.p_],v:=b.v+1}
 |tes (h:x.e_.c_=5):AddR l x b {b with N:=b.N++[x.e_.p_],v:=b.v+1,T:=b.T++[⟨x.e_.p_,x.e_.x_.kd,x.e_.x_.ng,x.e_.x_.s⟩]}
 |sam (h:x.e_.c_=6):AddR l x b {b with N:=b.N++[x.e_.p_]++[x.e_.w_],v:=b.v+1+1,S:=b.S++[(x.e_.p_,x.e_.w_)]}
 |dif (h:x.e_.c_=7):AddR l x b {b with N:=b.N++[x.e_.p_]++[x.e_.w_],v:=b.v+1+1,D:=b.D++[(x.e_.p_,x.e_.w_)]}
 |int (A1:List PAux) (f1:PLin) (h:x.e_.c_=2\/x.e_.c_=3\/x.e_.c_=4) (hp:b.A <+: A1) (hw:AxW l b.n (b.N++srtU (d7 (tmA x.e_.o_))) A1) (hr:RepT b.n A1 (tmA x.e_.o_) f1) (hz:A1.length<=b.A.length+nxT (tmA x.e_.o_)):AddR l x b {b with N:=b.N++srtU (d7 (tmA x.e_.o_)),v:=vbX b.v (b.N++srtU (d7 (tmA x.e_.o_))).length,A:=A1,I:=b.I++[kv x f1]}
theorem aqw{x:GLit}(h:x.e_.c_=2):(⟨f,false⟩:PCon)=kv x f:=by unfold kv;rw[azf (by omega),azf (by omega)]
theorem aqy{x:GLit}(h:x.e_.c_=3):(⟨f,true⟩:PCon)=kv x f:=by unfold kv;rw[azg h]
theorem aqx{x:GLit}(h:x.e_.c_=4)(ha:x.F_=true):(⟨⟨-f.k+1,(Ou f).cs⟩,false⟩:PCon)=kv x f:=by unfold kv;rw[azf (by omega),azg h,azg ha]
theorem aqv{x:GLit}(h:x.e_.c_=4)(ha:x.F_=false):(⟨⟨f.k+1,f.cs⟩,false⟩:PCon)=kv x f:=by unfold kv;rw[azf (by omega),azg h,azf (by rw[ha];decide)]
def arf:(prog.info? 145).map (·.bytes)=some 16:=by kernel_rfl
def amf:aj prog 145=some 2:=by kernel_rfl
def alk:bp prog 145=some (.agg #[.int .i64 0,.int .i64 0]):=by kernel_rfl
def Oq(f:PLin)(hfl:f.cs.length<=1000000)(hk1:-9223372036854775807<=f.k/\f.k<=9223372036854775807)(h4:∀c∈f.cs,-1048576<=c.n/\c.n<=1048576):PRet prog 259 [.agg (liA f)] (fun q=>q=.agg (liA (Ou f))):=by refine ovT [8,23] [7] func259 rfl rfl (OpG.lk (oh rfl (by omega) (by omega)) (LenG.of (LpG.via (fun _ h=>cn 2 1 2 rfl rfl rfl rfl rfl 4 rfl h) (LpG.on (fun k0:KL PCoef=>(⟨fL [(2,.ptr 1 0 0),(3,.ptr 2 0 0),(11,.tree 2 (f.cs.map cfA)),(12,vI f.cs.length),(13,vI k0.k)],hLz [(1,⟨0,[vI 0,.v (.slice none 0 0)],0,false⟩),(2,⟨0,[vI (-f.k),.sl 3 k0.L.length 0 k0.L.length],0,false⟩),(3,⟨k0.L.length,rF cfA k0.L,2,Nat.beq k0.L.length 0⟩)],4⟩:St)) (fun k0=>(f.cs.length-k0.k)) (fun k0=>(k0.k<=f.cs.length/\(k0.L=((f.cs.take k0.k).map fun c=>(⟨c.v,-c.n⟩:PCoef))/\k0.L.length=k0.k))) (⟨0,[]⟩:KL PCoef) (cnS rfl (hpR rfl (hpR (by rfl) (hpS (ab Du _ _) (by rfl) trivial)))) ⟨azk _,⟨rfl,rfl⟩⟩ ?_))));rintro k0 h2;obtain⟨hle_k0,h0⟩:=h2;refine cL (fun h1=>by have hcb:=h4 f.cs[k0.k] (ay7 h1);have h3:=h0.2;exact IdxG.of ‹_› (OpG.lk (oh rfl (by omega) (by omega)) (OpG.mk _ _ _ 6 (ah Du (a:=(⟨f.cs[k0.k].v,-f.cs[k0.k].n⟩:PCoef)) underlying183 Yh Qa ard rfl rfl rfl (am rfl rfl rfl rfl) rfl (by omega) (by omega) (by unfold TV;omega)) rfl rfl ⟨by omega,⟨(⟨k0.k+1,k0.L++[(⟨f.cs[k0.k].v,-f.cs[k0.k].n⟩:PCoef)]⟩:KL PCoef),(nsA ‹_›),(cnS rfl (hpR rfl (.cons (by(rw[azb];rfl)) rfl rfl (.cons (by(rw[azb];rfl)) rfl (ab Du _ _) .nil)))),⟨‹_›,⟨aox h1 h0.1,by show(_++[_]).length=_;rw[azb,h3];rfl⟩⟩⟩⟩))) (fun hge14=>have h3:=h0.2;RegG.via (fun _ h=>cz [3] 2 0 0 [vI (-f.k),.sl 3 k0.L.length 0 k0.L.length] [vI (-f.k),.tree 2 (k0.L.map cfA)] rfl rfl (.keep (.fz (FzP.rows Du (azc.2 rfl) rfl) (.same _))) rfl h) (ay (rtK rfl aco rfl ⟨[],FzP.pure rfl⟩ (have e:=h0.1;?_))));rw[az0 (by omega)]at e;rw[e];rfl
def OB{fn:Func}{N:Nat}{s:St}{e:Exit}{S:KBl->Prop}(b':KBl)(hr:fn.results=#[])(hA:S b')(h:[s.η 1000000,s.η 1000001,s.η 1000002,s.η 1000003,s.η 1000004,s.η 1000005,s.η 1000006,s.η 1000007]=[some (kB b'),some (b1 b'),some (b2 b'),some (b3 b'),some (b4 b'),some (b5 b'),some (b6 b'),some (b7 b')])(he:e=.normal\/e=.ret):(e=.normal\/e=.ret)/\∃ret hb',Pn prog N fn s hb' ret/\∃b',ret=.tup []/\hb'=[(1000000,some (kB b')),(1000001,some (b1 b')),(1000002,some (b2 b')),(1000003,some (b3 b')),(1000004,some (b4 b')),(1000005,some (b5 b')),(1000006,some (b6 b')),(1000007,some (b7 b'))]/\S b':=by simp only[List.cons.injEq,and_true]at h;obtain⟨h0,h1,h2,h3,h4,h5,h6,h7⟩:=h;exact⟨he,_,_,Pn.of (hb':=[(1000000,some (kB b')),(1000001,some (b1 b')),(1000002,some (b2 b')),(1000003,some (b3 b')),(1000004,some (b4 b')),(1000005,some (b5 b')),(1000006,some (b6 b')),(1000007,some (b7 b'))]) [] (cy hr .nil) rfl ⟨.same h0 (by decide),.same h1 (by decide),.same h2 (by decide),.same h3 (by decide),.same h4 (by decide),.same h5 (by decide),.same h6 (by decide),.same h7 (by decide),trivial⟩ .same,_,rfl,rfl,hA⟩
def atc(x:GLit)(hx:FitLit x)(l:List PVar)(b:KBl)(h2:0<=b.n/\b.n<=1000)(hn:b.n=((l.length:Nat):Int))(h3:AxW l b.n b.N b.A)(hk:0<=x.e_.c_/\x.e_.c_<=7)(hT:x.e_.c_=2\/x.e_.c_=3\/x.e_.c_=4->TmB l x.e_.o_)(h4:(d7 (tmA x.e_.o_)).length<=4096)(h5:b.A.length+nxT (tmA x.e_.o_)<=1000000000)(hU:b.U.length<=1000000000)(hN:b.N.length<=1000000000)(hv:b.v<=1000000000)(hI:b.I.length<=1000000000)(hTl:b.T.length<=1000000000)(hS:b.S.length<=1000000000)(hD:b.D.length<=1000000000):Fa prog 219 [.ptr 1000000 0 0,.agg (lyA x)] [(1000000,kB b),(1000001,b1 b),(1000002,b2 b),(1000003,b3 b),(1000004,b4 b),(1000005,b5 b),(1000006,b6 b),(1000007,b7 b)] (fun q hb'=>∃b',q=.tup []/\hb'=[(1000000,some (kB b')),(1000001,some (b1 b')),(1000002,some (b2 b')),(1000003,some (b3 b')),(1000004,some (b4 b')),(1000005,some (b5 b')),(1000006,some (b6 b')),(1000007,some (b7 b'))]/\AddR l x b b'):=by
 refine Fa.of_vc ua [21,39,47,60,75,98,112,136,152,170,186,204] [7,8] func219 rfl ntmps219 rfl (by kernel_rfl) (cE (fun h=>OpG.mk _ _ _ 2 (ah ai (l:=b.U) (a:=x.e_.p_) underlying53 sz3 zr3 by3 rfl rfl rfl (am rfl rfl rfl rfl) rfl (by omega) (by omega) (by unfold TV;omega)) rfl rfl ⟨rfl,OB _ rfl (.nul h) (by simp only[kB,b1,b2,b3,b4,b5,b6,b7,azb,azu,azv];rfl) (.inr rfl)⟩) (fun h=>cE (fun _=>cE (fun _=>?_) fun _=>by omega) fun _=>cE (fun _=>cE (fun _=>?_) fun _=>by omega) fun _=>cE (fun _=>?_) fun _=>?_));rotate_left 3;exact OpG.mk _ _ _ 2 (ah ai (l:=b.N) (a:=x.e_.p_) underlying53 sz3 zr3 by3 rfl rfl rfl (am rfl rfl rfl rfl) rfl (by omega) (by omega) (by unfold TV;omega)) rfl rfl ⟨rfl,cE (fun h=>OpG.mk _ _ _ 4 (ah cr (l:=b.T) (a:=(⟨x.e_.p_,x.e_.x_.kd,x.e_.x_.ng,x.e_.x_.s⟩:PTest)) underlying125 sz64 zr64 by64 rfl rfl rfl (am rfl rfl rfl rfl) rfl (by omega) (by omega) (by unfold TV;omega)) rfl rfl ⟨rfl,OB _ rfl (.tes h) (by simp only[kB,b1,b2,b3,b4,b5,b6,b7,azb,azu,azv];rfl) (.inl rfl)⟩) (fun _=>have hl:(b.N++[x.e_.p_]).length=b.N.length+1:=(by simp);cE (fun h=>OpG.mk _ _ _ 3 (ah ai (l:=(b.N++[x.e_.p_])) (a:=x.e_.w_) underlying53 sz3 zr3 by3 rfl rfl rfl (am rfl rfl rfl rfl) rfl (by omega) (by omega) (by unfold TV;omega)) rfl rfl ⟨rfl,OpG.mk _ _ _ 4 (ah bh (l:=b.S) (a:=((x.e_.p_,x.e_.w_):Int×Int)) underlying126 amf alk arf rfl rfl rfl (am rfl rfl rfl rfl) rfl (by omega) (by omega) (by unfold TV;omega)) rfl rfl ⟨rfl,OB _ rfl (.sam h) (by simp only[kB,b1,b2,b3,b4,b5,b6,b7,azb,azu,azv];rfl) (.inl rfl)⟩⟩) (fun _=>cE (fun h=>OpG.mk _ _ _ 3 (ah ai (l:=(b.N++[x.e_.p_])) (a:=x.e_.w_) underlying53 sz3 zr3 by3 rfl rfl rfl (am rfl rfl rfl rfl) rfl (by omega) (by omega) (by unfold TV;omega)) rfl rfl ⟨rfl,OpG.mk _ _ _ 4 (ah bh (l:=b.D) (a:=((x.e_.p_,x.e_.w_):Int×Int)) underlying126 amf alk arf rfl rfl rfl (am rfl rfl rfl rfl) rfl (by omega) (by omega) (by unfold TV;omega)) rfl rfl ⟨rfl,OB _ rfl (.dif h) (by simp only[kB,b1,b2,b3,b4,b5,b6,b7,azb,azu,azv];rfl) (.inl rfl)⟩⟩) fun _=>OB _ rfl (.nnl (by omega)) (by simp only[kB,b1,b2,b3,b4,b5,b6,b7,azb,azu,azv];rfl) (.inl rfl)))⟩
 all_goals
  have h0:=hT (by omega)
  have hsl:=db (d7 (tmA x.e_.o_))
  have hvb:=xp (ver:=b.v) (n:=(b.N++srtU (d7 (tmA x.e_.o_))).length)
  have hNl:(b.N++srtU (d7 (tmA x.e_.o_))).length=b.N.length+(srtU (d7 (tmA x.e_.o_))).length:=azb
  refine ay (ArgG.mk (Qg (tmA x.e_.o_) (Cr hx.e_.o_) (azp h4 (by decide))) rfl ?_)
  rintro _ rfl
  refine OpG.mk _ _ _ 1 (d4 ai (l:=b.N) (l':=srtU (d7 (tmA x.e_.o_))) underlying53 sz3 zr3 by3 rfl rfl rfl rfl (by omega) (by omega) (by unfold TV;omega)) rfl rfl ⟨rfl,?_⟩
  obtain⟨A1,f1,h6,h7,h1,h8,h9⟩:=aiw l (tmA x.e_.o_) (Cr h0.tm) {b with N:=b.N++srtU (d7 (tmA x.e_.o_)),v:=vbX b.v (b.N++srtU (d7 (tmA x.e_.o_))).length} h2 hn (si h3 fun v hv=>azd.2 (.inl hv)) h0.g h5
  have hfl:=p7 h0.ln h1
  have hfk:=acu h1
  have hsk:=((fb _).1 h0.sm).1.1
  have hA:=AddR.int (l:=l) (x:=x) (b:=b) A1 f1 (by omega) h6 h7 h1 h8
  refine ay (OpG.mk _ _ _ 1 (bg [(1000000,1000000),(1000001,1000001),(1000002,1000002),(1000003,1000003),(1000004,1000004),(1000005,1000005),(1000006,1000006),(1000007,1000007)] aek h9 rfl rfl rfl rfl ⟨rfl,sX ai,sX ai,sX da,sX cg,sX cr,sX bh,sX bh,trivial⟩ ⟨⟨rfl,.inl rfl⟩,d5 ai,d5 ai,d5 da,d5 cg,d5 cr,d5 bh,d5 bh,trivial⟩ ⟨rfl,c9 ai _ _,c9 ai _ _,c9 da _ _,c9 cg _ _,c9 cr _ _,c9 bh _ _,c9 bh _ _,trivial⟩ rfl rfl rfl rfl atr rfl) rfl rfl ?_)
  repeat' first|refine cE (fun _=>?_) (fun _=>?_)<;>try omega
 rw[<-aqw (f:=f1) (by omega)]at hA;exact OpG.mk _ _ _ 3 (ah cg (l:=b.I) (a:=(⟨f1,false⟩:PCon)) underlying124 Q1 Qb Wc rfl rfl rfl (am rfl rfl rfl rfl) rfl (by omega) (by omega) (by show b.I.length+1≠TV;unfold TV;omega)) rfl rfl ⟨rfl,OB _ rfl hA (by simp only[kB,b1,b2,b3,b4,b5,b6,b7,azb,azu,azv];rfl) (.inr rfl)⟩;rw[<-aqy (f:=f1) (by omega)]at hA;exact OpG.mk _ _ _ 3 (ah cg (l:=b.I) (a:=(⟨f1,true⟩:PCon)) underlying124 Q1 Qb Wc rfl rfl rfl (am rfl rfl rfl rfl) rfl (by omega) (by omega) (by show b.I.length+1≠TV;unfold TV;omega)) rfl rfl ⟨rfl,OB _ rfl hA (by simp only[kB,b1,b2,b3,b4,b5,b6,b7,azb,azu,azv];rfl) (.inr rfl)⟩;refine cB (fun h=>by rw[<-aqx (f:=f1) (by omega) (by simpa using h)]at hA;have hnk:(Ou f1).k=-f1.k:=rfl;refine ArgG.mk (Oq f1 (by omega) (by omega) (ag0 h1 h0.sm)) rfl ?_;rintro _ rfl;exact⟨by omega,OpG.mk _ _ _ 3 (ah cg (l:=b.I) (a:=(⟨⟨-f1.k+1,(Ou f1).cs⟩,false⟩:PCon)) underlying124 Q1 Qb Wc rfl rfl rfl (am rfl rfl rfl rfl) rfl (by omega) (by omega) (by show b.I.length+1≠TV;unfold TV;omega)) rfl rfl ⟨rfl,OB _ rfl hA (by simp only[kB,b1,b2,b3,b4,b5,b6,b7,azb,azu,azv];rfl) (.inr rfl)⟩⟩) (fun h=>?_);rw[<-aqv (f:=f1) (by omega) (by simpa using h)]at hA;exact⟨by omega,OpG.mk _ _ _ 3 (ah cg (l:=b.I) (a:=(⟨⟨f1.k+1,f1.cs⟩,false⟩:PCon)) underlying124 Q1 Qb Wc rfl rfl rfl (am rfl rfl rfl rfl) rfl (by omega) (by omega) (by show b.I.length+1≠TV;unfold TV;omega)) rfl rfl ⟨rfl,OB _ rfl hA (by simp only[kB,b1,b2,b3,b4,b5,b6,b7,azb,azu,azv];rfl) (.inr rfl)⟩⟩
structure LitOk(l:List PVar)(x:GLit):Prop where
 fit:FitLit x
 k:0<=x.e_.c_/\x.e_.c_<=7
 tm:x.e_.c_=2\/x.e_.c_=3\/x.e_.c_=4->TmB l x.e_.o_
 oc:(d7 (tmA x.e_.o_)).length<=4096
 nx:nxT (tmA x.e_.o_)<=8192
inductive BldR(l:List PVar)(b0:KBl):List GLit->KBl->Prop
 |nil:BldR l b0 [] b0
 |snoc (xs:List GLit) (x:GLit) (b b':KBl) (h:BldR l b0 xs b) (hx:AddR l x b b'):BldR l b0 (xs++[x]) b'
theorem akr{x:GLit}(h:AddR l x b b'):b'.n=b.n:=by cases h<;>rfl
def ayz{x:GLit}(h:AddR l x b b'):∀v∈b.N,v∈b'.N:=by cases h<;>intro v hv<;>simp[hv]
theorem ata{x:GLit}(h:AddR l x b b')(ha:AxW l b.n b.N b.A):AxW l b'.n b'.N b'.A:=by
 have hm:=ayz h
 have hn:=akr h
 rw[hn]
 cases h with
 |int A1 f1 h hp hw hr hz=>exact hw
 |nul h=>exact si ha hm
 |nnl h=>exact si ha hm
 |tes h=>exact si ha hm
 |sam h=>exact si ha hm
 |dif h=>exact si ha hm
structure SzB(k:Nat)(b:KBl):Prop where
 u:b.U.length<=k
 n:b.N.length<=4096*k
 v:b.v<=2*k
 a:b.A.length<=8192*k
 i:b.I.length<=k
 t:b.T.length<=k
 s:b.S.length<=k
 d:b.D.length<=k
theorem as8{x:GLit}(h:AddR l x b b')(hx:LitOk l x)(hb:SzB k b):SzB (k+1) b':=by
 obtain⟨h1,h2,h3,h4,h5,h6,h7,h8⟩:=hb;have hs:=db (d7 (tmA x.e_.o_))
 have ho:=hx.oc;have hn:=hx.nx
 cases h with
 |int A1 f1 h hp hw hr hz=>
  have hv:=xp (ver:=b.v) (n:=(b.N++srtU (d7 (tmA x.e_.o_))).length)
  constructor<;>simp only[azb,azu,azv]at *<;>omega
 |_=>constructor<;>simp only[azb,azu,azv]<;>omega
def b00(n:Int):KBl:=⟨n,[],[],0,[],[],[],[],[]⟩
section
variable{l:List PVar}{xs:List GLit}{b:KBl}{n:Int}
theorem Wl(h:BldR l (b00 n) xs b):b.n=n:=by
 induction h with
 |nil=>rfl
 |snoc xs x b b' h hx ih=>rw[akr hx,ih]
theorem Hy(h:BldR l (b00 n) xs b):AxW l b.n b.N b.A:=by
 induction h with
 |nil=>exact ayg
 |snoc xs x b b' h hx ih=>exact ata hx ih
theorem Wj(h:BldR l (b00 n) xs b)(hx:∀x∈xs,LitOk l x):SzB xs.length b:=by
 induction h with
 |nil=>constructor<;>exact azk _
 |snoc xs x b b' h ha ih=>rw[azb];exact as8 ha (hx x (by simp)) (ih fun y hy=>hx y (by simp[hy]))
end
def l9(b:KBl):PCl:=⟨srtU b.U,srtU b.N,b.A,b.I,b.T,b.S,b.D⟩
structure KBu where
 k:Nat
 b:KBl
def axd :ju [(1000000,1),(1000001,2),(1000002,3),(1000003,4),(1000004,5),(1000005,6),(1000006,7),(1000007,8)] [(1000000,some (kB b)),(1000001,some (b1 b)),(1000002,some (b2 b)),(1000003,some (b3 b)),(1000004,some (b4 b)),(1000005,some (b5 b)),(1000006,some (b6 b)),(1000007,some (b7 b))]=[(1,some (⟨0,[vI b.n,.sl 2 b.U.length 0 b.U.length,.sl 3 b.v 0 b.N.length,.sl 4 b.A.length 0 b.A.length,.sl 5 b.I.length 0 b.I.length,.sl 6 b.T.length 0 b.T.length,.sl 7 b.S.length 0 b.S.length,.sl 8 b.D.length 0 b.D.length],0,false⟩)),(2,some (b1 b)),(3,some (b2 b)),(4,some (b3 b)),(5,some (b4 b)),(6,some (b5 b)),(7,some (b6 b)),(8,some (b7 b))]:=by simp only[ju,azw,List.map_nil,az5,n8 ai,n8 da,n8 cg,n8 cr,n8 bh];rfl
def arq:cw prog 219=true:=by kernel_rfl
def aem:cw prog 220=true:=by kernel_rfl
def am9:ey prog 128=some (some 7):=by kernel_rfl
def Re(l:List Int)(v:Nat)(hl:l.length<=140737488355328):aby prog 220 [.sl 1000000 v 0 l.length] [(1000000,⟨v,rF iA l,1,Nat.beq l.length 0⟩)] [(1000000,none)] (fun q=>q=isA (srtU l)):=aby.of_vc ua [4,6] [] func220 rfl ntmps220 rfl (by kernel_rfl) (OpG.mk _ _ _ 0 (bg [(TOP,1000000)] v8 (ux l v (by omega)) rfl rfl rfl rfl ⟨ig ai,trivial⟩ ⟨d5 ai,trivial⟩ ⟨c9 ai _ _,trivial⟩ rfl rfl rfl rfl (bv ai rfl) rfl) rfl rfl (OpG.mk _ _ _ 0 (bg [(TOP,1000000)] ya (lq l v (by omega)) rfl rfl rfl rfl ⟨ig ai,trivial⟩ ⟨ac6 fq,trivial⟩ ⟨c9 ai _ _,trivial⟩ rfl rfl rfl rfl (bv ai rfl) rfl) rfl rfl ⟨.inr rfl,_,Pn.of [1000000] (cy rfl (.cons (ay3.tmp rfl) .nil)) rfl ⟨.gone,trivial⟩ (.fz (FzP.srtU rfl)),rfl⟩))
def Lk(l:List Int)(v:Nat)(hl:l.length<=140737488355328):jy prog 220 [.sl TOP v 0 l.length] [(TOP,⟨v,rF iA l,1,Nat.beq l.length 0⟩)] [(TOP,none)] (isA (srtU l)):=by obtain⟨_,rfl,h⟩:=Re l v hl;exact h
def axz{c:KBl}(hk:k<xs.length)(h:BldR l (b00 n) (xs.take k) b)(ha:AddR l xs[k] b c):BldR l (b00 n) (xs.take (k+1)) c:=by rw[azj hk];exact .snoc _ _ _ _ h ha
def arj(hk:k<=xs.length)(hx:∀x∈xs,LitOk l x)(h:BldR l (b00 n) (xs.take k) b):SzB k b:=by grind[Wj,List.mem_of_mem_take,List.length_take,Nat.min_eq_left]
def aa2(l:List PVar)(n:Int)(hn:n=((l.length:Nat):Int))(hn1:l.length<=1000)(xs:List GLit)(h3:∀x∈xs,LitOk l x)(hxl:xs.length<=100000):PRet prog 191 [.tree 10 (xs.map lyA),vI n] (fun q=>∃b,q=.agg (clA (l9 b))/\BldR l (b00 n) xs b):=by refine ovT [19,28,34] [5,8] func191 rfl rfl (LenG.of ?_);refine LpG.via (fun _ h=>cn 1 1 1 rfl rfl rfl rfl rfl 3 rfl h) (LpG.via (fun _ h=>cn 1 2 1 rfl rfl rfl rfl rfl 4 rfl h) ?_);refine LpG.via (fun _ h=>cn 1 3 4 rfl rfl rfl rfl rfl 5 rfl h) (LpG.via (fun _ h=>cn 1 4 3 rfl rfl rfl rfl rfl 6 rfl h) ?_);refine LpG.via (fun _ h=>cn 1 5 4 rfl rfl rfl rfl rfl 7 rfl h) (LpG.via (fun _ h=>cn 1 6 2 rfl rfl rfl rfl rfl 8 rfl h) ?_);refine LpG.via (fun _ h=>cn 1 7 2 rfl rfl rfl rfl rfl 9 rfl h) (LpG.on (fun k0:KBu=>(⟨fL [(4,.ptr 0 0 0),(5,.ptr 1 0 0),(11,.tree 10 (xs.map lyA)),(12,vI xs.length),(13,vI k0.k)],hLz [(0,⟨0,[.v (.slice none 0 0),.v (.slice none 0 0),.v (.slice none 0 0),.v (.slice none 0 0),.v (.slice none 0 0),.v (.slice none 0 0),.v (.slice none 0 0)],0,false⟩),(1,⟨0,[vI k0.b.n,.sl 2 k0.b.U.length 0 k0.b.U.length,.sl 3 k0.b.v 0 k0.b.N.length,.sl 4 k0.b.A.length 0 k0.b.A.length,.sl 5 k0.b.I.length 0 k0.b.I.length,.sl 6 k0.b.T.length 0 k0.b.T.length,.sl 7 k0.b.S.length 0 k0.b.S.length,.sl 8 k0.b.D.length 0 k0.b.D.length],0,false⟩),(2,⟨k0.b.U.length,rF iA k0.b.U,1,Nat.beq k0.b.U.length 0⟩),(3,⟨k0.b.v,rF iA k0.b.N,1,Nat.beq k0.b.N.length 0⟩),(4,⟨k0.b.A.length,rF axA k0.b.A,4,Nat.beq k0.b.A.length 0⟩),(5,⟨k0.b.I.length,rF cnA k0.b.I,3,Nat.beq k0.b.I.length 0⟩),(6,⟨k0.b.T.length,rF teA k0.b.T,4,Nat.beq k0.b.T.length 0⟩),(7,⟨k0.b.S.length,rF paA k0.b.S,2,Nat.beq k0.b.S.length 0⟩),(8,⟨k0.b.D.length,rF paA k0.b.D,2,Nat.beq k0.b.D.length 0⟩)],9⟩:St)) (fun k0=>(xs.length-k0.k)) (fun k0=>(k0.k<=xs.length/\BldR l (b00 n) (xs.take k0.k) k0.b)) (⟨0,b00 n⟩:KBu) (cnS rfl (hpR rfl (hpR (by rfl) (hpS (ab ai _ _) (by rfl) (hpS (ab ai _ _) (by rfl) (hpS (ab da _ _) (by rfl) (hpS (ab cg _ _) (by rfl) (hpS (ab cr _ _) (by rfl) (hpS (ab bh _ _) (by rfl) (hpS (ab bh _ _) (by rfl) trivial)))))))))) ⟨azk _,.nil⟩ ?_);rintro k0 h4;obtain⟨hle_k0,h0⟩:=h4;apply cL<;>intro h1;refine IdxG.of ‹_› ?_;have h5:=arj (by omega) h3 h0;obtain⟨z1,z2,z3,z4,z5,z6,z7,z8⟩:=h5;have h2:=(h3 _ (ay7 h1));have h8:=h2.oc;have hlx:=h2.nx;have hbn0:=Wl h0;obtain⟨_,_,⟨c1,rfl,rfl,h6⟩,h7⟩:=atc xs[k0.k] h2.fit l k0.b (by omega) (by omega) (Hy h0) h2.k h2.tm h8 (by omega) (by omega) (by omega) (by omega) (by omega) (by omega) (by omega) (by omega);refine ay (OpG.mk _ _ _ 10 (bg [(1000000,1),(1000001,2),(1000002,3),(1000003,4),(1000004,5),(1000005,6),(1000006,7),(1000007,8)] arq h7 rfl rfl rfl rfl ⟨rfl,sX ai,sX ai,sX da,sX cg,sX cr,sX bh,sX bh,trivial⟩ ⟨⟨rfl,.inl rfl⟩,d5 ai,d5 ai,d5 da,d5 cg,d5 cr,d5 bh,d5 bh,trivial⟩ ⟨rfl,c9 ai _ _,c9 ai _ _,c9 da _ _,c9 cg _ _,c9 cr _ _,c9 bh _ _,c9 bh _ _,trivial⟩ rfl rfl rfl rfl axd rfl) rfl rfl ?_);refine⟨by omega,⟨(⟨k0.k+1,c1⟩:KBu),(nsA ‹_›),(cnS rfl (hpR rfl (hpR (by rfl) (hpS (ab ai _ _) (by rfl) (hpS (ab ai _ _) (by rfl) (hpS (ab da _ _) (by rfl) (hpS (ab cg _ _) (by rfl) (hpS (ab cr _ _) (by rfl) (hpS (ab bh _ _) (by rfl) (hpS (ab bh _ _) (by rfl) trivial)))))))))),?_⟩⟩;exact⟨‹_›,axz h1 h0 h6⟩;have h9:k0.k=xs.length:=(by omega);have h5:=arj (by omega) h3 h0;obtain⟨z1,z2,z3,z4,z5,z6,z7,z8⟩:=h5;refine OpG.mk _ _ _ 9 (bg [(TOP,2)] aem (Lk k0.b.U k0.b.U.length (by omega)) rfl rfl rfl rfl ⟨sX ai,trivial⟩ ⟨d5 ai,trivial⟩ ⟨trivial,trivial⟩ rfl rfl rfl rfl rfl rfl) rfl rfl (OpG.mk _ _ _ 9 (bg [(TOP,3)] aem (Lk k0.b.N k0.b.v (by omega)) rfl rfl rfl rfl ⟨sX ai,trivial⟩ ⟨d5 ai,trivial⟩ ⟨trivial,trivial⟩ rfl rfl rfl rfl rfl rfl) rfl rfl ?_);refine⟨by kernel_rfl,RegG.via (fun _ h=>cz [4,5,6,7,8] 1 0 0 [vI k0.b.n,.tree 1 ((srtU k0.b.U).map iA),.tree 1 ((srtU k0.b.N).map iA),.sl 4 k0.b.A.length 0 k0.b.A.length,.sl 5 k0.b.I.length 0 k0.b.I.length,.sl 6 k0.b.T.length 0 k0.b.T.length,.sl 7 k0.b.S.length 0 k0.b.S.length,.sl 8 k0.b.D.length 0 k0.b.D.length] [vI k0.b.n,.tree 1 ((srtU k0.b.U).map iA),.tree 1 ((srtU k0.b.N).map iA),.tree 4 (k0.b.A.map axA),.tree 3 (k0.b.I.map cnA),.tree 4 (k0.b.T.map teA),.tree 2 (k0.b.S.map paA),.tree 2 (k0.b.D.map paA)] rfl rfl (.keep (.keep (.keep (.fz (FzP.rows da (by simp) rfl) (.fz (FzP.rows cg (by simp) rfl) (.fz (FzP.rows cr (by simp) rfl) (.fz (FzP.rows bh (by simp) rfl) (.fz (FzP.rows bh (by simp) rfl) (.same _))))))))) rfl h) ?_⟩;refine ay (rtK rfl am9 rfl ⟨[],FzP.pure rfl⟩ ?_);have hb:=h0;rw[h9,List.take_length]at hb;exact⟨k0.b,rfl,hb⟩
theorem agk(h:FmK l r):FmK l (lf l r):=by
 induction h with
 |mk x hk hl ha h ih=>
  rw[om]
  by_cases h2:x.c_=2
  ·rw[azg h2]
   split
   ·refine .mk (cnF _) ?_ (azk _) (fun e=>?_) (fun _ r hr=>by simp[cnF]at hr)
    ·show(if(x.e_.c_==1)=true then(0:Int)else 1)=0\/(if(x.e_.c_==1)=true then(0:Int)else 1)=1\/(if(x.e_.c_==1)=true then(0:Int)else 1)=2
     split<;>simp
    ·exfalso
     have e:(if(x.e_.c_==1)=true then(0:Int)else 1)=2:=e
     split at e<;>omega
   ·exact .mk x hk hl ha h
  ·rw[azf h2]
   exact .mk ⟨x.c_,zAt,x.b_.map (lf l)⟩ hk (by simpa using hl) (fun e=>absurd e h2) fun _ r hr=>by
    obtain⟨q,hq,rfl⟩:=azy.1 hr;exact ih h2 q hq
theorem Q3{α:Type}{f g:α->Nat}:∀{l:List α},(∀a∈l,f a<=g a)->(l.map f).sum<=(l.map g).sum
 |[],_=>azm _
 |a::l,h=>by have h1:=h a (by simp);have h2:=Q3 (l:=l) fun b hb=>h b (List.mem_cons_of_mem _ hb);simp only[azw,List.sum_cons];omega
theorem at4(w:GAt->Nat)(b:Bool):wgR w (fmA (cnF b))=0:=by rw[uk];have:¬(cnF b).c_=2:=(by unfold cnF;show¬(if b=true then(0:Int)else 1)=2;split<;>decide);rw[azf this];rfl
def ab3(w:GAt->Nat)(l:List PVar)(hr:IsFm r):wgR w (lf l r)<=wgR w r:=
 IsFm.ind (M:=fun r=>wgR w (lf l r)<=wgR w r) (fun x hx ih=>by rw[om];by_cases h2:x.c_=2;rw[azg h2];split;rw[at4];exact azk _;exact azm _;rw[azf h2,uk,uk,azf h2,azf h2];show((x.b_.map (lf l)).map (wgR w)).sum<=_;rw[List.map_map];exact Q3 ih) hr
inductive ClsR(l:List PVar)(n:Int):List (List GLit)->List PCl->Prop
 |nil:ClsR l n [] []
 |snoc (X:List (List GLit)) (C:List PCl) (xs:List GLit) (b:KBl) (h:ClsR l n X C) (hb:BldR l (b00 n) xs b):ClsR l n (X++[xs]) (C++[l9 b])
def aq3(hk:k<X.length)(h:ClsR l n (X.take k) C)(hb:BldR l (b00 n) X[k] b):ClsR l n (X.take (k+1)) (C++[l9 b]):=by rw[azj hk];exact .snoc _ _ _ _ h hb
theorem ajs(h:ClsR l n X C):C.length=X.length:=by
 induction h with
 |nil=>rfl
 |snoc X C xs b h hb ih=>rw[azb,azb,ih];rfl
theorem Bl(h:ClsR l n X C):(∀c∈C,∃xs∈X,∃b,c=l9 b/\BldR l (b00 n) xs b)/\(∀xs∈X,∃b,l9 b∈C/\BldR l (b00 n) xs b):=by
 induction h with
 |nil=>exact⟨by simp,by simp⟩
 |snoc X C xs b h hb ih=>
  constructor
  ·intro c hc
   rcases azd.1 hc with hc|hc
   ·obtain⟨y,hy,b',h1,h2⟩:=ih.1 c hc;exact⟨y,by simp[hy],b',h1,h2⟩
   ·exact⟨xs,by simp,b,azc.1 hc,hb⟩
  ·intro y hy
   rcases azd.1 hy with hy|hy
   ·obtain⟨b',h1,h2⟩:=ih.2 y hy;exact⟨b',by simp[h1],h2⟩
   ·rw[azc.1 hy];exact⟨b,by simp,hb⟩
structure FmOk(l:List PVar)(r:List AV):Prop where
 fit:IsFm r
 k:FmK l r
 w:wgR w1 r<=100000
 x:∀c∈exR (lf l r),∀x∈c,LitOk l x
theorem FmOk.len(h:FmOk l r):∀c∈exR (lf l r),c.length<=100000:=fun c hc=>by have:=Uv w1 _ (rz l h.fit) c hc;rw[alo]at this;exact azp this (azp (ab3 w1 l h.fit) h.w)
def Dt:RowF clA 7:=⟨fun _=>rfl,fun _=>rfl,fun _ _=>rfl,fun _ _=>rfl,fun _ _=>rfl,fun _=>rfl⟩
def axx:(prog.info? 128).map (·.bytes)=some 168:=by kernel_rfl
def auw:aj prog 128=some 7:=by kernel_rfl
def aty:bp prog 128=some (.agg #[.slice none 0 0,.slice none 0 0,.slice none 0 0,.slice none 0 0,.slice none 0 0,.slice none 0 0,.slice none 0 0]):=by kernel_rfl
def Pf(f:GFm)(hf:FitFm f)(vs:List PVar)(h5:bq vs (fun y=>True))(h1:FmOk vs (fmA f))(hv1:vs.length<=1000):PRet prog 137 [.agg (fmA f),.tree 5 (vs.map vA)] (fun q=>∃(C:List PCl) (e:Int),q=.tup [.tree 7 (C.map clA),vI e]/\((kq vs (fmA f)>256/\e=3/\C=[])\/(kq vs (fmA f)<=256/\e=0/\ClsR vs ((vs.length:Nat):Int) (exR (lf vs (fmA f))) C))):=by obtain⟨g,h2,hg⟩:=(rz vs h1.fit).open_;have h6:FmK vs (fmA g):=h2▸agk h1.k;have h7:wgR w1 (fmA g)<=100000:=h2▸azp (ab3 w1 vs h1.fit) h1.w;have h8:∀c∈exR (fmA g),∀x∈c,LitOk vs x:=h2▸h1.x;have h9:∀c∈exR (fmA g),c.length<=100000:=h2▸h1.len;have hct:iq (fmA g)=kq vs (fmA f):=h2▸Vq vs h1.k;refine ovT [] [] func137 rfl rfl (ArgG.mk ((show PRet prog 188 [.agg (fmA f),.tree 5 (vs.map vA)] (fun q=>q=.agg (fmA g))by have h:=N5 vs h5 _ h1.fit h1.k;rwa [h2]at h)) rfl ?_);rintro _ rfl;refine ArgG.mk (M5 (fmA g) (yk hg)) rfl ?_;rintro _ rfl;apply cD<;>intro hq14;exact⟨.inr rfl,_,dh rfl (afe.tmp ⟨[],FzP.nil (n:=7)⟩) (afe.tmp ⟨[],FzP.pure rfl⟩),⟨[],3,rfl,.inl ⟨by omega,rfl,rfl⟩⟩⟩;have hxl:=Bb (fmA g) (yk hg) (by omega);refine ArgG.mk (aaf vs (fmA g) (yk hg) h6 (by omega) h7) rfl ?_;rintro _ rfl;refine LenG.of (LpG.via (fun _ h=>bl 6 7 rfl 2 rfl h) ?_);refine LpG.on (fun k0:KL PCl=>(⟨fL [(1,.tree 5 (vs.map vA)),(6,.sl 1 k0.L.length 0 k0.L.length),(16,.tree 1 (((exR (fmA g))).map (fun l=>[.tree 10 (l.map lyA)]))),(17,vI ((((exR (fmA g))).length:Nat):Int)),(18,vI k0.k)],hLz [(1,⟨k0.L.length,rF clA k0.L,7,Nat.beq k0.L.length 0⟩)],2⟩:St)) (fun k0=>((exR (fmA g)).length-k0.k)) (fun k0=>(k0.k<=(exR (fmA g)).length/\(ClsR vs ((vs.length:Nat):Int) ((exR (fmA g)).take k0.k) k0.L/\k0.L.length=k0.k))) (⟨0,[]⟩:KL PCl) (cnS (by rfl) (hpS (ab Dt _ _) (by rfl) trivial)) ⟨azk _,⟨.nil,rfl⟩⟩ ?_;rintro k0 h4;obtain⟨hle_k0,h0⟩:=h4;apply cL<;>intro h3;refine IdxG.of ‹_› (LenG.of ?_);refine ArgG.mk (aa2 vs ((vs.length:Nat):Int) rfl (by omega) (exR (fmA g))[k0.k] (h8 _ (ay7 _)) (h9 _ (ay7 _))) rfl ?_;rintro _ ⟨b3,rfl,ha⟩;refine OpG.mk _ _ _ 3 (ah Dt (a:=(l9 b3)) underlying79 auw aty axx rfl rfl rfl (am rfl rfl rfl rfl) rfl (by omega) (by omega) (by unfold TV;omega)) rfl rfl ⟨by omega,⟨(⟨k0.k+1,k0.L++[(l9 b3)]⟩:KL PCl),(by show(exR (fmA g)).length-(k0.k+1)<(exR (fmA g)).length-k0.k;omega),(cO (.cons rfl rfl (.cons (by(rw[azb];rfl)) rfl (.cons rfl rfl (.cons rfl rfl (.cons rfl rfl .nil))))) (.cons (by(rw[azb];rfl)) rfl (ab Dt _ _) .nil)),?_⟩⟩;exact⟨‹_›,⟨aq3 h3 h0.1 ha,by show(_++[_]).length=_;rw[azb,h0.2];rfl⟩⟩;refine⟨.inr rfl,_,dh rfl (afe.tmp ⟨[1],FzP.rows Dt (azc.2 rfl) rfl⟩) (afe.tmp ⟨[],FzP.pure rfl⟩),?_⟩;have hc:=h0.1;rw[az0 (by omega)]at hc;exact⟨k0.L,0,rfl,.inr ⟨by omega,rfl,h2▸hc⟩⟩
def Y9(tb:Int)(nc:Int)(vs:List PVar)(h4:bq vs (fun y=>True))(f:GFm)(hf:FitFm f)(h5:FmOk vs (fmA f))(h6:vs.length<=1000):PRet prog 80 [vI tb,vI nc,.tree 5 (vs.map vA),.agg (fmA f)] (fun q=>∃(p:PPred) (e:Int),q=.tup [.agg (prA p),vI e]/\((kq vs (fmA f)>256/\e=3)\/(kq vs (fmA f)<=256/\e=0/\p.tab=tb/\p.cols=nc/\p.vars=vs/\ClsR vs ((vs.length:Nat):Int) (exR (lf vs (fmA f))) p.cls))):=by refine ovT [] [] func80 rfl rfl (ArgG.mk (Pf f hf vs h4 h5 h6) rfl ?_);rintro _ ⟨C,e,rfl,hC⟩;apply cN<;>intro h0;refine rtC rfl yg rfl ⟨[],FzP.aggL (.cons (.pure rfl) (.cons (.pure rfl) (.cons (FzP.nil (n:=5)) (.cons (FzP.nil (n:=7)) .nil))))⟩ ?_;rcases hC with⟨h1,h2,_⟩|⟨_,h2,_⟩;exact⟨⟨0,0,[],[]⟩,e,rfl,.inl ⟨h1,h2⟩⟩;exact absurd h2 h0;refine ArgG.mk (PRet.of_call (CloneL.tree cl_V (fun _=>rfl) vs (by omega))) rfl ?_;rintro _ rfl;refine rtP rfl yg rfl ?_;rcases hC with⟨_,h2,_⟩|⟨h1,h2,h3⟩;omega;exact⟨⟨tb,nc,vs,C⟩,0,rfl,.inr ⟨h1,rfl,rfl,rfl,rfl,h3⟩⟩
def isI(x:GLit):Prop:=x.e_.c_=2\/x.e_.c_=3\/x.e_.c_=4
def ak7(x:GLit):PTest:=⟨x.e_.p_,x.e_.x_.kd,x.e_.x_.ng,x.e_.x_.s⟩
def nnP(x:GLit)(v:Int):Prop:=(isI x/\v∈d7 (tmA x.e_.o_))\/((x.e_.c_=1\/x.e_.c_=5\/x.e_.c_=6\/x.e_.c_=7)/\v=x.e_.p_)\/((x.e_.c_=6\/x.e_.c_=7)/\v=x.e_.w_)
theorem Ba{xs:List α}{y:α}{P:α->Prop}:(∃x∈xs++[y],P x)↔(∃x∈xs,P x)\/P y:=by simp
section
variable{l:List PVar}{x:GLit}{b b':KBl}
theorem ayw(h:AddR l x b b')(v:Int):v∈b'.U↔v∈b.U\/(x.e_.c_=0/\x.e_.p_=v):=by
 cases h with
 |nul h=>simp[h,eq_comm]
 |nnl h=>simp[h]
 |tes h=>simp[h]
 |sam h=>simp[h]
 |dif h=>simp[h]
 |int A1 f1 h hp hw hr hz=>have h0:¬x.e_.c_=0:=(by omega);simp[h0]
theorem atb(h:AddR l x b b')(v:Int):v∈b'.N↔v∈b.N\/nnP x v:=by
 unfold nnP isI
 cases h with
 |nul h=>simp[h]
 |nnl h=>simp[h]
 |tes h=>simp[h]
 |sam h=>simp[h,or_assoc]
 |dif h=>simp[h,or_assoc]
 |int A1 f1 h hp hw hr hz=>
  rw[azd,la]
  constructor
  ·rintro(h1|h1)
   ·exact .inl h1
   ·exact .inr (.inl ⟨h,h1⟩)
  ·rintro(h1|⟨_,h1⟩|⟨h1,_⟩|⟨h1,_⟩)
   ·exact .inl h1
   ·exact .inr h1
   ·omega
   ·omega
theorem ayx(h:AddR l x b b')(t:PTest):t∈b'.T↔t∈b.T\/(x.e_.c_=5/\t=ak7 x):=by
 unfold ak7
 cases h with
 |nul h=>simp[h]
 |nnl h=>simp[h]
 |tes h=>simp[h]
 |sam h=>simp[h]
 |dif h=>simp[h]
 |int A1 f1 h hp hw hr hz=>have h0:¬x.e_.c_=5:=(by omega);simp[h0]
theorem ayy(h:AddR l x b b')(t:Int×Int):t∈b'.S↔t∈b.S\/(x.e_.c_=6/\t=(x.e_.p_,x.e_.w_)):=by
 cases h with
 |nul h=>simp[h]
 |nnl h=>simp[h]
 |tes h=>simp[h]
 |sam h=>simp[h]
 |dif h=>simp[h]
 |int A1 f1 h hp hw hr hz=>have h0:¬x.e_.c_=6:=(by omega);simp[h0]
theorem ay1(h:AddR l x b b')(t:Int×Int):t∈b'.D↔t∈b.D\/(x.e_.c_=7/\t=(x.e_.p_,x.e_.w_)):=by
 cases h with
 |nul h=>simp[h]
 |nnl h=>simp[h]
 |tes h=>simp[h]
 |sam h=>simp[h]
 |dif h=>simp[h]
 |int A1 f1 h hp hw hr hz=>have h0:¬x.e_.c_=7:=(by omega);simp[h0]
theorem akq(h:AddR l x b b'):b.A<+:b'.A:=by
 cases h with
 |int A1 f1 h hp hw hr hz=>exact hp
 |_=>exact List.prefix_rfl
theorem ay0(h:AddR l x b b'):(∀c∈b'.I,c∈b.I\/(isI x/\∃f,c=kv x f/\RepT b'.n b'.A (tmA x.e_.o_) f))/\(∀c∈b.I,c∈b'.I)/\(isI x->∃f,kv x f∈b'.I/\RepT b'.n b'.A (tmA x.e_.o_) f):=by
 unfold isI;cases h with
 |int A1 f1 h hp hw hr hz=>
  refine⟨fun c hc=>?_,fun c hc=>azd.2 (.inl hc),fun _=>⟨f1,by simp,hr⟩⟩
  rcases azd.1 hc with hc|hc
  ·exact .inl hc
  ·exact .inr ⟨h,f1,azc.1 hc,hr⟩
 |nul h=>exact⟨fun c hc=>.inl hc,fun c hc=>hc,fun e=>by omega⟩
 |nnl h=>exact⟨fun c hc=>.inl hc,fun c hc=>hc,fun e=>by omega⟩
 |tes h=>exact⟨fun c hc=>.inl hc,fun c hc=>hc,fun e=>by omega⟩
 |sam h=>exact⟨fun c hc=>.inl hc,fun c hc=>hc,fun e=>by omega⟩
 |dif h=>exact⟨fun c hc=>.inl hc,fun c hc=>hc,fun e=>by omega⟩
end
section
variable{l:List PVar}{n:Int}{xs:List GLit}{b:KBl}
theorem aa5(h:BldR l (b00 n) xs b)(v:Int):v∈b.U↔∃x∈xs,x.e_.c_=0/\x.e_.p_=v:=by
 induction h with
 |nil=>simp[b00]
 |snoc xs x b b' h hx ih=>rw[ayw hx,ih,Ba]
theorem Wn(h:BldR l (b00 n) xs b)(v:Int):v∈b.N↔∃x∈xs,nnP x v:=by
 induction h with
 |nil=>simp[b00]
 |snoc xs x b b' h hx ih=>rw[atb hx,ih,Ba]
theorem Wm(h:BldR l (b00 n) xs b)(t:PTest):t∈b.T↔∃x∈xs,x.e_.c_=5/\t=ak7 x:=by
 induction h with
 |nil=>simp[b00]
 |snoc xs x b b' h hx ih=>rw[ayx hx,ih,Ba]
theorem aa6(h:BldR l (b00 n) xs b)(t:Int×Int):t∈b.S↔∃x∈xs,x.e_.c_=6/\t=(x.e_.p_,x.e_.w_):=by
 induction h with
 |nil=>simp[b00]
 |snoc xs x b b' h hx ih=>rw[ayy hx,ih,Ba]
theorem aa7(h:BldR l (b00 n) xs b)(t:Int×Int):t∈b.D↔∃x∈xs,x.e_.c_=7/\t=(x.e_.p_,x.e_.w_):=by
 induction h with
 |nil=>simp[b00]
 |snoc xs x b b' h hx ih=>rw[ay1 hx,ih,Ba]
theorem Wo(h:BldR l (b00 n) xs b):(∀c∈b.I,∃x∈xs,isI x/\∃f,c=kv x f/\RepT n b.A (tmA x.e_.o_) f)/\(∀x∈xs,isI x->∃f,kv x f∈b.I/\RepT n b.A (tmA x.e_.o_) f):=by
 induction h with
 |nil=>simp[b00]
 |snoc xs x b b' h hx ih=>
  obtain⟨h1,h2,h3⟩:=ay0 hx
  have hp:=akq hx
  have hn:b'.n=n:=by rw[akr hx];exact Wl h
  rw[hn]at h1 h3
  constructor
  ·intro c hc
   rcases h1 c hc with hc|⟨hi,f,h4,h5⟩
   ·obtain⟨y,hy,hi,f,h4,h5⟩:=ih.1 c hc
    exact⟨y,by simp[hy],hi,f,h4,h5.mono hp⟩
   ·exact⟨x,by simp,hi,f,h4,h5⟩
  ·intro y hy hi
   rcases azd.1 hy with hy|hy
   ·obtain⟨f,h4,h5⟩:=ih.2 y hy hi
    exact⟨f,h2 _ h4,h5.mono hp⟩
   ·rw[azc.1 hy]at hi ⊢
    exact h3 hi
end
def pk(l:List PVar)(v:Int):Prop:=∃j,j<l.length/\v=((j:Nat):Int)
def TyV.inn{k:Int}(h:TyV l k v):pk l v:=by obtain⟨j,hj,e,_⟩:=h;exact⟨j,hj,e⟩
structure LitV(l:List PVar)(x:GLit):Prop where
 v0:x.e_.c_=0\/x.e_.c_=1->pk l x.e_.p_
 v5:x.e_.c_=5->TyV l 2 x.e_.p_/\af8 (ak7 x)=true
 v6:x.e_.c_=6\/x.e_.c_=7->TyV l 2 x.e_.p_/\TyV l 2 x.e_.w_/\x.e_.p_<x.e_.w_
def aoh(hr:IsTm r):TmV l r->∀v∈d7 r,pk l v:=
 IsTm.ind (M:=fun r=>TmV l r->∀v∈d7 r,pk l v) (fun x hx ih hv v hm=>by rw[dj,List.mem_flatMap]at hm;obtain⟨p,hp,hm⟩:=hm;have h1:=tmV.1 hv p hp;have hk:=(hx.a_.2 p hp).kd;unfold lm at hm;by_cases h2:p.c_=2;rw[azg h2]at hm;obtain⟨o,ho⟩:=az4.1 (hk.2.1 h2).1;have h3:o∈p.of_:=(by rw[ho];simp);rw[ho]at hm;exact ih p hp o h3 (h1.2.2.1 h2 o h3) v (by simpa[ve]using hm);rw[azf h2,azc]at hm;subst hm;have:=hk.1;by_cases h0:p.c_=0;exact(h1.1 h0).inn;exact(h1.2.1 (by omega)).inn) hr
section
variable{l:List PVar}{n:Int}{xs:List GLit}{b:KBl}
def aos(hx:∀x∈xs,LitOk l x)(hv:∀x∈xs,LitV l x)(h:BldR l (b00 n) xs b):∀v∈b.N,pk l v:=fun v hm=>by obtain⟨x,h0,hp⟩:=(Wn h v).1 hm;have hl:=hv x h0;rcases hp with⟨hi,ho⟩|⟨hk,rfl⟩|⟨hk,rfl⟩;have ht:=(hx x h0).tm hi;exact aoh (Cr ht.tm) ht.tv v ho;rcases hk with hk|hk|hk|hk;exact hl.v0 (.inr hk);exact(hl.v5 hk).1.inn;exact(hl.v6 (.inl hk)).1.inn;exact(hl.v6 (.inr hk)).1.inn;exact(hl.v6 hk).2.1.inn
def Nl{L:List Int}(h:∀v∈L,pk l v):alf (srtU L) ((l.length:Nat):Int)=true:=by unfold alf;rw[mn];intro j hj;have h5:=qv (l:=L);have e:(srtU L).getD j 0=(srtU L)[j]:=(by simp[hj]);obtain⟨i,hi,e2⟩:=h _ (la.1 (ay7 hj));unfold ascP;rw[e,e2];have h1:¬((i:Nat):Int)<0:=(by omega);have h2:¬((i:Nat):Int)≥((l.length:Nat):Int):=(by omega);by_cases h0:0<j;have e3:(srtU L).getD (j-1) 0=(srtU L)[j-1]'(by omega):=(by simp[show j-1<(srtU L).length by omega]);have h3:=List.pairwise_iff_getElem.1 h5 (j-1) j (by omega) hj (by omega);rw[e3];have h4:¬(srtU L)[j-1]'(by omega)≥((i:Nat):Int):=(by omega);simp[h1,h2,h4];simp[h1,h2,h0]
theorem K2(h:TyV l 2 v)(hn:v∈nn):af0 v nn l=true:=by obtain⟨j,hj,e,ht⟩:=h;unfold af0;subst e;simp[hj,ht,T9 hn]
end
def bvN(n:Int)(bs:List Int)(v:Int):Int:=if v≥n then bs.getD (v-n).toNat 0 else 2147483648
def pu(n:Int)(bs:List Int):List PCoef->Int
 |[]=>0
 |c::cs=>cq c.n*bvN n bs c.v+pu n bs cs
def bdF(n:Int)(bs:List Int)(f:PLin):Int:=cq f.k+pu n bs f.cs
section
variable{n:Int}{bs:List Int}{l:List PVar}
theorem yz(a b:List PCoef):pu n bs (a++b)=pu n bs a+pu n bs b:=by
 induction a with
 |nil=>simp[pu]
 |cons c a ih=>simp only[List.cons_append,pu,ih];omega
theorem Q6{a b:List PCoef}(h:a.Perm b):pu n bs a=pu n bs b:=by
 induction h with
 |nil=>rfl
 |cons x _ ih=>simp only[pu,ih]
 |swap x y l=>simp only[pu];omega
 |trans _ _ h1 h2=>rw[h1,h2]
def axy(h:∀b∈bs,0<=b)(v:Int):0<=bvN n bs v:=by unfold bvN;split;by_cases hj:(v-n).toNat<bs.length;rw[List.getD_eq_getElem?_getD,ay8 hj];exact h _ (ay7 hj);rw[List.getD_eq_getElem?_getD,List.getElem?_eq_none (by omega)];exact Int.le_refl 0;decide
theorem Dp(h:∀b∈bs,0<=b)(cs:List PCoef):0<=pu n bs cs:=by
 induction cs with
 |nil=>exact Int.le_refl 0
 |cons c cs ih=>simp only[pu];have:=Int.mul_nonneg (oq c.n) (axy (n:=n) h c.v);omega
def Wu(h:∀b∈bs,0<=b)(f:PLin):0<=bdF n bs f:=by have h1:=oq f.k;have h2:=Dp (n:=n) h f.cs;unfold bdF;omega
theorem Ut(f:PLin):∀k,k<=f.cs.length->fS f l bs k=cq f.k+pu (((l.length:Nat):Int)) bs (f.cs.take k)
 |0,_=>by simp[fS,pu]
 |k+1,hk=>by have e:f.cs.getD k default=f.cs[k]:=(by simp[show k<f.cs.length by omega]);rw[azj (by omega),yz,fS,Ut f k (by omega),e];simp only[pu,fB,e,bvN];omega
structure LinV(l:List PVar)(nn:List Int)(m:Nat)(f:PLin):Prop where
 asc:(f.cs.map (·.v)).Pairwise (· < ·)
 rng:∀c∈f.cs,0<=c.v/\c.v<((l.length:Nat):Int)+((m:Nat):Int)
 nz:∀c∈f.cs,c.n≠0/\-1048576<=c.n/\c.n<=1048576
 ty:∀c∈f.cs,c.v<((l.length:Nat):Int)->TyV l 1 c.v/\c.v∈nn
def ap4(hv:LinV l nn bs.length f)(hk:-1099511627777<=f.k/\f.k<=1099511627777)(hb:∀b∈bs,0<=b)(hm:bdF ((l.length:Nat):Int) bs f<=1152921504606846977):fV f nn l bs=bdF ((l.length:Nat):Int) bs f:=by
 unfold fV
 have h4:yq f.cs.length (fOk f nn l bs)=true:=by
  rw[mn];intro j hj;have e:f.cs.getD j default=f.cs[j]:=by simp[hj]
  have hc:f.cs[j]∈f.cs:=ay7 hj;have h1:=hv.rng _ hc
  have h2:=hv.nz _ hc;have h3:=hv.ty _ hc
  have h9:=Ut (l:=l) (bs:=bs) f (j+1) (by omega);have hsp:pu ((l.length:Nat):Int) bs f.cs=pu ((l.length:Nat):Int) bs (f.cs.take (j+1))+pu ((l.length:Nat):Int) bs (f.cs.drop (j+1)):=by rw[<-yz,List.take_append_drop]
  have hsd:=Dp (n:=((l.length:Nat):Int)) hb (f.cs.drop (j+1));have hst:=Dp (n:=((l.length:Nat):Int)) hb (f.cs.take j)
  have hka:=oq f.k;have hd:fS f l bs (j+1)<=1152921504606846977:=by unfold bdF at hm;omega
  have h5:cq f.cs[j].n*bvN ((l.length:Nat):Int) bs f.cs[j].v<=1152921504606846977:=by rw[azj hj,yz]at h9;simp only[pu]at h9;omega
  have he:0<cq f.cs[j].n:=by unfold cq;split<;>omega
  have hf:fB f l bs j=bvN ((l.length:Nat):Int) bs f.cs[j].v:=by unfold fB bvN;rw[e]
  have h6:fB f l bs j<=1152921504606846977/cq (f.cs.getD j default).n:=by rw[e,hf,Int.le_ediv_iff_mul_le he,Int.mul_comm];exact h5
  have h7:aww f l bs j=false:=by
   unfold aww;rw[e];have a1:decide (f.cs[j].v<0)=false:=by simp;omega
   have a2:decide (f.cs[j].v≥((l.length:Nat):Int)+bs.length)=false:=by simp;omega
   have a4:(f.cs[j].n==0)=false:=by simpa using h2.1
   have a5:wiB f.cs[j].n (-1048576) 1048576=true:=by unfold wiB;simp;omega
   have a3:(decide (0<j)&&decide ((f.cs.getD (j-1) default).v≥f.cs[j].v))=false:=by
    by_cases h0:0<j;have e2:f.cs.getD (j-1) default=f.cs[j-1]'(by omega):=by simp[show j-1<f.cs.length by omega]
    have:=List.pairwise_iff_getElem.1 hv.asc (j-1) j (by rw[aze];omega) (by rw[aze];omega) (by omega);simp only[List.getElem_map]at this;rw[e2];simp[h0];omega;simp[h0]
   rw[a1,a2,a3,a4,a5];rfl
  have hg:fTy f nn l j=false:=by
   unfold fTy;rw[e];by_cases ha:f.cs[j].v<((l.length:Nat):Int);obtain⟨⟨i,hi,e1,ht⟩,h8⟩:=h3 ha;have a1:(l.getD f.cs[j].v.toNat default).t==1:=by rw[e1];simp[hi,ht]
   rw[a1,T9 h8];simp;simp[ha]
  unfold fOk;rw[h7,hg];simp only[Bool.not_false,Bool.true_and,az8,az9];exact⟨h6,hd⟩
 have hw:wiB f.k (-1099511627777) 1099511627777=true:=by unfold wiB;simp;omega
 rw[hw,h4];simp only[Bool.and_self,if_true];rw[Ut f _ (azm _),List.take_length];rfl
def atj(n:Int)(L:List PAux)(bs:List Int):Prop:=∀j x,L[j]? =some x->bs.getD j 0=(if x.by_=0 then 16 else bdF n bs x.of_/x.by_+1)
theorem Lg:∀(ps:List GPart) (vs:List Int),vs.length=ps.length->(∀i (h:i<ps.length),bvN n bs (vs.getD i 0)=bdK ps[i])->pu n bs ((vw vs ps).map fun p=>⟨p.1,p.2⟩)=bdS ps
 |[],[],_,_=>rfl
 |[],_::_,h,_=>by simp at h
 |_::_,[],h,_=>by simp at h
 |p::ps,v::vs,h,hb=>by have ih:=Lg ps vs (by simpa using h) (fun i hi=>by have:=hb (i+1) (by simp;omega);simpa using this);have h0:=hb 0 (by simp);simp only[vw,azw,List.zip_cons_cons,pu,bdS]at ih ⊢;rw[ih];simp only[List.getD_cons_zero,List.getElem_cons_zero]at h0;rw[h0]
def Dx{x:GTm}(hn:n=((l.length:Nat):Int))(hx:FitTm x)(hv:TmV l (tmA x))(l1:vs.length=x.a_.length)(a1:∀i (h:i<x.a_.length),P7 n L x.a_[i] (vs.getD i 0) (gs.getD i wj))(a2:∀i (h:i<x.a_.length),x.a_[i].c_=2->∀r∈x.a_[i].of_,RepT n L r (gs.getD i wj)):
 vs.Nodup/\(B4 (vw vs x.a_)).Perm ((vw vs x.a_).map fun p=>⟨p.1,p.2⟩):=by
 have h0:vs.Nodup:=Rr hn hx hv (azm _) l1 (fun i h _=>a1 i h) (fun i h _=>a2 i h) (apw hn hx hv L)
 exact⟨h0,Bj (C3 hx) (by rw[sc l1];exact h0)⟩
theorem anb(hn:n=((l.length:Nat):Int))(hb:atj n L bs)(hr:IsTm r):TmV l r->∀f,RepT n L r f->bdF n bs f=bdL r:=
 IsTm.ind (M:=fun r=>TmV l r->∀f,RepT n L r f->bdF n bs f=bdL r) (fun x hx ih hv f h=>by obtain⟨vs,gs,l1,l2,a1,a2,rfl⟩:=mt h;obtain⟨_,hp⟩:=Dx hn hx hv l1 a1 a2;have h2:=tmV.1 hv;rw[ni];show cq x.f_+pu n bs (B4 (vw vs x.a_))=_;rw[Q6 hp,Lg x.a_ vs l1];intro i hi;have hr:=a1 i hi;have hf:=hx.a_.2 _ (ay7 hi);have hk:=hf.kd;have hm:=h2 _ (ay7 hi);have k3:x.a_[i].c_=0\/x.a_[i].c_=1\/x.a_[i].c_=2:=(by have:=hk.1;omega);unfold bdK;rcases k3 with k3|k3|k3;obtain⟨j,hj,e1,_⟩:=hm.1 k3;have e:=hr.1 k3;rw[azf (by omega),azf (by omega),e];unfold bvN;rw[azf (by omega)];obtain⟨j,e1,e2⟩:=hr.2.1 k3;rw[azf (by omega),azg k3,e2];unfold bvN;rw[azg (by omega),show(n+((j:Nat):Int)-n).toNat=j by omega,hb j _ e1];rfl;obtain⟨j,e1,e2⟩:=hr.2.2 k3;rw[azg k3,e2];unfold bvN;rw[azg (by omega),show(n+((j:Nat):Int)-n).toNat=j by omega,hb j _ e1];have hby:=(hk.2.1 k3).2;obtain⟨o,ho⟩:=az4.1 (hk.2.1 k3).1;have h1:o∈x.a_[i].of_:=(by rw[ho];simp);have e3:=ih _ (ay7 hi) o h1 (hm.2.2.1 k3 o h1) _ (a2 i hi k3 o h1);show(if x.a_[i].by_=0 then(16:Int)else bdF n bs (gs.getD i wj)/x.a_[i].by_+1)=_;rw[azf (by omega),e3,ho];have h0:=(Ws (hf.of_.2 o h1)).1;have e4:ale [o]=bdL o:=(by simp only[ale]);rw[e4,Int.tdiv_eq_ediv_of_nonneg h0]) hr
def I8{x:GTm}(hn:n=((l.length:Nat):Int))(hx:FitTm x)(hv:TmV l (tmA x))(hs:smR (tmA x)=true)(ho:∀v∈d7 (tmA x),v∈nn)(h:RepT n L (tmA x) f):LinV l nn L.length f:=by
 obtain⟨vs,gs,l1,l2,a1,a2,rfl⟩:=mt h;obtain⟨h3,hp⟩:=Dx hn hx hv l1 a1 a2;have h1:=tmV.1 hv
 have h0:∀c∈B4 (vw vs x.a_),∃i,∃hi:i<x.a_.length,c.v=vs.getD i 0/\c.n=x.a_[i].i_:=fun c hc=>by obtain⟨p,h4,rfl⟩:=azy.1 (hp.mem_iff.1 hc);obtain⟨i,hi,rfl⟩:=azs h4;rw[oe l1]at hi;exact⟨i,hi,by rw[ud l1 hi];simp[show i<vs.length by omega],by rw[ud l1 hi]⟩
 have h2:∀{j:Nat} {y:PAux},L[j]? =some y->j<L.length:=fun e=>(az2.1 e).1;refine⟨Vp (C3 hx) (by rw[sc l1];exact h3),fun c hc=>?_,fun c hc=>?_,fun c hc h5=>?_⟩;obtain⟨i,hi,e,_⟩:=h0 c hc;have hr:=a1 i hi
 have hk:=(hx.a_.2 _ (ay7 hi)).kd;have k3:x.a_[i].c_=0\/x.a_[i].c_=1\/x.a_[i].c_=2:=by have:=hk.1;omega
 rw[e];rcases k3 with k3|k3|k3;obtain⟨j,hj,e1,_⟩:=(h1 _ (ay7 hi)).1 k3;rw[hr.1 k3];omega;obtain⟨j,e1,e2⟩:=hr.2.1 k3;have:=h2 e1
 omega;obtain⟨j,e1,e2⟩:=hr.2.2 k3;have:=h2 e1
 omega;obtain⟨i,hi,_,e⟩:=h0 c hc;rw[e];exact⟨hx.srt.2 _ (ay7 hi),((fb x).1 hs).1.2 _ (ay7 hi)⟩;obtain⟨i,hi,e,_⟩:=h0 c hc;have hr:=a1 i hi
 have hk:=(hx.a_.2 _ (ay7 hi)).kd;have k3:x.a_[i].c_=0\/x.a_[i].c_=1\/x.a_[i].c_=2:=by have:=hk.1;omega
 have hc2:c.v<((l.length:Nat):Int):=h5;rcases k3 with k3|k3|k3;have e3:=hr.1 k3
 have:c.v=x.a_[i].p_:=by rw[e,e3]
 rw[this];exact⟨(h1 _ (ay7 hi)).1 k3,ho _ (by rw[dj,List.mem_flatMap];exact⟨_,ay7 hi,by unfold lm;rw[azf (by omega)];simp⟩)⟩;obtain⟨j,e1,e2⟩:=hr.2.1 k3;omega;obtain⟨j,e1,e2⟩:=hr.2.2 k3;omega
end
section
variable{n:Int}{bs:List Int}{l:List PVar}
theorem ari(h:v<n+((bs.length:Nat):Int)):bvN n (bs++z) v=bvN n bs v:=by grind[bvN,List.getElem?_append_left]
theorem Lf{z:List Int}:∀{cs:List PCoef},(∀c∈cs,c.v<n+((bs.length:Nat):Int))->pu n (bs++z) cs=pu n bs cs
 |[],_=>rfl
 |c::cs,h=>by simp only[pu];rw[ari (h c (by simp)),Lf fun d hd=>h d (List.mem_cons_of_mem _ hd)]
theorem akf(h:∀c∈f.cs,c.v<n+((bs.length:Nat):Int)):bdF n (bs++z) f=bdF n bs f:=by unfold bdF;rw[Lf h]
theorem abo(a:Int):cq (-a)=cq a:=by unfold cq;split<;>split<;>omega
theorem Le:∀cs:List PCoef,pu n bs (cs.map fun c=>⟨c.v,-c.n⟩)=pu n bs cs
 |[]=>rfl
 |c::cs=>by simp only[azw,pu,abo,Le cs]
def LinV.neg{k:Int}(h:LinV l nn m f):LinV l nn m ⟨k,(Ou f).cs⟩:=by
 have hm:∀c∈(Ou f).cs,∃d∈f.cs,c.v=d.v/\c.n=-d.n:=fun c hc=>by obtain⟨d,hd,rfl⟩:=azy.1 hc;exact⟨d,hd,rfl,rfl⟩
 exact⟨by have e:((Ou f).cs.map (·.v))=f.cs.map (·.v):=(by unfold Ou;rw[List.map_map];rfl);show((Ou f).cs.map (·.v)).Pairwise _;rw[e];exact h.asc,fun c hc=>by obtain⟨d,hd,e,_⟩:=hm c hc;rw[e];exact h.rng d hd,fun c hc=>by obtain⟨d,hd,_,e⟩:=hm c hc;have:=h.nz d hd;rw[e];omega,fun c hc=>by obtain⟨d,hd,e,_⟩:=hm c hc;rw[e];exact h.ty d hd⟩
def LinV.con{k:Int}(h:LinV l nn m f):LinV l nn m ⟨k,f.cs⟩:=⟨h.asc,h.rng,h.nz,h.ty⟩
def Ei{x:GTm}(hn:n=((l.length:Nat):Int))(hx:FitTm x)(hv:TmV l (tmA x))(hs:smR (tmA x)=true)(ho:∀v∈d7 (tmA x),v∈nn)(h:RepT n L (tmA x) f)(hb:atj n L bs):LinV l nn L.length f/\bdF n bs f<=1152921504606846976/\(-1099511627776<=f.k/\f.k<=1099511627776):=⟨I8 hn hx hv hs ho h,by rw[anb hn hb (Cr hx) hv f h];exact((fb x).1 hs).2,by rw[acu h];exact((fb x).1 hs).1.1⟩
end
section
variable{l:List PVar}{c:PCl}{N:List Int}{n:Int}
structure BsI(l:List PVar)(c:PCl)(n:Int)(j:Nat):Prop where
 ok:atj n (c.aux.take j) (s8 c l j)
 nn:∀b∈s8 c l j,0<=b
def ae4(hn:n=((l.length:Nat):Int))(hN:c.nn=srtU N){g:PLin}(ho:TmG l N o)(hr:RepT n L o g):LinV l c.nn L.length g:=by obtain⟨y,rfl,hy⟩:=ho.tm.open_;exact I8 hn hy ho.tv ho.sm (fun v hv=>by rw[hN];exact la.2 (ho.oc v hv)) hr
theorem akh(hn:n=((l.length:Nat):Int))(hN:c.nn=srtU N)(hi:BsI l c n j){g:PLin}(hj:j<=c.aux.length)(ho:TmG l N o)(hr:RepT n (c.aux.take j) o g):fV g c.nn l (s8 c l j)=bdF n (s8 c l j) g:=by obtain⟨y,rfl,hy⟩:=ho.tm.open_;obtain⟨h1,h2,h3⟩:=Ei hn hy ho.tv ho.sm (nn:=c.nn) (fun v hv=>by rw[hN];exact la.2 (ho.oc v hv)) hr hi.ok;rw[List.length_take,Nat.min_eq_left hj]at h1;subst hn;exact ap4 (by rw[v7];exact h1) (by omega) hi.nn (by omega)
def aj1(hn:n=((l.length:Nat):Int))(hN:c.nn=srtU N)(ha:AxW l n N c.aux)(hj:j<c.aux.length)(hi:BsI l c n j):BsI l c n (j+1):=by
 have h2:=v7 c l j
 have h3:∀i (h:i<c.aux.length),i<=j->∀d∈c.aux[i].of_.cs,d.v<n+(((s8 c l j).length:Nat):Int):=fun i h h5 d hd=>by
  rcases ha i h with⟨v,h1,_⟩|⟨o,g,b,h1,_,ho,hr⟩;rw[h1]at hd;simp[yo]at hd;rw[h1]at hd;have:=(ae4 hn hN ho hr).rng d hd
  rw[List.length_take,Nat.min_eq_left (by omega)]at this;rw[h2,hn];omega
 have eD:c.aux.getD j default=c.aux[j]:=by simp[hj]
 have h6:bV c l (s8 c l j) j=(if c.aux[j].by_=0 then 16 else bdF n (s8 c l j) c.aux[j].of_/c.aux[j].by_+1):=by
  unfold bV;rw[eD];rcases ha j hj with⟨v,h1,_⟩|⟨o,g,b,h1,hb,ho,hr⟩;rw[h1];rfl;rw[h1];show(if b=0 then(16:Int)else fV g c.nn l (s8 c l j)/b+1)=_
  rw[akh hn hN hi (by omega) ho hr]
 refine⟨fun i x hx=>?_,fun b hb=>?_⟩;have h7:i<(c.aux.take (j+1)).length:=(az2.1 hx).1
 rw[List.length_take]at h7;have h4:c.aux[i]'(by omega)=x:=by have:=(az2.1 hx).2;rwa [List.getElem_take]at this
 show(s8 c l j++[bV c l (s8 c l j) j]).getD i 0=if x.by_=0 then 16 else bdF n (s8 c l j++[bV c l (s8 c l j) j]) x.of_/x.by_+1
 rw[akf (by rw[<-h4];exact h3 i (by omega) (by omega))];by_cases h5:i<j;have h1:=hi.ok i x (by rw[List.getElem?_take_of_lt h5,ay8 (by omega),h4])
 rw[<-h1,List.getD_eq_getElem?_getD,List.getD_eq_getElem?_getD,List.getElem?_append_left (by omega)];obtain rfl:i=j:=by omega
 rw[List.getD_eq_getElem?_getD,List.getElem?_append_right (by omega),h2,h6,<-h4];simp;rcases azd.1 hb with hb|hb;exact hi.nn b hb;rw[azc.1 hb,h6];by_cases h0:c.aux[j].by_=0;rw[azg h0];decide;rw[azf h0];rcases ha j hj with⟨v,h1,_⟩|⟨o,g,d,h1,hd,ho,hr⟩;exact absurd (by rw[h1];rfl) h0;have e:c.aux[j].by_=d:=by rw[h1]
 have:=Int.ediv_nonneg (Wu (n:=n) hi.nn c.aux[j].of_) (show 0<=c.aux[j].by_ by omega);omega
theorem C9(hn:n=((l.length:Nat):Int))(hN:c.nn=srtU N)(ha:AxW l n N c.aux):∀j,j<=c.aux.length->BsI l c n j
 |0,_=>⟨fun i x hx=>by simp at hx,fun b hb=>by simp[s8]at hb⟩
 |j+1,hj=>aj1 hn hN ha hj (C9 hn hN ha j (by omega))
end
section
variable{l:List PVar}{n:Int}{xs:List GLit}{b:KBl}
def aqs{bs:List Int}{x:GLit}(h:LinV l nn m f)(hm:bdF n bs f<=1152921504606846976)(hk:-1099511627776<=f.k/\f.k<=1099511627776):LinV l nn m (kv x f).l/\bdF n bs (kv x f).l<=1152921504606846977/\(-1099511627777<=(kv x f).l.k/\(kv x f).l.k<=1099511627777):=by unfold bdF at hm ⊢;unfold kv;split;exact⟨h,show cq f.k+pu n bs f.cs<=_ by omega,show -1099511627777<=f.k/\f.k<=1099511627777 by omega⟩;split;split;exact⟨h.neg,by show cq (-f.k+1)+pu n bs (f.cs.map fun c=>⟨c.v,-c.n⟩)<=_;rw[Le];have h1:=ap f.k;have h2:=ap (-f.k+1);omega,by show -1099511627777<=-f.k+1/\-f.k+1<=1099511627777;omega⟩;exact⟨h.con,by show cq (f.k+1)+pu n bs f.cs<=_;have h1:=ap f.k;have h2:=ap (f.k+1);omega,by show -1099511627777<=f.k+1/\f.k+1<=1099511627777;omega⟩;exact⟨h,show cq f.k+pu n bs f.cs<=_ by omega,show -1099511627777<=f.k/\f.k<=1099511627777 by omega⟩
def ary(hn:n=((l.length:Nat):Int))(hx:∀x∈xs,LitOk l x)(hv:∀x∈xs,LitV l x)(h:BldR l (b00 n) xs b):clB (l9 b) l=true:=by
 have hh:=Wl h;have hb:=Hy h
 rw[hh]at hb;have hN:(l9 b).nn=srtU b.N:=rfl
 have he:=C9 (c:=l9 b) hn hN hb;have hl:=aos hx hv h
 have inN:∀{v:Int},(∃x∈xs,nnP x v)->v∈(l9 b).nn:=fun e=>la.2 ((Wn h _).2 e);have h1:alf (l9 b).nul l.length=true:=Nl fun v hm=>by obtain⟨x,h8,hk,rfl⟩:=(aa5 h v).1 hm;exact(hv x h8).v0 (.inl hk)
 have h2:alf (l9 b).nn l.length=true:=Nl hl
 have h3:yq (l9 b).aux.length (ayp (l9 b) l)=true:=by
  rw[mn];intro j hj;have hj:j<b.A.length:=hj
  have eD:(l9 b).aux.getD j default=b.A[j]:=by show b.A.getD j default=_;simp[hj]
  unfold ayp;rw[eD];rcases hb j hj with⟨v,e,ht,hq⟩|⟨o,g,d,e,hd,ho,hr⟩;rw[e];have:=K2 (nn:=(l9 b).nn) ht (la.2 hq)
  show(if(0:Int)=0 then !(decide (0<((([]:List PCoef).length:Nat):Int))||!((0:Int)==0))&&af0 v (l9 b).nn l else _)=true;rw[azg rfl,this];rfl;have hi:=he j (by show j<=b.A.length;omega)
  have hf:=akh (c:=l9 b) hn hN hi (by show j<=b.A.length;omega) ho hr;have h0:=Wu (n:=n) hi.nn g
  rw[e];show(if d=0 then _ else wiB d 1 1000&&(0:Int)==0&&!decide (fV g (l9 b).nn l (s8 (l9 b) l j)<0))=true
  rw[azf (by omega),hf];have a1:wiB d 1 1000=true:=by unfold wiB;simp;omega
  rw[a1];simp;omega
 have h9:=he b.A.length (azm _);have hA:atj n b.A (s8 (l9 b) l b.A.length):=by have:=h9.ok;have e:(l9 b).aux.take b.A.length=b.A:=List.take_length;rwa [e]at this
 have h4:yq (l9 b).ints.length (awk (l9 b) l)=true:=by rw[mn];intro j hj;have hj:j<b.I.length:=hj;have eD:(l9 b).ints.getD j default=b.I[j]:=(by show b.I.getD j default=_;simp[hj]);unfold awk;rw[eD];obtain⟨x,h8,hi,f,e,hr⟩:=(Wo h).1 _ (ay7 hj);have ht:=(hx x h8).tm hi;obtain⟨g1,g2,g3⟩:=Ei hn ht.tm ht.tv ht.sm (nn:=(l9 b).nn) (fun v hv=>inN ⟨x,h8,.inl ⟨hi,hv⟩⟩) hr hA;obtain⟨k1,k2,k3⟩:=aqs (x:=x) g1 g2 g3;rw[e];have hc:(s8 (l9 b) l b.A.length).length=b.A.length:=v7 _ _ _;have hf:=ap4 (l:=l) (bs:=s8 (l9 b) l b.A.length) (nn:=(l9 b).nn) (f:=(kv x f).l) (by rw[hc];exact k1) k3 h9.nn (by rw[<-hn];exact k2);have h0:=Wu (n:=((l.length:Nat):Int)) h9.nn (kv x f).l;show(!decide (fV (kv x f).l (l9 b).nn l (s8 (l9 b) l b.A.length)<0))=true;rw[hf];simp;omega
 have h5:yq (l9 b).tests.length (aum (l9 b) l)=true:=by rw[mn];intro j hj;have hj:j<b.T.length:=hj;have eD:(l9 b).tests.getD j default=b.T[j]:=(by show b.T.getD j default=_;simp[hj]);unfold aum;rw[eD];obtain⟨x,h8,hk,e⟩:=(Wm h _).1 (ay7 hj);obtain⟨t1,t2⟩:=(hv x h8).v5 hk;rw[e,t2];have:=K2 t1 (inN ⟨x,h8,.inr (.inl ⟨.inr (.inl hk),rfl⟩)⟩);exact this
 have ha:∀(P:List (Int×Int)) (k:Int),(k=6\/k=7)->(∀p∈P,∃x∈xs,x.e_.c_=k/\p=(x.e_.p_,x.e_.w_))->ak9 P (l9 b).nn l=true:=fun P k hk hP=>by unfold ak9;rw[mn];intro j hj;have eD:P.getD j default=P[j]:=(by simp[hj]);unfold paiP;rw[eD];obtain⟨x,h8,hk2,e⟩:=hP _ (ay7 hj);have hg:x.e_.c_=6\/x.e_.c_=7:=(by omega);obtain⟨t1,t2,t3⟩:=(hv x h8).v6 hg;rw[e,K2 t1 (inN ⟨x,h8,.inr (.inl ⟨by omega,rfl⟩)⟩),K2 t2 (inN ⟨x,h8,.inr (.inr ⟨hg,rfl⟩)⟩)];simpa using t3
 have h6:=ha b.S 6 (.inl rfl) fun p hp=>(aa6 h p).1 hp;have h7:=ha b.D 7 (.inr rfl) fun p hp=>(aa7 h p).1 hp
 unfold clB;rw[h1,h2,h3,h4,h5];show(true&&true&&true&&true&&true&&(ak9 b.S (l9 b).nn l&&ak9 b.D (l9 b).nn l))=true
 rw[h6,h7];rfl
end
end Go.Proofs.YtfpfdfhlljjckaaGreatDoor
