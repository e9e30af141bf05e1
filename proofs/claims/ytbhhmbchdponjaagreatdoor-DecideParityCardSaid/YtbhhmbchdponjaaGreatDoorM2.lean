/- Texts of the claim. -/
import Derived.Test.YtbhhmbchdponjaaGreatDoorM1
import Derived.Test.YtbhhmbchdponjaaGreatDoorQ2
namespace Go.Proofs.YtbhhmbchdponjaaGreatDoor
set_option maxRecDepth 1000000
set_option maxHeartbeats 0
set_option linter.unusedVariables false
set_option linter.unusedSimpArgs false
open Go.RowKit
def vl:List Int->Int
 |[]=>0
 |a::l=>a+65536*vl l
abbrev Dh(d:List Int):Prop:=∀x∈d,0<=x/\x<=65535
theorem A2:∀{d:List Int},Dh d->0<=vl d
 |[],_=>Int.le_refl _
 |a::l,h=>by
  have h1:=(h a (by simp)).1
  have h2:=A2 (d:=l) (fun x hx=>h x (by simp[hx]))
  show 0<=a+65536*vl l
  omega
theorem Rf:∀(d:List Int),vl (dtr d)=vl d
 |[]=>rfl
 |a::l=>by
  have h:=Rf l
  unfold dtr
  split
  ·next e=>
   rw[e]at h
   have h0:vl l=0:=h.symm
   split
   ·next e2=>subst e2;show 0=0+65536*vl l;omega
   ·show a+65536*0=a+65536*vl l;omega
  ·next b r e=>rw[e]at h;show a+65536*vl (b::r)=a+65536*vl l;rw[h]
theorem Y2{d:List Int}(h:Dh d):Dh (dtr d):=fun x hx=>h x (Lt hx)
theorem Vj(d:List Int):dtr (dtr d)=dtr d:=by
 induction d with
 |nil=>rfl
 |cons a l ih=>
  by_cases e:dtr l=[]
  ·by_cases e2:a=0
   ·simp[dtr,e,e2]
   ·simp[dtr,e,e2]
  ·obtain⟨b,r,h0⟩:∃b r,dtr l=b::r:=by
    cases h:dtr l with
    |nil=>exact absurd h e
    |cons b r=>exact⟨b,r,rfl⟩
   have e3:dtr (a::l)=a::b::r:=by simp[dtr,h0]
   rw[e3]
   rw[h0]at ih
   rw[dtr,ih]
structure Cn(l:List Int)(n:Int):Prop where
 t:dtr l=l
 d:Dh l
 v:vl l=n
theorem Cr{l:List Int}{n:Int}(hd:Dh l)(hv:vl l=n):Cn (dtr l) n:=⟨Vj l,Y2 hd,by rw[Rf];exact hv⟩
theorem sf:∀(l:List Int) (z:Int),vl (l++[z])=vl l+65536^l.length*z
 |[],z=>by show z+65536*0=0+1*z;omega
 |a::l,z=>by
  have h:=sf l z
  show a+65536*vl (l++[z])=a+65536*vl l+65536^(l.length+1)*z
  rw[h,Int.pow_succ,Int.mul_add,Int.mul_comm (65536^l.length) 65536,Int.mul_assoc];omega
theorem nq(d:List Int)(k:Nat):vl (d.take (k+1))=vl (d.take k)+65536^k*d.getD k 0:=by
 by_cases h:k<d.length
 ·rw[ad6 h,sf,List.length_take_of_le (by omega)]
  simp[List.getD,h]
 rw[ael (by omega),ael (by omega),List.getD,List.getElem?_eq_none (by omega)];simp
theorem ku{d:List Int}(h:Dh d)(k:Nat):0<=d.getD k 0/\d.getD k 0<=65535:=by
 by_cases hk:k<d.length
 ·simp only[List.getD,adu hk,Option.getD_some];exact h _ (adt hk)
 rw[List.getD,List.getElem?_eq_none (by omega)];exact⟨by decide,by decide⟩
theorem Ej{L:List Int}{z:Int}(h:Dh L):Dh (L++[z%65536]):=fun x hx=>by
 rcases adz.1 hx with hx|hx
 ·exact h x hx
 rw[ady.1 hx];omega
theorem Nq{d:List Int}{k:Nat}(h:¬k<d.length):d.getD k 0=0:=by rw[List.getD,List.getElem?_eq_none (by omega)];rfl
structure PlI(a b:List Int)(s:KDc):Prop where
 d:Dh s.L
 l:s.L.length=s.k
 v:vl s.L+65536^s.k*s.c=vl (a.take s.k)+vl (b.take s.k)
 c:0<=s.c/\s.c<=1
 e:s.k=max a.length b.length+1->s.c=0
theorem abn(a b:List Int):PlI a b ⟨0,[],0⟩:=⟨fun x hx=>by simp at hx,rfl,by simp[vl],⟨by decide,by decide⟩,fun _=>rfl⟩
theorem Oz{a b:List Int}{s:KDc}(ha:Dh a)(hb:Dh b)(h:PlI a b s){z:Int}(hz:z=s.c+a.getD s.k 0+b.getD s.k 0)(hk:s.k<=max a.length b.length):PlI a b ⟨s.k+1,s.L++[z%65536],z/65536⟩:=by
 have h1:=ku ha s.k
 have h2:=ku hb s.k
 have h3:=h.c
 refine⟨Ej h.d,by simp[h.l],?_,⟨by show 0<=z/65536;omega,by show z/65536<=1;omega⟩,fun e=>?_⟩
 ·show vl (s.L++[z%65536])+65536^(s.k+1)*(z/65536)=_
  rw[sf,h.l,nq,nq,Int.pow_succ,Int.mul_assoc]
  have hv:=h.v
  have e1:(65536:Int)^s.k*(z%65536)+65536^s.k*(65536*(z/65536))=65536^s.k*s.c+65536^s.k*a.getD s.k 0+65536^s.k*b.getD s.k 0:=by
   rw[<-Int.mul_add,<-Int.mul_add,<-Int.mul_add,<-hz]
   congr 1;omega
  omega
 have hk':s.k=max a.length b.length:=by
  have:s.k+1=max a.length b.length+1:=e
  omega
 have g1:=Nq (d:=a) (k:=s.k) (by omega)
 have g2:=Nq (d:=b) (k:=s.k) (by omega)
 show z/65536=0
 omega
theorem abm{a b:List Int}{s:KDc}(h:PlI a b s)(h1:¬s.k<a.length)(h2:¬s.k<b.length)(h3:s.c=0):vl s.L=vl a+vl b:=by
 have hv:=h.v
 rw[h3,ael (by omega),ael (by omega)]at hv
 simpa using hv
theorem Lu{L:List Int}(hl:0<L.length)(h:¬L[L.length-1]=0):dtr L=L:=by
 rw[Ls (n:=L.length) (ad9 _) (fun j h1 h2=>absurd h1 (by omega)) (fun m hm e=>by
  have:m=L.length-1:=by omega
  subst this;exact h),List.take_length]
theorem Co:∀(l:List Int),dtr (l++[0])=dtr l
 |[]=>rfl
 |a::l=>by
  show dtr (a::(l++[0]))=_
  unfold dtr;rw[Co l]
theorem Lv{L:List Int}(hl:0<L.length)(h:L[L.length-1]=0):dtr (L.take (L.length-1))=dtr L:=by
 have e:L=L.take (L.length-1)++[L[L.length-1]]:=by
  rw[<-ad6 (by omega),show L.length-1+1=L.length by omega,List.take_length]
 rw[h]at e
 rw[<-Co,<-e]
theorem Iv:∀{d:List Int},Dh d->vl d<65536^d.length
 |[],_=>by show(0:Int)<1;decide
 |a::l,h=>by
  have h1:=(h a (by simp)).2
  have h2:=Iv (d:=l) (fun x hx=>h x (by simp[hx]))
  show a+65536*vl l<65536^(l.length+1)
  rw[Int.pow_succ];omega
theorem wz{d:List Int}(h:Dh d)(k:Nat):Dh (d.take k):=fun x hx=>h x (List.mem_of_mem_take hx)
theorem Fw(k:Nat):(0:Int)<65536^k:=Int.pow_pos (by decide)
theorem Js{a b:Nat}(h:a<=b):(65536:Int)^a<=65536^b:=by
 induction h with
 |refl=>exact Int.le_refl _
 |step _ ih=>rw[Int.pow_succ];have:=Fw a;omega
theorem Sq{a b:List Int}(ha:Dh a)(hb:Dh b):∀k,cmA a b k=sgZ (vl (a.take k)-vl (b.take k))
 |0=>by simp[cmA,vl,sgZ]
 |k+1=>by
  have ih:=Sq ha hb k
  have h1:=ku ha k
  have h2:=ku hb k
  have p:=Fw k
  have a1:=A2 (wz ha k)
  have b1:=A2 (wz hb k)
  have a2:=Iv (wz ha k)
  have b2:=Iv (wz hb k)
  have a3:(65536:Int)^(a.take k).length<=65536^k:=Js (by simp;omega)
  have b3:(65536:Int)^(b.take k).length<=65536^k:=Js (by simp;omega)
  rw[nq,nq]
  unfold cmA
  by_cases g1:a.getD k 0<b.getD k 0
  ·rw[ad3 g1]
   have:(65536:Int)^k*(a.getD k 0+1)<=65536^k*b.getD k 0:=Int.mul_le_mul_of_nonneg_left (by omega) (by omega)
   rw[Int.mul_add,Int.mul_one]at this
   unfold sgZ;rw[ad1 (by omega),ad3 (by omega)]
  ·rw[ad1 g1]
   by_cases g2:a.getD k 0>b.getD k 0
   ·rw[ad3 g2]
    have:(65536:Int)^k*(b.getD k 0+1)<=65536^k*a.getD k 0:=Int.mul_le_mul_of_nonneg_left (by omega) (by omega)
    rw[Int.mul_add,Int.mul_one]at this
    unfold sgZ;rw[ad1 (by omega),ad1 (by omega)]
   ·rw[ad1 g2,ih,show a.getD k 0=b.getD k 0 by omega];congr 1;omega
theorem Qg{d:List Int}{n:Int}(h:Cn d n)(h0:0<d.length):65536^(d.length-1)<=n:=by
 have hl:d[d.length-1]≠0:=fun e=>by
  have e1:=Lv h0 e
  rw[h.t]at e1
  have e2:=Eh (d.take (d.length-1))
  rw[e1,List.length_take]at e2;omega
 have hd:=h.d _ (adt (show d.length-1<d.length by omega))
 have hv:=nq d (d.length-1)
 rw[show d.length-1+1=d.length by omega,List.take_length,h.v,zv (show d.length-1<d.length by omega)]at hv
 have h2:=A2 (wz h.d (d.length-1))
 have:(65536:Int)^(d.length-1)*1<=65536^(d.length-1)*d[d.length-1]:=Int.mul_le_mul_of_nonneg_left (by omega) (Int.le_of_lt (Fw _))
 omega
theorem L0{a b:List Int}{m n:Int}(ha:Cn a m)(hb:Cn b n)(h:a.length<b.length):m<n:=by
 have h1:=Qg hb (by omega)
 have h2:=Iv ha.d
 rw[ha.v]at h2
 have h3:(65536:Int)^a.length<=65536^(b.length-1):=Js (by omega)
 omega
theorem Jz{a b:List Int}{m n:Int}(ha:Cn a m)(hb:Cn b n)(h:a.length=b.length):cmA a b a.length=sgZ (m-n):=by
 rw[Sq ha.d hb.d,List.take_length,h,List.take_length,ha.v,hb.v]
theorem Zb{l:List Int}{n:Int}(h:Cn l n):0<=n:=by rw[<-h.v];exact A2 h.d
structure MiI(a b:List Int)(s:KDc):Prop where
 d:Dh s.L
 l:s.L.length=s.k
 v:vl s.L+vl (b.take s.k)=vl (a.take s.k)+65536^s.k*s.c
 c:0<=s.c/\s.c<=1
theorem aca(a b:List Int):MiI a b ⟨0,[],0⟩:=⟨fun x hx=>by simp at hx,rfl,by simp[vl],⟨by decide,by decide⟩⟩
theorem Pl{a b:List Int}{s:KDc}(ha:Dh a)(hb:Dh b)(h:MiI a b s){z c:Int}(hz:z-65536*c=a.getD s.k 0-s.c-b.getD s.k 0)(hc:0<=c/\c<=1)(h0:0<=z/\z<=65535):MiI a b ⟨s.k+1,s.L++[z],c⟩:=by
 refine⟨fun x hx=>?_,by simp[h.l],?_,hc⟩
 ·rcases adz.1 hx with hx|hx
  ·exact h.d x hx
  rw[ady.1 hx];exact h0
 show vl (s.L++[z])+_=_+65536^(s.k+1)*c
 rw[sf,h.l,nq,nq,Int.pow_succ,Int.mul_assoc]
 have hv:=h.v
 have e1:(65536:Int)^s.k*z+65536^s.k*b.getD s.k 0+65536^s.k*s.c=65536^s.k*a.getD s.k 0+65536^s.k*(65536*c):=by
  rw[<-Int.mul_add,<-Int.mul_add,<-Int.mul_add]
  congr 1;omega
 omega
theorem ab9{a b:List Int}{s:KDc}{m n:Int}(ha:Cn a m)(hb:Cn b n)(hmn:n<=m)(h:MiI a b s)(hk:s.k=a.length):vl s.L=m-n:=by
 have hl:b.length<=a.length:=by
  rcases Nat.lt_or_ge a.length b.length with g|g
  ·have:=L0 ha hb g;omega
  ·exact g
 have hv:=h.v
 rw[hk,List.take_length,ael hl,ha.v,hb.v]at hv
 have h2:=Iv h.d
 rw[h.l,hk]at h2
 have h3:=h.c
 have h4:s.c=0:=by
  by_cases e:s.c=0
  ·exact e
  ·have e1:s.c=1:=by omega
   rw[e1]at hv;omega
 rw[h4]at hv;omega
structure TiI(a:List Int)(y:Int)(s:KDc):Prop where
 d:Dh s.L
 l:s.L.length=s.k
 v:vl s.L+65536^s.k*s.c=vl (a.take s.k)*y
 c:0<=s.c/\s.c<=65535
 e:s.k=a.length+1->s.c=0
theorem aar(a:List Int)(y:Int):TiI a y ⟨0,[],0⟩:=⟨fun x hx=>by simp at hx,rfl,by simp[vl],⟨by decide,by decide⟩,fun _=>rfl⟩
theorem Oa{x y:Int}(hx:0<=x/\x<=65535)(hy:0<=y/\y<=65535):0<=x*y/\x*y<=4294836225:=
 ⟨Int.mul_nonneg hx.1 hy.1,Int.le_trans (Int.mul_le_mul hx.2 hy.2 hy.1 (by decide)) (by decide)⟩
theorem Wx{a:List Int}{y:Int}{s:KDc}(ha:Dh a)(hy:0<=y/\y<=65535)(h:TiI a y s){z:Int}(hz:z=s.c+a.getD s.k 0*y)(hk:s.k<=a.length):TiI a y ⟨s.k+1,s.L++[z%65536],z/65536⟩:=by
 have h1:=Oa (ku ha s.k) hy
 have h3:=h.c
 refine⟨Ej h.d,by simp[h.l],?_,⟨by show 0<=z/65536;omega,by show z/65536<=65535;omega⟩,fun e=>?_⟩
 ·show vl (s.L++[z%65536])+65536^(s.k+1)*(z/65536)=_
  rw[sf,h.l,nq,Int.pow_succ,Int.mul_assoc,Int.add_mul,Int.mul_assoc]
  have hv:=h.v
  have e1:(65536:Int)^s.k*(z%65536)+65536^s.k*(65536*(z/65536))=65536^s.k*s.c+65536^s.k*(a.getD s.k 0*y):=by
   rw[<-Int.mul_add,<-Int.mul_add,<-hz]
   congr 1;omega
  omega
 have g1:=Nq (d:=a) (k:=s.k) (by have:s.k+1=a.length+1:=e;omega)
 rw[g1,Int.zero_mul]at hz
 show z/65536=0
 omega
theorem aaq{a:List Int}{y:Int}{s:KDc}(h:TiI a y s)(h1:¬s.k<a.length)(h3:s.c=0):vl s.L=vl a*y:=by
 have hv:=h.v
 rw[h3,ael (by omega)]at hv
 simpa using hv
theorem by3:(Tryz.prog.info? 3).map (·.bytes)=some 8:=by kernel_rfl
theorem zr3:bh Tryz.prog 3=some (.int .i64 0):=by kernel_rfl
theorem nu(d:List Int)(hd:iq d (fun y=>True))(hs:d.length<=1000):PRet Tryz.prog 128 [.tree 1 (d.map iA)] (fun q=>q=.tree 1 ((dtr d).map iA)):=by
 refine ovT [11,19] [] Tryz.func128 rfl rfl (LpG.on (fun k0:KL Int=>(⟨fL [(0,.tree 1 (k0.L.map iA))],hLz [],0⟩:St)) (fun k0=>(d.length-k0.k)) (fun k0=>(k0.k<=d.length/\(dtr k0.L=dtr d/\k0.L.length+k0.k=d.length))) (⟨0,d⟩:KL Int) (cO (.cons rfl rfl .nil) .nil) ⟨ad7 _,⟨rfl,rfl⟩⟩ ?_)
 rintro k0 h2
 have hgr_k0:d.length<=140737488355328:=hd.1
 obtain⟨hle_k0,h0⟩:=h2
 refine LenG.of (cD (fun h3=>?_) (fun h3=>?_))
 ·have h4:=h0.2
  refine LenG.of ⟨by omega,OpG.lk (ci Tryz.underlying27 sz3 rfl rfl (show((k0.L.length:Nat):Int)-1=((k0.L.length-1:Nat):Int)by omega) (by omega)) ?_⟩
  refine cE (fun h1=>?_) (fun h1=>?_)
  ·refine LenG.of ⟨by omega,OpG.lk (Au (b:=k0.L.length-1) (l:=k0.L) (f:=iA) Tryz.underlying27 sz3 rfl rfl (show((k0.L.length:Nat):Int)-1=((k0.L.length-1:Nat):Int)by omega) (by omega)) ?_⟩
   refine⟨(⟨k0.k+1,k0.L.take (k0.L.length-1)⟩:KL Int),(by show d.length-(k0.k+1)<d.length-k0.k;omega),(cO (.cons rfl rfl .nil) .nil),⟨by show k0.k+1<=_;omega,?_⟩⟩
   exact⟨(Lv (by omega) h1).trans h0.1,by show(k0.L.take _).length+(k0.k+1)=_;rw[List.length_take];have:=h0.2;omega⟩
  refine rV rfl rfl ?_
  rw[<-h0.1,Lu (by omega) h1];rfl
 have h4:=h0.2
 refine cF (rV rfl rfl ?_)
 rw[<-h0.1,aem (l:=k0.L) (by omega)];rfl
theorem Ju(a:List Int)(ha:iq a (fun y=>True))(b:List Int)(hb:iq b (fun y=>True))(h4:Dh a)(h3:Dh b)(hsa:a.length<=400)(hsb:b.length<=400):PRet Tryz.prog 123 [.tree 1 (a.map iA),.tree 1 (b.map iA)] (fun q=>∃r,Cn r (vl a+vl b)/\q=.tree 1 (r.map iA)):=by
 refine ovT [8,47,49,51] [7,9,10,12] Tryz.func123 rfl rfl (OpG.nw (bm 0 Tryz.underlying27 sz3) rfl ?_)
 refine LpG.on (fun k0:KDc=>(⟨fL [(0,.tree 1 (a.map iA)),(1,.tree 1 (b.map iA)),(5,.sl 0 k0.k 0 k0.L.length),(6,.v (.int .i64 k0.c)),(7,.v (.int .i64 ((k0.k:Nat):Int)))],hLz [(0,⟨k0.k,rF iA k0.L,1,false⟩)],1⟩:St)) (fun k0=>((max a.length b.length+1)-k0.k)) (fun k0=>(k0.k<=(max a.length b.length+1)/\PlI a b k0)) (⟨0,[],0⟩:KDc) (cO (.cons rfl rfl (.cons rfl rfl (.cons rfl rfl (.cons rfl rfl (.cons rfl rfl .nil))))) (.cons rfl rfl (aa cw _ _) .nil)) ⟨ad7 _,abn a b⟩ ?_
 rintro k0 hg
 obtain⟨hle_k0,h0⟩:=hg
 have hcc:=h0.c
 have hll:=h0.l
 refine LenG.of (cB (fun h1=>?_) (fun h1=>?_))
 ·have h5:k0.k<a.length:=Int.ofNat_lt.1 (ad5 h1)
  refine cT (cT ?_)
  refine LenG.of (cB (fun _=>?_) (fun hz=>absurd (hz.symm.trans h1) aer))
  have h7:=(fun(h:k0.k<a.length)=>h4 _ (adt h)) ‹_›
  refine aw (IdxG.of ‹_› ?_)
  refine⟨by omega,LenG.of ?_⟩
  refine cL (fun hc=>?_) (fun hd=>?_)
  ·have h9:=(fun(h:k0.k<b.length)=>h3 _ (adt h)) ‹_›
   refine aw (IdxG.of ‹_› ?_)
   refine⟨by omega,?_⟩
   have ea:a.getD k0.k 0=a[k0.k]:=by exact zv h5
   have eb:b.getD k0.k 0=b[k0.k]:=by exact zv hc
   have hh:=ku h4 k0.k
   have hi:=ku h3 k0.k
   have hz:((k0.c+a[k0.k])+b[k0.k])=k0.c+a.getD k0.k 0+b.getD k0.k 0:=by rw[ea,eb]
   have h8:k0.k<=max a.length b.length:=by have:=h0.e;omega
   refine aw (OpG.lk (jf rfl rfl (by omega) (by decide)) ?_)
   refine OpG.mk _ _ _ 2 (ct cw (l:=k0.L) (a:=(((k0.c+a[k0.k])+b[k0.k])%65536)) Tryz.underlying27 sz3 zr3 by3 rfl rfl rfl (Src.sl rfl rfl rfl rfl rfl) rfl (by omega) (by omega) (by unfold TV;omega)) rfl rfl (OpG.lk (fm (r:=((k0.c+a[k0.k])+b[k0.k])/65536) rfl rfl (by omega) (by decide) (by rw[IntKind.wrap_i64];omega)) ?_)
   refine⟨by omega,⟨(⟨k0.k+1,k0.L++[(((k0.c+a[k0.k])+b[k0.k])%65536)],(((k0.c+a[k0.k])+b[k0.k])/65536)⟩:KDc),(by show(max a.length b.length+1)-(k0.k+1)<(max a.length b.length+1)-k0.k;omega),(cO (.cons rfl rfl (.cons rfl rfl (.cons rfl rfl (.cons rfl rfl (.cons rfl rfl .nil))))) (.cons rfl rfl (aa cw _ _) .nil)),?_⟩⟩
   exact⟨by show k0.k+1<=_;omega,Oz h4 h3 h0 hz h8⟩
  have ea:a.getD k0.k 0=a[k0.k]:=by exact zv h5
  have eb:b.getD k0.k 0=0:=by exact Nq hd
  have hh:=ku h4 k0.k
  have hi:=ku h3 k0.k
  have hz:(k0.c+a[k0.k])=k0.c+a.getD k0.k 0+b.getD k0.k 0:=by rw[ea,eb]<;>omega
  have h8:k0.k<=max a.length b.length:=by have:=h0.e;omega
  refine aw (OpG.lk (jf rfl rfl (by omega) (by decide)) ?_)
  refine OpG.mk _ _ _ 2 (ct cw (l:=k0.L) (a:=((k0.c+a[k0.k])%65536)) Tryz.underlying27 sz3 zr3 by3 rfl rfl rfl (Src.sl rfl rfl rfl rfl rfl) rfl (by omega) (by omega) (by unfold TV;omega)) rfl rfl (OpG.lk (fm (r:=(k0.c+a[k0.k])/65536) rfl rfl (by omega) (by decide) (by rw[IntKind.wrap_i64];omega)) ?_)
  refine⟨by omega,⟨(⟨k0.k+1,k0.L++[((k0.c+a[k0.k])%65536)],((k0.c+a[k0.k])/65536)⟩:KDc),(by show(max a.length b.length+1)-(k0.k+1)<(max a.length b.length+1)-k0.k;omega),(cO (.cons rfl rfl (.cons rfl rfl (.cons rfl rfl (.cons rfl rfl (.cons rfl rfl .nil))))) (.cons rfl rfl (aa cw _ _) .nil)),?_⟩⟩
  exact⟨by show k0.k+1<=_;omega,Oz h4 h3 h0 hz h8⟩
 have h6:¬k0.k<a.length:=fun h=>ad4 h1 (Int.ofNat_lt.2 h)
 refine LenG.of (cB (fun h2=>?_) (fun h2=>?_))
 ·have he:k0.k<b.length:=Int.ofNat_lt.1 (ad5 h2)
  refine cT (LenG.of ?_)
  refine cB (fun hz=>absurd (hz.symm.trans h1) Bool.noConfusion) (fun _=>?_)
  refine LenG.of (cB (fun _=>?_) (fun hz=>absurd (hz.symm.trans h2) aer))
  have h9:=(fun(h:k0.k<b.length)=>h3 _ (adt h)) ‹_›
  refine aw (IdxG.of ‹_› ?_)
  refine⟨by omega,?_⟩
  have ea:a.getD k0.k 0=0:=by exact Nq h6
  have eb:b.getD k0.k 0=b[k0.k]:=by exact zv he
  have hh:=ku h4 k0.k
  have hi:=ku h3 k0.k
  have hz:(k0.c+b[k0.k])=k0.c+a.getD k0.k 0+b.getD k0.k 0:=by rw[ea,eb]<;>omega
  have h8:k0.k<=max a.length b.length:=by have:=h0.e;omega
  refine aw (OpG.lk (jf rfl rfl (by omega) (by decide)) ?_)
  refine OpG.mk _ _ _ 2 (ct cw (l:=k0.L) (a:=((k0.c+b[k0.k])%65536)) Tryz.underlying27 sz3 zr3 by3 rfl rfl rfl (Src.sl rfl rfl rfl rfl rfl) rfl (by omega) (by omega) (by unfold TV;omega)) rfl rfl (OpG.lk (fm (r:=(k0.c+b[k0.k])/65536) rfl rfl (by omega) (by decide) (by rw[IntKind.wrap_i64];omega)) ?_)
  refine⟨by omega,⟨(⟨k0.k+1,k0.L++[((k0.c+b[k0.k])%65536)],((k0.c+b[k0.k])/65536)⟩:KDc),(by show(max a.length b.length+1)-(k0.k+1)<(max a.length b.length+1)-k0.k;omega),(cO (.cons rfl rfl (.cons rfl rfl (.cons rfl rfl (.cons rfl rfl (.cons rfl rfl .nil))))) (.cons rfl rfl (aa cw _ _) .nil)),?_⟩⟩
  exact⟨by show k0.k+1<=_;omega,Oz h4 h3 h0 hz h8⟩
 have hf:¬k0.k<b.length:=fun h=>ad4 h2 (Int.ofNat_lt.2 h)
 refine cD (fun hj=>?_) (fun hj=>?_)
 ·refine LenG.of (cB (fun hz=>absurd (hz.symm.trans h1) Bool.noConfusion) (fun _=>?_))
  refine LenG.of (cB (fun hz=>absurd (hz.symm.trans h2) Bool.noConfusion) (fun _=>?_))
  have ea:a.getD k0.k 0=0:=by exact Nq h6
  have eb:b.getD k0.k 0=0:=by exact Nq hf
  have hh:=ku h4 k0.k
  have hi:=ku h3 k0.k
  have hz:k0.c=k0.c+a.getD k0.k 0+b.getD k0.k 0:=by rw[ea,eb]<;>omega
  have h8:k0.k<=max a.length b.length:=by have:=h0.e;omega
  refine aw (OpG.lk (jf rfl rfl (by omega) (by decide)) ?_)
  refine OpG.mk _ _ _ 2 (ct cw (l:=k0.L) (a:=(k0.c%65536)) Tryz.underlying27 sz3 zr3 by3 rfl rfl rfl (Src.sl rfl rfl rfl rfl rfl) rfl (by omega) (by omega) (by unfold TV;omega)) rfl rfl (OpG.lk (fm (r:=k0.c/65536) rfl rfl (by omega) (by decide) (by rw[IntKind.wrap_i64];omega)) ?_)
  refine⟨by omega,⟨(⟨k0.k+1,k0.L++[(k0.c%65536)],(k0.c/65536)⟩:KDc),(by show(max a.length b.length+1)-(k0.k+1)<(max a.length b.length+1)-k0.k;omega),(cO (.cons rfl rfl (.cons rfl rfl (.cons rfl rfl (.cons rfl rfl (.cons rfl rfl .nil))))) (.cons rfl rfl (aa cw _ _) .nil)),?_⟩⟩
  exact⟨by show k0.k+1<=_;omega,Oz h4 h3 h0 hz h8⟩
 refine RegG.via (fun _ h=>bl [0] 5 (.tree 1 (k0.L.map iA)) (fq cw (ady.2 rfl) rfl) rfl h) (aw ?_)
 refine ArgG.mk (nu k0.L (dp (by omega)) (by omega)) rfl ?_
 rintro _ rfl
 exact rV rfl rfl ⟨_,Cr h0.d (abm h0 ‹_› ‹_› (by have:=h0.c;omega)),rfl⟩
theorem abt(a:List Int)(ha:iq a (fun y=>True))(b:List Int)(hb:iq b (fun y=>True)){m n:Int}(h4:Cn a m)(h5:Cn b n)(hsa:a.length<=400)(hsb:b.length<=400):PRet Tryz.prog 124 [.tree 1 (a.map iA),.tree 1 (b.map iA)] (fun q=>q=.v (.int .i64 (sgZ (m-n)))):=by
 refine ovT [25,29,34,38] [] Tryz.func124 rfl rfl ?_
 refine LenG.of (LenG.of ?_)
 refine cN (fun h2=>?_) (fun h2=>?_)
 ·have hne:¬a.length=b.length:=by have:=h2;omega
  refine LenG.of (LenG.of ?_)
  refine cL (fun h6=>?_) (fun hge15=>?_)
  ·refine rV rfl rfl ?_
   have h:=L0 h4 h5 h6
   unfold sgZ;rw[ad1 (by omega),ad3 (by omega)];rfl
  refine rV rfl rfl ?_
  have h:=L0 h5 h4 (by omega)
  unfold sgZ;rw[ad1 (by omega),ad1 (by omega)];rfl
 have h7:a.length=b.length:=by have:=h2;omega
 refine LenG.of ⟨by omega,LpG.on (fun k0:KN=>(⟨fL [(0,.tree 1 (a.map iA)),(1,.tree 1 (b.map iA)),(5,.v (.int .i64 ((a.length:Int)-1-((k0.k:Nat):Int))))],hLz [],0⟩:St)) (fun k0=>(a.length-k0.k)) (fun k0=>(k0.k<=a.length/\(cmA a b a.length=cmA a b (a.length-k0.k)))) (⟨0⟩:KN) (cO (.cons rfl rfl (.cons rfl rfl (.cons (congrArg (fun z=>AV.v (.int .i64 z)) (by(show(a.length:Int)-1=(a.length:Int)-1-((0:Nat):Int);omega))) rfl .nil))) .nil) ⟨ad7 _,rfl⟩ ?_⟩
 rintro k0 h8
 have hgr_k0:a.length<=140737488355328:=ha.1
 obtain⟨hle_k0,h0⟩:=h8
 refine cD (fun h9=>?_) (fun h9=>?_)
 ·refine OpG.lk (ci Tryz.underlying27 sz3 rfl rfl (show((a.length:Int)-1-((k0.k:Nat):Int))=(((a.length-1-k0.k):Nat):Int)by omega) (by omega)) ?_
  refine OpG.lk (ci Tryz.underlying27 sz3 rfl rfl (show((a.length:Int)-1-((k0.k:Nat):Int))=(((a.length-1-k0.k):Nat):Int)by omega) (by omega)) ?_
  refine⟨by kernel_rfl,?_⟩
  refine cD (fun h1=>?_) (fun h1=>?_)
  ·refine rV rfl rfl ?_
   have e:a.length-k0.k=a.length-1-k0.k+1:=by omega
   rw[<-Jz h4 h5 h7,h0,e,Sr (by omega) (by omega) h1];rfl
  refine OpG.lk (ci Tryz.underlying27 sz3 rfl rfl (show((a.length:Int)-1-((k0.k:Nat):Int))=(((a.length-1-k0.k):Nat):Int)by omega) (by omega)) ?_
  refine OpG.lk (ci Tryz.underlying27 sz3 rfl rfl (show((a.length:Int)-1-((k0.k:Nat):Int))=(((a.length-1-k0.k):Nat):Int)by omega) (by omega)) ?_
  refine⟨by kernel_rfl,?_⟩
  refine cD (fun h3=>?_) (fun h3=>?_)
  ·refine rV rfl rfl ?_
   have e:a.length-k0.k=a.length-1-k0.k+1:=by omega
   rw[<-Jz h4 h5 h7,h0,e,Ss (by omega) (by omega) h1 h3];rfl
  refine⟨by omega,?_⟩
  refine⟨(⟨k0.k+1⟩:KN),(by show a.length-(k0.k+1)<a.length-k0.k;omega),(cO (.cons rfl rfl (.cons rfl rfl (.cons (congrArg (fun z=>AV.v (.int .i64 z)) (by(show _=(a.length:Int)-1-(((k0.k+1:Nat)):Int);omega))) rfl .nil))) .nil),?_⟩
  refine⟨by show k0.k+1<=_;omega,?_⟩
  have e:a.length-k0.k=a.length-1-k0.k+1:=by omega
  show cmA a b a.length=cmA a b (a.length-(k0.k+1))
  rw[h0,e,Su (by omega) (by omega) h1 h3,show a.length-1-k0.k=a.length-(k0.k+1)by omega]
 refine rV rfl rfl ?_
 have e:a.length-k0.k=0:=by omega
 rw[<-Jz h4 h5 h7,h0,e];rfl
theorem Pk(a:List Int)(ha:iq a (fun y=>True))(b:List Int)(hb:iq b (fun y=>True)){m n:Int}(hd:Cn a m)(he:Cn b n)(hsa:a.length<=400)(hsb:b.length<=400)(hf:n<=m):PRet Tryz.prog 125 [.tree 1 (a.map iA),.tree 1 (b.map iA)] (fun q=>∃r,Cn r (m-n)/\q=.tree 1 (r.map iA)):=by
 have h3:=hd.d
 have h4:=he.d
 refine ovT [9,39] [13,14] Tryz.func125 rfl rfl (OpG.nw (bm 0 Tryz.underlying27 sz3) rfl ?_)
 refine LpG.on (fun k0:KDc=>(⟨fL [(0,.tree 1 (a.map iA)),(1,.tree 1 (b.map iA)),(5,.sl 0 k0.k 0 k0.L.length),(6,.v (.int .i64 k0.c)),(7,.v (.int .i64 ((k0.k:Nat):Int)))],hLz [(0,⟨k0.k,rF iA k0.L,1,false⟩)],1⟩:St)) (fun k0=>(a.length-k0.k)) (fun k0=>(k0.k<=a.length/\MiI a b k0)) (⟨0,[],0⟩:KDc) (cO (.cons rfl rfl (.cons rfl rfl (.cons rfl rfl (.cons rfl rfl (.cons rfl rfl .nil))))) (.cons rfl rfl (aa cw _ _) .nil)) ⟨ad7 _,aca a b⟩ ?_
 rintro k0 hc
 have hgr_k0:a.length<=140737488355328:=ha.1
 obtain⟨hle_k0,h0⟩:=hc
 have hcc:=h0.c
 have hll:=h0.l
 refine LenG.of (cL (fun h1=>?_) (fun hge13=>?_))
 ·have h13:=h3 _ (adt h1)
  refine IdxG.of ‹_› ⟨by omega,LenG.of ?_⟩
  refine cL (fun h2=>?_) (fun h5=>?_)
  have h25:=h4 _ (adt h2)
  refine IdxG.of ‹_› ⟨by omega,cD (fun h6=>?_) (fun h6=>?_)⟩
  ·refine⟨by omega,?_⟩
   have ea:a.getD k0.k 0=a[k0.k]:=zv h1
   have eb:b.getD k0.k 0=b[k0.k]:=zv h2
   have h7:=ku h3 k0.k
   have h8:=ku h4 k0.k
   have hz:((a[k0.k]-k0.c-b[k0.k])+65536)-65536*1=a.getD k0.k 0-k0.c-b.getD k0.k 0:=by rw[ea,eb];omega
   have h9:0<=((a[k0.k]-k0.c-b[k0.k])+65536)/\((a[k0.k]-k0.c-b[k0.k])+65536)<=65535:=by rw[ea]at h7;rw[eb]at h8;omega
   refine aw (OpG.mk _ _ _ 2 (ct cw (l:=k0.L) (a:=((a[k0.k]-k0.c-b[k0.k])+65536)) Tryz.underlying27 sz3 zr3 by3 rfl rfl rfl (Src.sl rfl rfl rfl rfl rfl) rfl (by omega) (by omega) (by unfold TV;omega)) rfl rfl ?_)
   refine⟨by omega,⟨(⟨k0.k+1,k0.L++[((a[k0.k]-k0.c-b[k0.k])+65536)],1⟩:KDc),(by show a.length-(k0.k+1)<a.length-k0.k;omega),(cO (.cons rfl rfl (.cons rfl rfl (.cons rfl rfl (.cons rfl rfl (.cons rfl rfl .nil))))) (.cons rfl rfl (aa cw _ _) .nil)),?_⟩⟩
   exact⟨by show k0.k+1<=_;omega,Pl h3 h4 h0 hz ⟨by decide,by decide⟩ h9⟩
  ·have ea:a.getD k0.k 0=a[k0.k]:=zv h1
   have eb:b.getD k0.k 0=b[k0.k]:=zv h2
   have h7:=ku h3 k0.k
   have h8:=ku h4 k0.k
   have hz:(a[k0.k]-k0.c-b[k0.k])-65536*0=a.getD k0.k 0-k0.c-b.getD k0.k 0:=by rw[ea,eb];omega
   have h9:0<=(a[k0.k]-k0.c-b[k0.k])/\(a[k0.k]-k0.c-b[k0.k])<=65535:=by rw[ea]at h7;rw[eb]at h8;omega
   refine aw (OpG.mk _ _ _ 2 (ct cw (l:=k0.L) (a:=(a[k0.k]-k0.c-b[k0.k])) Tryz.underlying27 sz3 zr3 by3 rfl rfl rfl (Src.sl rfl rfl rfl rfl rfl) rfl (by omega) (by omega) (by unfold TV;omega)) rfl rfl ?_)
   refine⟨by omega,⟨(⟨k0.k+1,k0.L++[(a[k0.k]-k0.c-b[k0.k])],0⟩:KDc),(by show a.length-(k0.k+1)<a.length-k0.k;omega),(cO (.cons rfl rfl (.cons rfl rfl (.cons rfl rfl (.cons rfl rfl (.cons rfl rfl .nil))))) (.cons rfl rfl (aa cw _ _) .nil)),?_⟩⟩
   exact⟨by show k0.k+1<=_;omega,Pl h3 h4 h0 hz ⟨by decide,by decide⟩ h9⟩
  refine cD (fun h6=>?_) (fun h6=>?_)
  ·refine⟨by omega,?_⟩
   have ea:a.getD k0.k 0=a[k0.k]:=zv h1
   have eb:b.getD k0.k 0=0:=Nq h5
   have h7:=ku h3 k0.k
   have h8:=ku h4 k0.k
   have hz:((a[k0.k]-k0.c)+65536)-65536*1=a.getD k0.k 0-k0.c-b.getD k0.k 0:=by rw[ea,eb];omega
   have h9:0<=((a[k0.k]-k0.c)+65536)/\((a[k0.k]-k0.c)+65536)<=65535:=by rw[ea]at h7;rw[eb]at h8;omega
   refine aw (OpG.mk _ _ _ 2 (ct cw (l:=k0.L) (a:=((a[k0.k]-k0.c)+65536)) Tryz.underlying27 sz3 zr3 by3 rfl rfl rfl (Src.sl rfl rfl rfl rfl rfl) rfl (by omega) (by omega) (by unfold TV;omega)) rfl rfl ?_)
   refine⟨by omega,⟨(⟨k0.k+1,k0.L++[((a[k0.k]-k0.c)+65536)],1⟩:KDc),(by show a.length-(k0.k+1)<a.length-k0.k;omega),(cO (.cons rfl rfl (.cons rfl rfl (.cons rfl rfl (.cons rfl rfl (.cons rfl rfl .nil))))) (.cons rfl rfl (aa cw _ _) .nil)),?_⟩⟩
   exact⟨by show k0.k+1<=_;omega,Pl h3 h4 h0 hz ⟨by decide,by decide⟩ h9⟩
  have ea:a.getD k0.k 0=a[k0.k]:=zv h1
  have eb:b.getD k0.k 0=0:=Nq h5
  have h7:=ku h3 k0.k
  have h8:=ku h4 k0.k
  have hz:(a[k0.k]-k0.c)-65536*0=a.getD k0.k 0-k0.c-b.getD k0.k 0:=by rw[ea,eb];omega
  have h9:0<=(a[k0.k]-k0.c)/\(a[k0.k]-k0.c)<=65535:=by rw[ea]at h7;rw[eb]at h8;omega
  refine aw (OpG.mk _ _ _ 2 (ct cw (l:=k0.L) (a:=(a[k0.k]-k0.c)) Tryz.underlying27 sz3 zr3 by3 rfl rfl rfl (Src.sl rfl rfl rfl rfl rfl) rfl (by omega) (by omega) (by unfold TV;omega)) rfl rfl ?_)
  refine⟨by omega,⟨(⟨k0.k+1,k0.L++[(a[k0.k]-k0.c)],0⟩:KDc),(by show a.length-(k0.k+1)<a.length-k0.k;omega),(cO (.cons rfl rfl (.cons rfl rfl (.cons rfl rfl (.cons rfl rfl (.cons rfl rfl .nil))))) (.cons rfl rfl (aa cw _ _) .nil)),?_⟩⟩
  exact⟨by show k0.k+1<=_;omega,Pl h3 h4 h0 hz ⟨by decide,by decide⟩ h9⟩
 refine RegG.via (fun _ h=>bl [0] 5 (.tree 1 (k0.L.map iA)) (fq cw (ady.2 rfl) rfl) rfl h) (aw ?_)
 refine ArgG.mk (nu k0.L (dp (by omega)) (by omega)) rfl ?_
 rintro _ rfl
 exact rV rfl rfl ⟨_,Cr h0.d (ab9 hd he hf h0 (by omega)),rfl⟩
theorem N9(a:List Int)(ha:iq a (fun y=>True))(y:Int)(hy:0<=y/\y<=65535)(h2:Dh a)(hsa:a.length<=400):PRet Tryz.prog 126 [.tree 1 (a.map iA),.v (.int .i64 y)] (fun q=>∃r,Cn r (vl a*y)/\q=.tree 1 (r.map iA)):=by
 refine ovT [8,29,33,35,37] [7,8,10] Tryz.func126 rfl rfl (OpG.nw (bm 0 Tryz.underlying27 sz3) rfl ?_)
 refine LpG.on (fun k0:KDc=>(⟨fL [(0,.tree 1 (a.map iA)),(1,.v (.int .i64 y)),(5,.sl 0 k0.k 0 k0.L.length),(6,.v (.int .i64 k0.c)),(7,.v (.int .i64 ((k0.k:Nat):Int)))],hLz [(0,⟨k0.k,rF iA k0.L,1,false⟩)],1⟩:St)) (fun k0=>((a.length+1)-k0.k)) (fun k0=>(k0.k<=(a.length+1)/\TiI a y k0)) (⟨0,[],0⟩:KDc) (cO (.cons rfl rfl (.cons rfl rfl (.cons rfl rfl (.cons rfl rfl (.cons rfl rfl .nil))))) (.cons rfl rfl (aa cw _ _) .nil)) ⟨ad7 _,aar a y⟩ ?_
 rintro k0 h5
 obtain⟨hle_k0,h0⟩:=h5
 have hcc:=h0.c
 have hll:=h0.l
 refine LenG.of (cB (fun h1=>?_) (fun h1=>?_))
 ·have h3:k0.k<a.length:=Int.ofNat_lt.1 (ad5 h1)
  refine cT (LenG.of ?_)
  refine cB (fun _=>?_) (fun hz=>absurd (hz.symm.trans h1) aer)
  have h7:=Oa ((fun(h:k0.k<a.length)=>h2 _ (adt h)) ‹_›) hy
  refine aw (IdxG.of ‹_› ?_)
  refine OpG.lk (mw (r:=a[k0.k]*y) rfl rfl (by rw[IntKind.wrap_i64];omega)) ⟨by omega,?_⟩
  have ea:a.getD k0.k 0=a[k0.k]:=by exact zv h3
  have h9:=Oa (ku h2 k0.k) hy
  have hz:(k0.c+a[k0.k]*y)=k0.c+a.getD k0.k 0*y:=by rw[ea]
  have h6:k0.k<=a.length:=by have:=h0.e;omega
  refine aw (OpG.lk (jf rfl rfl (by omega) (by decide)) ?_)
  refine OpG.mk _ _ _ 2 (ct cw (l:=k0.L) (a:=((k0.c+a[k0.k]*y)%65536)) Tryz.underlying27 sz3 zr3 by3 rfl rfl rfl (Src.sl rfl rfl rfl rfl rfl) rfl (by omega) (by omega) (by unfold TV;omega)) rfl rfl (OpG.lk (fm (r:=(k0.c+a[k0.k]*y)/65536) rfl rfl (by omega) (by decide) (by rw[IntKind.wrap_i64];omega)) ?_)
  refine⟨by omega,⟨(⟨k0.k+1,k0.L++[((k0.c+a[k0.k]*y)%65536)],((k0.c+a[k0.k]*y)/65536)⟩:KDc),(by show(a.length+1)-(k0.k+1)<(a.length+1)-k0.k;omega),(cO (.cons rfl rfl (.cons rfl rfl (.cons rfl rfl (.cons rfl rfl (.cons rfl rfl .nil))))) (.cons rfl rfl (aa cw _ _) .nil)),?_⟩⟩
  exact⟨by show k0.k+1<=_;omega,Wx h2 hy h0 hz h6⟩
 have h4:¬k0.k<a.length:=fun h=>ad4 h1 (Int.ofNat_lt.2 h)
 refine cD (fun h8=>?_) (fun h8=>?_)
 ·refine LenG.of (cB (fun hz=>absurd (hz.symm.trans h1) Bool.noConfusion) (fun _=>?_))
  have ea:a.getD k0.k 0=0:=by exact Nq h4
  have h9:=Oa (ku h2 k0.k) hy
  have hz:k0.c=k0.c+a.getD k0.k 0*y:=by rw[ea];omega
  have h6:k0.k<=a.length:=by have:=h0.e;omega
  refine aw (OpG.lk (jf rfl rfl (by omega) (by decide)) ?_)
  refine OpG.mk _ _ _ 2 (ct cw (l:=k0.L) (a:=(k0.c%65536)) Tryz.underlying27 sz3 zr3 by3 rfl rfl rfl (Src.sl rfl rfl rfl rfl rfl) rfl (by omega) (by omega) (by unfold TV;omega)) rfl rfl (OpG.lk (fm (r:=k0.c/65536) rfl rfl (by omega) (by decide) (by rw[IntKind.wrap_i64];omega)) ?_)
  refine⟨by omega,⟨(⟨k0.k+1,k0.L++[(k0.c%65536)],(k0.c/65536)⟩:KDc),(by show(a.length+1)-(k0.k+1)<(a.length+1)-k0.k;omega),(cO (.cons rfl rfl (.cons rfl rfl (.cons rfl rfl (.cons rfl rfl (.cons rfl rfl .nil))))) (.cons rfl rfl (aa cw _ _) .nil)),?_⟩⟩
  exact⟨by show k0.k+1<=_;omega,Wx h2 hy h0 hz h6⟩
 refine RegG.via (fun _ h=>bl [0] 5 (.tree 1 (k0.L.map iA)) (fq cw (ady.2 rfl) rfl) rfl h) (aw ?_)
 refine ArgG.mk (nu k0.L (dp (by omega)) (by omega)) rfl ?_
 rintro _ rfl
 exact rV rfl rfl ⟨_,Cr h0.d (aaq h0 ‹_› (by have:=h0.c;omega)),rfl⟩
def hvL:List Int->List Int
 |[]=>[]
 |n::l=>n%65536::n/65536::hvL l
theorem Gi:∀(l:List Int) (n:Int),hvL (l++[n])=hvL l++[n%65536,n/65536]
 |[],_=>rfl
 |a::l,n=>by show _::_::hvL (l++[n])=_;rw[Gi l n];rfl
theorem D8:∀(l:List Int),(hvL l).length=2*l.length
 |[]=>rfl
 |a::l=>by show(hvL l).length+1+1=2*(l.length+1);rw[D8 l];omega
theorem Ep{l:List Int}{n:Int}(h:Cn l n):l.length=0↔n=0:=by
 constructor
 ·intro g
  rw[<-h.v,aem g];rfl
 intro g
 rcases Nat.eq_zero_or_pos l.length with e|e
 ·exact e
 have h1:=Qg h e
 have h2:=Fw (l.length-1)
 omega
theorem ac8{n:Int}(h0:0<=n)(h1:n<=4294967295):Cn (dtr (hvL (dgN n))) n:=by
 unfold dgN
 by_cases e:n=0
 ·rw[ad3 e];subst e;exact⟨rfl,fun x hx=>by simp[hvL,dtr]at hx,rfl⟩
 rw[ad1 e]
 refine Cr (fun x hx=>?_) ?_
 ·simp only[hvL,aek,List.not_mem_nil,or_false]at hx
  rcases hx with rfl|rfl<;>omega
 show n%65536+65536*(n/65536+65536*0)=n
 omega
theorem Py(x:GBig)(hx:FitBig x)(h3:Dg x.a_)(hs:x.a_.length<=400):PRet Tryz.prog 96 [.agg (bgA x)] (fun q=>q=.tree 1 ((dtr (hvL x.a_)).map iA)):=by
 refine ovT [5,19,20,26,27,28,29] [6] Tryz.func96 rfl rfl (OpG.nw (bm 1 Tryz.underlying27 sz3) rfl ?_)
 refine LpG.on (fun k0:KL Int=>(⟨fL [(1,.ptr 0 0 0),(3,.sl 1 k0.k 0 k0.L.length),(4,.v (.int .i64 ((k0.k:Nat):Int)))],hLz [(0,⟨0,bgA x,0,false⟩),(1,⟨k0.k,rF iA k0.L,1,false⟩)],2⟩:St)) (fun k0=>(x.a_.length-k0.k)) (fun k0=>(k0.k<=x.a_.length/\(k0.L=hvL (x.a_.take k0.k)))) (⟨0,[]⟩:KL Int) (cO (.cons rfl rfl (.cons rfl rfl (.cons rfl rfl .nil))) (.cons rfl rfl rfl (.cons rfl rfl (aa cw _ _) .nil))) ⟨ad7 _,rfl⟩ ?_
 rintro k0 h2
 have hgr_k0:x.a_.length<=140737488355328:=hx.a_.1
 obtain⟨hle_k0,h1⟩:=h2
 refine LenG.of (cL (fun h0=>?_) (fun hge10=>?_))
 ·have hd:=h3 _ (adt h0)
  have h4:k0.L.length=2*k0.k:=by rw[h1,D8,List.length_take];omega
  refine IdxG.of ‹_› (OpG.lk (jf rfl rfl hd.1 (by decide)) ?_)
  refine OpG.lk (cn (r:=(x.a_[k0.k]'h0)%65536) Tryz.underlying192 Tryz.underlying3 rfl (by rw[IntKind.wrap_i64];omega)) (IdxG.of ‹_› ?_)
  refine OpG.lk (fm (r:=(x.a_[k0.k]'h0)/65536) rfl rfl hd.1 (by decide) (by rw[IntKind.wrap_u32];omega)) (OpG.lk (cn (r:=(x.a_[k0.k]'h0)/65536) Tryz.underlying192 Tryz.underlying3 rfl (by rw[IntKind.wrap_i64];omega)) ?_)
  refine OpG.nw (cm (d4 Tryz.underlying27 sz3 zr3 rfl rfl rfl rfl) (fun η' h=>bi (f:=iA) (l:=[(x.a_[k0.k]'h0)%65536,(x.a_[k0.k]'h0)/65536]) (ady.2 rfl) h rfl rfl rfl rfl rfl (fun a _=>⟨rfl,rfl⟩))) rfl (OpG.mk _ _ _ 3 (jg cw (l:=k0.L) (l':=[(x.a_[k0.k]'h0)%65536,(x.a_[k0.k]'h0)/65536]) Tryz.underlying27 sz3 zr3 by3 rfl rfl rfl rfl (by simp only[aeg,aeh];omega) (by simp only[aeg,aeh];omega) (by unfold TV;omega)) rfl rfl ?_)
  refine⟨by kernel_rfl,⟨by omega,?_⟩⟩
  refine⟨(⟨k0.k+1,k0.L++[(x.a_[k0.k]'h0)%65536,(x.a_[k0.k]'h0)/65536]⟩:KL Int),(by show x.a_.length-(k0.k+1)<x.a_.length-k0.k;omega),(cO (.cons rfl rfl (.cons rfl rfl (.cons rfl rfl .nil))) (.cons rfl rfl rfl (.cons rfl rfl (aa cw _ _) .nil))),⟨by show k0.k+1<=_;omega,?_⟩⟩
  show k0.L++_=hvL (x.a_.take (k0.k+1))
  rw[ad6 h0,Gi,h1]
 refine RegG.via (fun _ h=>bl [1] 3 (.tree 1 (k0.L.map iA)) (fq cw (ady.2 rfl) rfl) rfl h) ?_
 have h4:k0.L.length<=800:=by rw[h1,D8,List.length_take];omega
 refine aw (ArgG.mk (nu k0.L (dp (by omega)) (by omega)) rfl ?_)
 rintro _ rfl
 refine rV rfl rfl ?_
 rw[h1,ael (by omega)];rfl
theorem Zx(ng:Bool):PRet Tryz.prog 95 [.v (.bool ng),.tree 1 ((([]:List Int)).map iA)] (fun q=>q=.agg (bgA ⟨false,[]⟩)):=by
 refine ovT [] [] Tryz.func95 rfl rfl (ArgG.mk ((show PRet Tryz.prog 128 [.tree 1 ((([]:List Int)).map iA)] (fun q=>q=.tree 1 ((([]:List Int)).map iA))from by have:=nu ([]:List Int) (dp (by show 0<=5000;decide)) (by show 0<=1000;decide);rwa [show dtr []=[]from rfl]at this)) rfl ?_)
 rintro _ rfl
 refine cB (fun h2=>?_) (fun h2=>?_)
 ·refine LenG.of (kc (ULp.step ?_))
  refine LenG.of (cB (fun h0=>?_) (fun h0=>?_))
  ·have h1:(0:Int)<(((([]:List Int)).length:Nat):Int):=ad5 h0
   simp at h0
  have h1:¬((0:Int)<(((([]:List Int)).length:Nat):Int)):=ad4 h0
  refine⟨.inr rfl,_,M1.cell rfl da rfl rfl rfl rfl rfl ⟨[],j0 (.cons (.pure rfl) (.cons (FzP.nil (n:=1)) .nil))⟩,?_⟩
  rfl
 refine kc (ULp.step ?_)
 refine LenG.of (cB (fun h0=>?_) (fun h0=>?_))
 ·have h1:(0:Int)<(((([]:List Int)).length:Nat):Int):=ad5 h0
  simp at h0
 have h1:¬((0:Int)<(((([]:List Int)).length:Nat):Int)):=ad4 h0
 refine⟨.inr rfl,_,M1.cell rfl da rfl rfl rfl rfl rfl ⟨[],j0 (.cons (.pure rfl) (.cons (FzP.nil (n:=1)) .nil))⟩,?_⟩
 rfl
theorem Zw(ng:Bool){a:Int}(ha:0<=a/\a<=65535)(hc:dtr [a]=[a]):PRet Tryz.prog 95 [.v (.bool ng),.tree 1 (([a]).map iA)] (fun q=>q=.agg (bgA ⟨ng,[a]⟩)):=by
 refine ovT [27,45,46] [] Tryz.func95 rfl rfl (ArgG.mk ((show PRet Tryz.prog 128 [.tree 1 (([a]).map iA)] (fun q=>q=.tree 1 (([a]).map iA))from by have:=nu [a] (dp (by show 1<=5000;decide)) (by show 1<=1000;decide);rwa [hc]at this)) rfl ?_)
 rintro _ rfl
 refine cB (fun h3=>?_) (fun h3=>?_)
 ·refine LenG.of (kc (ULp.step ?_))
  refine LenG.of (cB (fun h0=>?_) (fun h0=>?_))
  ·have h2:(0:Int)<(([a].length:Nat):Int):=ad5 h0
   refine IdxG.of (j:=0) (by omega) (OpG.lk (cn (r:=a) Tryz.underlying3 Tryz.underlying192 rfl (by show IntKind.u32.wrap a=a;rw[IntKind.wrap_u32];omega)) ?_)
   refine⟨by omega,LenG.of ?_⟩
   refine cB (fun h1=>?_) (fun h1=>?_)
   ·have h4:(1:Int)<(([a].length:Nat):Int):=ad5 h1
    simp at h1
   have h4:¬((1:Int)<(([a].length:Nat):Int)):=ad4 h1
   refine OpG.nw (cm (d4 Tryz.underlying46 dw lq rfl rfl rfl rfl) (fun η' h=>bi (f:=co) (l:=[a]) (ady.2 rfl) h rfl rfl rfl rfl rfl (fun a _=>⟨rfl,rfl⟩))) rfl (OpG.nw (js (m:=1) (news:=rF co [a]) Tryz.underlying46 dw lq uj rfl rfl (by decide) (ij (l:=[a]) (f:=co) rfl) (by decide) rfl (by decide) (by decide)) rfl ?_)
   refine⟨by omega,ULp.step ?_⟩
   refine LenG.of (cB (fun h0=>?_) (fun h0=>?_))
   ·have h2:(2:Int)<(([a].length:Nat):Int):=ad5 h0
    simp at h0
   have h2:¬((2:Int)<(([a].length:Nat):Int)):=ad4 h0
   refine⟨.inr rfl,_,M1.cell rfl da rfl rfl rfl rfl rfl ⟨[3],j0 (.cons (.pure rfl) (.cons (bi (f:=co) (l:=[a]) (ady.2 rfl) rfl rfl rfl rfl rfl rfl (fun a _=>⟨rfl,rfl⟩)) .nil))⟩,?_⟩
   subst h3;rfl
  have h2:¬((0:Int)<(([a].length:Nat):Int)):=ad4 h0
  simp at h0
 refine kc (ULp.step ?_)
 refine LenG.of (cB (fun h0=>?_) (fun h0=>?_))
 ·have h2:(0:Int)<(([a].length:Nat):Int):=ad5 h0
  refine IdxG.of (j:=0) (by omega) (OpG.lk (cn (r:=a) Tryz.underlying3 Tryz.underlying192 rfl (by show IntKind.u32.wrap a=a;rw[IntKind.wrap_u32];omega)) ?_)
  refine⟨by omega,LenG.of ?_⟩
  refine cB (fun h1=>?_) (fun h1=>?_)
  ·have h4:(1:Int)<(([a].length:Nat):Int):=ad5 h1
   simp at h1
  have h4:¬((1:Int)<(([a].length:Nat):Int)):=ad4 h1
  refine OpG.nw (cm (d4 Tryz.underlying46 dw lq rfl rfl rfl rfl) (fun η' h=>bi (f:=co) (l:=[a]) (ady.2 rfl) h rfl rfl rfl rfl rfl (fun a _=>⟨rfl,rfl⟩))) rfl (OpG.nw (js (m:=1) (news:=rF co [a]) Tryz.underlying46 dw lq uj rfl rfl (by decide) (ij (l:=[a]) (f:=co) rfl) (by decide) rfl (by decide) (by decide)) rfl ?_)
  refine⟨by omega,ULp.step ?_⟩
  refine LenG.of (cB (fun h0=>?_) (fun h0=>?_))
  ·have h2:(2:Int)<(([a].length:Nat):Int):=ad5 h0
   simp at h0
  have h2:¬((2:Int)<(([a].length:Nat):Int)):=ad4 h0
  refine⟨.inr rfl,_,M1.cell rfl da rfl rfl rfl rfl rfl ⟨[3],j0 (.cons (.pure rfl) (.cons (bi (f:=co) (l:=[a]) (ady.2 rfl) rfl rfl rfl rfl rfl rfl (fun a _=>⟨rfl,rfl⟩)) .nil))⟩,?_⟩
  subst h3;rfl
 have h2:¬((0:Int)<(([a].length:Nat):Int)):=ad4 h0
 simp at h0
theorem Zv(ng:Bool){a b:Int}(ha:0<=a/\a<=65535)(hb:0<=b/\b<=65535)(hc:dtr [a,b]=[a,b]):PRet Tryz.prog 95 [.v (.bool ng),.tree 1 (([a,b]).map iA)] (fun q=>q=.agg (bgA ⟨ng,[a+65536*b]⟩)):=by
 refine ovT [27,39,40,41,45,46] [] Tryz.func95 rfl rfl (ArgG.mk ((show PRet Tryz.prog 128 [.tree 1 (([a,b]).map iA)] (fun q=>q=.tree 1 (([a,b]).map iA))from by have:=nu [a,b] (dp (by show 2<=5000;decide)) (by show 2<=1000;decide);rwa [hc]at this)) rfl ?_)
 rintro _ rfl
 refine cB (fun h3=>?_) (fun h3=>?_)
 ·refine LenG.of (kc (ULp.step ?_))
  refine LenG.of (cB (fun h0=>?_) (fun h0=>?_))
  ·have h2:(0:Int)<((([a,b]).length:Nat):Int):=ad5 h0
   refine IdxG.of (j:=0) (by omega) (OpG.lk (cn (r:=a) Tryz.underlying3 Tryz.underlying192 rfl (by show IntKind.u32.wrap a=a;rw[IntKind.wrap_u32];omega)) ?_)
   refine⟨by omega,LenG.of ?_⟩
   refine cB (fun h1=>?_) (fun h1=>?_)
   ·have h4:(1:Int)<((([a,b]).length:Nat):Int):=ad5 h1
    refine⟨by omega,IdxG.of (j:=1) (by omega) ?_⟩
    refine OpG.lk (cn (r:=b) Tryz.underlying3 Tryz.underlying192 rfl (by show IntKind.u32.wrap b=b;rw[IntKind.wrap_u32];omega)) (OpG.lk (mw (r:=65536*b) rfl rfl (by rw[IntKind.wrap_u32];omega)) ?_)
    refine OpG.lk (my (r:=a+65536*b) rfl rfl (by rw[IntKind.wrap_u32];omega)) (OpG.nw (cm (d4 Tryz.underlying46 dw lq rfl rfl rfl rfl) (fun η' h=>bi (f:=co) (l:=[(a+65536*b)]) (ady.2 rfl) h rfl rfl rfl rfl rfl (fun a _=>⟨rfl,rfl⟩))) rfl ?_)
    refine OpG.nw (js (m:=1) (news:=rF co [(a+65536*b)]) Tryz.underlying46 dw lq uj rfl rfl (by decide) (ij (l:=[(a+65536*b)]) (f:=co) rfl) (by decide) rfl (by decide) (by decide)) rfl ⟨by omega,ULp.step ?_⟩
    refine LenG.of (cB (fun h0=>?_) (fun h0=>?_))
    ·have h2:(2:Int)<((([a,b]).length:Nat):Int):=ad5 h0
     simp at h0
    have h2:¬((2:Int)<((([a,b]).length:Nat):Int)):=ad4 h0
    refine⟨.inr rfl,_,M1.cell rfl da rfl rfl rfl rfl rfl ⟨[3],j0 (.cons (.pure rfl) (.cons (bi (f:=co) (l:=[(a+65536*b)]) (ady.2 rfl) rfl rfl rfl rfl rfl rfl (fun a _=>⟨rfl,rfl⟩)) .nil))⟩,?_⟩
    subst h3;rfl
   have h4:¬((1:Int)<((([a,b]).length:Nat):Int)):=ad4 h1
   simp at h1
  have h2:¬((0:Int)<((([a,b]).length:Nat):Int)):=ad4 h0
  simp at h0
 refine kc (ULp.step ?_)
 refine LenG.of (cB (fun h0=>?_) (fun h0=>?_))
 ·have h2:(0:Int)<((([a,b]).length:Nat):Int):=ad5 h0
  refine IdxG.of (j:=0) (by omega) (OpG.lk (cn (r:=a) Tryz.underlying3 Tryz.underlying192 rfl (by show IntKind.u32.wrap a=a;rw[IntKind.wrap_u32];omega)) ?_)
  refine⟨by omega,LenG.of ?_⟩
  refine cB (fun h1=>?_) (fun h1=>?_)
  ·have h4:(1:Int)<((([a,b]).length:Nat):Int):=ad5 h1
   refine⟨by omega,IdxG.of (j:=1) (by omega) ?_⟩
   refine OpG.lk (cn (r:=b) Tryz.underlying3 Tryz.underlying192 rfl (by show IntKind.u32.wrap b=b;rw[IntKind.wrap_u32];omega)) (OpG.lk (mw (r:=65536*b) rfl rfl (by rw[IntKind.wrap_u32];omega)) ?_)
   refine OpG.lk (my (r:=a+65536*b) rfl rfl (by rw[IntKind.wrap_u32];omega)) (OpG.nw (cm (d4 Tryz.underlying46 dw lq rfl rfl rfl rfl) (fun η' h=>bi (f:=co) (l:=[(a+65536*b)]) (ady.2 rfl) h rfl rfl rfl rfl rfl (fun a _=>⟨rfl,rfl⟩))) rfl ?_)
   refine OpG.nw (js (m:=1) (news:=rF co [(a+65536*b)]) Tryz.underlying46 dw lq uj rfl rfl (by decide) (ij (l:=[(a+65536*b)]) (f:=co) rfl) (by decide) rfl (by decide) (by decide)) rfl ⟨by omega,ULp.step ?_⟩
   refine LenG.of (cB (fun h0=>?_) (fun h0=>?_))
   ·have h2:(2:Int)<((([a,b]).length:Nat):Int):=ad5 h0
    simp at h0
   have h2:¬((2:Int)<((([a,b]).length:Nat):Int)):=ad4 h0
   refine⟨.inr rfl,_,M1.cell rfl da rfl rfl rfl rfl rfl ⟨[3],j0 (.cons (.pure rfl) (.cons (bi (f:=co) (l:=[(a+65536*b)]) (ady.2 rfl) rfl rfl rfl rfl rfl rfl (fun a _=>⟨rfl,rfl⟩)) .nil))⟩,?_⟩
   subst h3;rfl
  have h4:¬((1:Int)<((([a,b]).length:Nat):Int)):=ad4 h1
  simp at h1
 have h2:¬((0:Int)<((([a,b]).length:Nat):Int)):=ad4 h0
 simp at h0
theorem pu{ng:Bool}{l:List Int}{n:Int}(h:Cn l n)(h1:n<=4294967295):PRet Tryz.prog 95 [.v (.bool ng),.tree 1 (l.map iA)] (fun q=>q=.agg (bgA (bgS ng n))):=by
 have hl:l.length<=2:=by
  rcases Nat.lt_or_ge 2 l.length with g|g
  ·have h2:=Qg h (by omega)
   have h3:(65536:Int)^2<=65536^(l.length-1):=Js (by omega)
   have h4:(65536:Int)^2=4294967296:=by decide
   omega
  ·exact g
 match l,h,hl with
 |[],h,_=>
  have e:n=0:=h.v.symm
  subst e;exact Zx ng
 |[a],h,_=>
  have e:a+65536*0=n:=h.v
  have e0:¬n=0:=fun g=>by
   have h0:=h.t
   rw[show a=0 by omega]at h0;exact absurd h0 (by decide)
  have:=Zw ng (h.d a (by simp)) h.t
  unfold bgS;rw[ad1 e0,<-show a=n by omega];exact this
 |[a,b],h,_=>
  have e:a+65536*(b+65536*0)=n:=h.v
  have hb:=h.d b (by simp)
  have hb0:¬b=0:=fun g=>by
   have h0:=h.t
   rw[g,H7]at h0
   have:=@cz a
   rw[h0]at this;exact absurd this (by simp)
  have ha:=h.d a (by simp)
  have:=Zv ng ha hb h.t
  unfold bgS;rw[ad1 (by omega),<-show a+65536*b=n by omega];exact this
 |_::_::_::_,_,hl=>exact absurd hl (by simp)
theorem ro{x:Int}(h:B1 x):PRet Tryz.prog 96 [.agg (bgA (bgI x))] (fun q=>∃r,Cn r (aZ x)/\q=.tree 1 (r.map iA)):=
 (Py (bgI x) (Il x) (t7 h) (aec ll (by decide))).mono fun q hq=>⟨_,by rw[d7];exact ac8 (fy x) (jc h),hq⟩
theorem Pa{x:Int}(hx:B1 x):PRet Tryz.prog 94 [.agg (bgA (bgI x))] (fun q=>q=.agg (bgA (bgI x))):=by
 refine ovT [] [] Tryz.func94 rfl rfl (ArgG.mk (ro (x:=x) (by constructor<;>omega)) rfl ?_)
 rintro _ ⟨r0,h0,rfl⟩
 refine ArgG.mk (pu (ng:=((bgI x).b_)) h0 (by exact jc ‹_›)) rfl ?_
 rintro _ rfl
 refine⟨by kernel_rfl,⟨.inr rfl,_,M1.cell rfl da rfl rfl rfl rfl rfl ⟨[],FzP.pure rfl⟩,?_⟩⟩
 rw[bv];rfl
theorem mc{x:Int}(hx:B1 x):PRet Tryz.prog 89 [.agg (bgA (bgI x))] (fun q=>q=.v (.int .i64 (sgZ x))):=by
 refine ovT [] [] Tryz.func89 rfl rfl (ArgG.mk (ro (x:=x) (by constructor<;>omega)) rfl ?_)
 rintro _ ⟨r0,h1,rfl⟩
 refine LenG.of (cE (fun h2=>?_) (fun h2=>?_))
 ·refine rV rfl rfl ?_
  have e:x=0:=aZ_0.1 ((Ep h1).1 (by omega))
  subst e;rfl
 refine cB (fun h0=>?_) (fun h0=>?_)
 ·refine rV rfl rfl ?_
  have e:x≠0:=fun e=>h2 (by have:=(Ep h1).2 (aZ_0.2 e);omega)
  have e2:x<0:=by rw[bv]at h0;simpa using h0
  unfold sgZ;rw[ad1 e,ad3 e2];rfl
 refine rV rfl rfl ?_
 have e:x≠0:=fun e=>h2 (by have:=(Ep h1).2 (aZ_0.2 e);omega)
 have e2:¬x<0:=by rw[bv]at h0;simpa using h0
 unfold sgZ;rw[ad1 e,ad1 e2];rfl
theorem D0{x:Int}(hx:B1 x):PRet Tryz.prog 53 [.agg (bgA (bgI x))] (fun q=>q=.agg (bgA (bgI (-x)))):=by
 refine ovT [] [] Tryz.func53 rfl rfl (ArgG.mk (ro (x:=x) (by constructor<;>omega)) rfl ?_)
 rintro _ ⟨r0,h0,rfl⟩
 refine ArgG.mk (pu (ng:=((!(bgI x).b_))) h0 (by exact jc ‹_›)) rfl ?_
 rintro _ rfl
 refine⟨by kernel_rfl,⟨.inr rfl,_,M1.cell rfl da rfl rfl rfl rfl rfl ⟨[],FzP.pure rfl⟩,?_⟩⟩
 rw[bv,nk (x:=-x) (by unfold aZ;split<;>split<;>omega) (fun h=>by rw[<-decide_not];exact decide_eq_decide.2 (by omega))]
theorem rt{l:List Int}{n:Int}(h:Cn l n)(h1:n<=8589934590):l.length<=3:=by
 rcases Nat.lt_or_ge 3 l.length with g|g
 ·have h2:=Qg h (by omega)
  have h3:(65536:Int)^3<=65536^(l.length-1):=Js (by omega)
  have h4:(65536:Int)^3=281474976710656:=by decide
  omega
 exact g
section
variable{a b:List Int}{m n:Int}
theorem T3(ha:Cn a m)(hb:Cn b n)(hm:m<=8589934590)(hn:n<=8589934590):PRet Tryz.prog 123 [.tree 1 (a.map iA),.tree 1 (b.map iA)] (fun q=>∃r,Cn r (m+n)/\q=.tree 1 (r.map iA)):=by
 have h1:=rt ha hm
 have h2:=rt hb hn
 have:=Ju a (dp (by omega)) b (dp (by omega)) ha.d hb.d (by omega) (by omega)
 rwa [ha.v,hb.v]at this
theorem abu(ha:Cn a m)(hb:Cn b n)(hm:m<=8589934590)(hn:n<=8589934590):PRet Tryz.prog 124 [.tree 1 (a.map iA),.tree 1 (b.map iA)] (fun q=>q=.v (.int .i64 (sgZ (m-n)))):=by
 have h1:=rt ha hm
 have h2:=rt hb hn
 exact abt a (dp (by omega)) b (dp (by omega)) ha hb (by omega) (by omega)
theorem F8(ha:Cn a m)(hb:Cn b n)(hm:m<=8589934590)(h0:n<=m):PRet Tryz.prog 125 [.tree 1 (a.map iA),.tree 1 (b.map iA)] (fun q=>∃r,Cn r (m-n)/\q=.tree 1 (r.map iA)):=by
 have h1:=rt ha hm
 have h2:=rt hb (by omega)
 exact Pk a (dp (by omega)) b (dp (by omega)) ha hb (by omega) (by omega) h0
theorem Ww(ha:Cn a m)(hm:m<=8589934590){y:Int}(hy:0<=y/\y<=65535):PRet Tryz.prog 126 [.tree 1 (a.map iA),.v (.int .i64 y)] (fun q=>∃r,Cn r (m*y)/\q=.tree 1 (r.map iA)):=by
 have h1:=rt ha hm
 have:=N9 a (dp (by omega)) y hy ha.d (by omega)
 rwa [ha.v]at this
end
section
variable{x y:Int}
theorem ad_s(h:(decide (x<0)==decide (y<0))=true):aZ x+aZ y=aZ (x+y)/\bgS (decide (x<0)) (aZ x+aZ y)=bgI (x+y):=by
 have h1:x<0↔y<0:=by simpa using h
 have e:aZ x+aZ y=aZ (x+y):=by
  unfold aZ
  by_cases g:x<0
  ·rw[ad3 g,ad3 (h1.1 g),ad3 (by have:=h1.1 g;omega)];omega
  ·rw[ad1 g,ad1 (fun k=>g (h1.2 k)),ad1 (by have:=fun k=>g (h1.2 k);omega)]
 exact⟨e,nk e fun _=>decide_eq_decide.2 (by omega)⟩
theorem ad_g(h:(decide (x<0)==decide (y<0))=false)(g:aZ y<=aZ x):bgS (decide (x<0)) (aZ x-aZ y)=bgI (x+y):=by
 have h1:¬(x<0↔y<0):=by simpa using h
 refine nk ?_ fun _=>decide_eq_decide.2 ?_
 ·unfold aZ at g ⊢;split at g<;>split at g<;>split<;>omega
 unfold aZ at g;split at g<;>split at g<;>omega
theorem ad_l(h:(decide (x<0)==decide (y<0))=false)(g:¬aZ y<=aZ x):bgS (decide (y<0)) (aZ y-aZ x)=bgI (x+y):=by
 have h1:¬(x<0↔y<0):=by simpa using h
 refine nk ?_ fun _=>decide_eq_decide.2 ?_
 ·unfold aZ at g ⊢;split at g<;>split at g<;>split<;>omega
 unfold aZ at g;split at g<;>split at g<;>omega
end
structure OfI(n:Int)(s:KDc):Prop where
 d:Dh s.L
 l:s.L.length=s.k
 v:vl s.L+65536^s.k*s.c=aZ n
 c:0<=s.c/\(s.k=0->s.c<=4294967295)/\(s.k=1->s.c<=65535)/\(s.k=2->s.c=0)
 t:s.c=0->dtr s.L=s.L
theorem Xw{n:Int}(h:B1 n):OfI n ⟨0,[],aZ n⟩:=⟨fun x hx=>by simp at hx,rfl,by simp[vl],⟨fy n,fun _=>jc h,fun e=>absurd e (by show¬(0=1);decide),fun e=>absurd e (by show¬(0=2);decide)⟩,fun _=>rfl⟩
theorem Vi{L:List Int}{z:Int}(h:z≠0):dtr (L++[z])=L++[z]:=Lu (by simp) (by simpa using h)
theorem Xu{n:Int}{s:KDc}(h:OfI n s)(hk:s.k<2)(hc:s.c>0):OfI n ⟨s.k+1,s.L++[s.c%65536],s.c/65536⟩:=by
 obtain⟨c1,c2,c3,c4⟩:=h.c
 refine⟨Ej h.d,by simp[h.l],?_,⟨by show 0<=s.c/65536;omega,fun e=>absurd e (by show¬s.k+1=0;omega),fun e=>?_,fun e=>?_⟩,fun e=>Vi ?_⟩
 ·show vl (s.L++[s.c%65536])+65536^(s.k+1)*(s.c/65536)=_
  rw[sf,h.l,Int.pow_succ,Int.mul_assoc]
  have hv:=h.v
  have e1:(65536:Int)^s.k*(s.c%65536)+65536^s.k*(65536*(s.c/65536))=65536^s.k*s.c:=by
   rw[<-Int.mul_add]
   congr 1;omega
  omega
 ·have:=c2 (by have:s.k+1=1:=e;omega)
  show s.c/65536<=65535
  omega
 ·have:=c3 (by have:s.k+1=2:=e;omega)
  show s.c/65536=0
  omega
 have e:s.c/65536=0:=e
 omega
theorem Xv{n:Int}{s:KDc}(h:OfI n s)(hc:¬s.c>0):Cn s.L (aZ n):=by
 have e:s.c=0:=by have:=h.c.1;omega
 have hv:=h.v
 rw[e]at hv
 exact⟨h.t e,h.d,by omega⟩
theorem De{r:List Int}{j:Nat}(h:j<r.length):vl (r.drop j)=r[j]+65536*vl (r.drop (j+1)):=by rw[aeo h];rfl
theorem xw:∀{r:List Int} {j:Nat},Dh r->vl (r.drop j)<=vl r
 |_,0,_=>Int.le_refl _
 |[],_+1,_=>Int.le_refl _
 |a::l,j+1,h=>by
  have h1:=xw (r:=l) (j:=j) (fun x hx=>h x (by simp[hx]))
  have h2:=A2 (d:=l) (fun x hx=>h x (by simp[hx]))
  have h3:=(h a (by simp)).1
  show vl (l.drop j)<=a+65536*vl l
  omega
theorem ab7{L r:List Int}{s t:Int}(h:Cn L s)(hr:Cn r t)(hs:s<=8589934590)(ht:t<=8589934590):PRet Tryz.prog 123 [.tree 1 (([0]++L).map iA),.tree 1 (r.map iA)] (fun q=>∃r',Cn r' (65536*s+t)/\q=.tree 1 (r'.map iA)):=by
 have h1:=rt h hs
 have h2:=rt hr ht
 have:=Ju ([0]++L) (dp (by simp;omega)) r (dp (by omega)) (fun x hx=>by
  rcases adz.1 hx with hx|hx
  ·rw[ady.1 hx];exact⟨by decide,by decide⟩
  ·exact h.d x hx) hr.d (by simp;omega) (by omega)
 rw[show vl ([0]++L)+vl r=65536*s+t from by rw[<-h.v,<-hr.v];show 0+65536*vl L+vl r=_;omega]at this
 exact this
theorem Uj{r:List Int}{X Y:Int}{k:Nat}(h:Cn r Y)(hX:0<=X)(h0:Y*X<=4294967295):0<=vl (r.drop k)*X/\vl (r.drop k)*X<=4294967295:=by
 have h1:=xw (j:=k) h.d
 rw[h.v]at h1
 have h2:0<=vl (r.drop k):=A2 (fun x hx=>h.d x (List.mem_of_mem_drop hx))
 exact⟨Int.mul_nonneg h2 hX,Int.le_trans (Int.mul_le_mul_of_nonneg_right h1 hX) h0⟩
theorem aap{a b X v:Int}(h:0<=v*X/\v*X<=4294967295)(hv:v=a+65536*b)(hb:0<=b)(hX:0<=X):X*a<=4294967295:=by
 have h1:v*X=a*X+65536*(b*X):=by rw[hv,Int.add_mul,Int.mul_assoc]
 have h2:=Int.mul_nonneg hb hX
 rw[Int.mul_comm];omega
theorem mu_s{x y:Int}:bgS (decide (x<0) !=decide (y<0)) (aZ x*aZ y)=bgI (x*y):=by
 refine nk (Hf x y) fun h0=>?_
 have hx:x≠0:=fun e=>h0 (by rw[e,Int.zero_mul])
 have hy:y≠0:=fun e=>h0 (by rw[e,Int.mul_zero])
 by_cases gx:x<0<;>by_cases gy:y<0
 ·have:0<x*y:=Int.mul_pos_of_neg_of_neg gx gy
  simp[gx,gy];omega
 ·have:x*y<0:=Int.mul_neg_of_neg_of_pos gx (by omega)
  simp[gx,gy,this]
 ·have:x*y<0:=Int.mul_neg_of_pos_of_neg (by omega) gy
  simp[gx,gy,this]
 have:0<x*y:=Int.mul_pos (by omega) (by omega)
 simp[gx,gy];omega
theorem x6{x:Int}:sgZ x≥0↔0<=x:=by unfold sgZ;split<;>(try split)<;>omega
theorem Ap{x y:Int}(hx:B1 x)(hy:B1 y)(h:B1 (x+y)):PRet Tryz.prog 91 [.agg (bgA (bgI x)),.agg (bgA (bgI y))] (fun q=>q=.agg (bgA (bgI (x+y)))):=by
 have hax:=fy x
 have hay:=fy y
 have hlx:=jc hx
 have hly:=jc hy
 refine ovT [] [] Tryz.func91 rfl rfl (ArgG.mk (ro (x:=x) (by constructor<;>omega)) rfl ?_)
 rintro _ ⟨r0,h2,rfl⟩
 refine ArgG.mk (ro (x:=y) (by constructor<;>omega)) rfl ?_
 rintro _ ⟨r1,h3,rfl⟩
 refine⟨by kernel_rfl,cB (fun h0=>?_) (fun h0=>?_)⟩
 ·rw[bv,bv]at h0
  have hs:=ad_s h0
  have hls:=jc h
  refine ArgG.mk (T3 h2 h3 (by omega) (by omega)) rfl ?_
  rintro _ ⟨r2,h4,rfl⟩
  refine ArgG.mk (pu (ng:=((bgI x).b_)) h4 (by omega)) rfl ?_
  rintro _ rfl
  refine⟨by kernel_rfl,⟨.inr rfl,_,M1.cell rfl da rfl rfl rfl rfl rfl ⟨[],FzP.pure rfl⟩,?_⟩⟩
  rw[bv,hs.2]
 rw[bv,bv]at h0
 refine ArgG.mk (abu h2 h3 (by omega) (by omega)) rfl ?_
 rintro _ rfl
 refine cD (fun h1=>?_) (fun h1=>?_)
 ·rw[x6]at h1
  refine ArgG.mk (F8 h2 h3 (by omega) (by omega)) rfl ?_
  rintro _ ⟨r5,h5,rfl⟩
  refine ArgG.mk (pu (ng:=((bgI x).b_)) h5 (by omega)) rfl ?_
  rintro _ rfl
  refine⟨by kernel_rfl,⟨.inr rfl,_,M1.cell rfl da rfl rfl rfl rfl rfl ⟨[],FzP.pure rfl⟩,?_⟩⟩
  rw[bv,ad_g h0 (by omega)]
 rw[x6]at h1
 refine ArgG.mk (F8 h3 h2 (by omega) (by omega)) rfl ?_
 rintro _ ⟨r7,h6,rfl⟩
 refine ArgG.mk (pu (ng:=((bgI y).b_)) h6 (by omega)) rfl ?_
 rintro _ rfl
 refine⟨by kernel_rfl,⟨.inr rfl,_,M1.cell rfl da rfl rfl rfl rfl rfl ⟨[],FzP.pure rfl⟩,?_⟩⟩
 rw[bv,ad_l h0 (by omega)]
theorem Tm{x y:Int}(hx:B1 x)(hy:B1 y)(h:B1 (x-y)):PRet Tryz.prog 52 [.agg (bgA (bgI x)),.agg (bgA (bgI y))] (fun q=>q=.agg (bgA (bgI (x-y)))):=by
 refine ovT [] [] Tryz.func52 rfl rfl (ArgG.mk (D0 (x:=y) (by constructor<;>omega)) rfl ?_)
 rintro _ rfl
 refine ArgG.mk (Ap (x:=x) (y:=(-y)) (by constructor<;>omega) (by constructor<;>omega) (by constructor<;>omega)) rfl ?_
 rintro _ rfl
 refine⟨by kernel_rfl,⟨.inr rfl,_,M1.cell rfl da rfl rfl rfl rfl rfl ⟨[],FzP.pure rfl⟩,?_⟩⟩
 rw[show x+-y=x-y by omega]
theorem J4(n:Int)(h:B1 n):PRet Tryz.prog 54 [.v (.int .i64 n)] (fun q=>q=.agg (bgA (bgI n))):=by
 have h7:=jc h
 refine ovT [6,11,12,13,14,19,20,22,24] [8] Tryz.func54 rfl rfl (OpG.lk (Hi Tryz.underlying2 Tryz.underlying12 rfl) ?_)
 refine cD (fun h4=>?_) (fun h4=>?_)
 ·refine⟨by omega,OpG.lk (Q2 (r:=-(n+1)) rfl (by rw[IntKind.wrap_i64];omega)) ?_⟩
  refine OpG.lk (jz Tryz.underlying2 Tryz.underlying12 rfl (by omega) (by omega)) (OpG.lk (Q5 rfl rfl (by omega) (by omega)) ?_)
  refine OpG.nw (bm 1 Tryz.underlying27 sz3) rfl (LpG.on (fun k0:KDc=>(⟨fL [(0,.v (.int .i64 n)),(2,.ptr 0 0 0),(3,.v (.int .u64 k0.c)),(4,.sl 1 k0.k 0 k0.L.length)],hLz [(0,⟨0,[.v (.bool false),.v (.slice none 0 0)],0,false⟩),(1,⟨k0.k,rF iA k0.L,1,false⟩)],2⟩:St)) (fun k0=>(2-k0.k)) (fun k0=>(k0.k<=2/\OfI n k0)) (⟨0,[],aZ n⟩:KDc) (cO (.cons rfl rfl (.cons rfl rfl (.cons (by exact congrArg (fun z=>AV.v (.int .u64 z)) (by show _=aZ n;unfold aZ;first|(rw[ad3 h4];omega)|(rw[ad1 h4,IntKind.wrap_u64];omega))) rfl (.cons rfl rfl .nil)))) (.cons rfl rfl rfl (.cons rfl rfl (aa cw _ _) .nil))) ⟨ad7 _,Xw h⟩ ?_)
  rintro k0 h2
  obtain⟨h3,h0⟩:=h2
  obtain⟨h8,h9,ha,hb⟩:=h0.c
  have hc:=h0.l
  refine OpG.lk (lP rfl (fun _ _=>nofun) (fun _=>rfl)) (cD (fun h1=>?_) (fun h1=>?_))
  ·have h5:k0.k<2:=by omega
   refine OpG.lk (jf rfl rfl (by omega) (by decide)) (OpG.lk (cn (r:=k0.c%65536) Tryz.underlying12 Tryz.underlying3 rfl (by rw[IntKind.wrap_i64];omega)) ?_)
   refine OpG.mk _ _ _ 3 (ct cw (l:=k0.L) (a:=(k0.c%65536)) Tryz.underlying27 sz3 zr3 by3 rfl rfl rfl (Src.sl rfl rfl rfl rfl rfl) rfl (by omega) (by omega) (by unfold TV;omega)) rfl rfl (OpG.lk (fm (r:=k0.c/65536) rfl rfl (by omega) (by decide) (by rw[IntKind.wrap_u64];omega)) ?_)
   refine⟨(⟨k0.k+1,k0.L++[k0.c%65536],k0.c/65536⟩:KDc),(by show 2-(k0.k+1)<2-k0.k;omega),(cO (.cons rfl rfl (.cons rfl rfl (.cons (by rfl) rfl (.cons rfl rfl .nil)))) (.cons rfl rfl rfl (.cons rfl rfl (aa cw _ _) .nil))),⟨by show k0.k+1<=_;omega,?_⟩⟩
   exact Xu h0 h5 h1
  have h6:=Xv h0 h1
  refine RegG.via (fun _ h=>bl [1] 4 (.tree 1 (k0.L.map iA)) (fq cw (ady.2 rfl) rfl) rfl h) (aw ?_)
  refine ArgG.mk (pu (ng:=decide (n<0)) h6 h7) rfl ?_
  rintro _ rfl
  refine⟨.inr rfl,_,M1.cell rfl da rfl rfl rfl rfl rfl ⟨[],FzP.pure rfl⟩,?_⟩
  rfl
 refine OpG.nw (bm 1 Tryz.underlying27 sz3) rfl (LpG.on (fun k0:KDc=>(⟨fL [(0,.v (.int .i64 n)),(2,.ptr 0 0 0),(3,.v (.int .u64 k0.c)),(4,.sl 1 k0.k 0 k0.L.length)],hLz [(0,⟨0,[.v (.bool false),.v (.slice none 0 0)],0,false⟩),(1,⟨k0.k,rF iA k0.L,1,false⟩)],2⟩:St)) (fun k0=>(2-k0.k)) (fun k0=>(k0.k<=2/\OfI n k0)) (⟨0,[],aZ n⟩:KDc) (cO (.cons rfl rfl (.cons rfl rfl (.cons (by exact congrArg (fun z=>AV.v (.int .u64 z)) (by show _=aZ n;unfold aZ;first|(rw[ad3 h4];omega)|(rw[ad1 h4,IntKind.wrap_u64];omega))) rfl (.cons rfl rfl .nil)))) (.cons rfl rfl rfl (.cons rfl rfl (aa cw _ _) .nil))) ⟨ad7 _,Xw h⟩ ?_)
 rintro k0 h2
 obtain⟨h3,h0⟩:=h2
 obtain⟨h8,h9,ha,hb⟩:=h0.c
 have hc:=h0.l
 refine OpG.lk (lP rfl (fun _ _=>nofun) (fun _=>rfl)) (cD (fun h1=>?_) (fun h1=>?_))
 ·have h5:k0.k<2:=by omega
  refine OpG.lk (jf rfl rfl (by omega) (by decide)) (OpG.lk (cn (r:=k0.c%65536) Tryz.underlying12 Tryz.underlying3 rfl (by rw[IntKind.wrap_i64];omega)) ?_)
  refine OpG.mk _ _ _ 3 (ct cw (l:=k0.L) (a:=(k0.c%65536)) Tryz.underlying27 sz3 zr3 by3 rfl rfl rfl (Src.sl rfl rfl rfl rfl rfl) rfl (by omega) (by omega) (by unfold TV;omega)) rfl rfl (OpG.lk (fm (r:=k0.c/65536) rfl rfl (by omega) (by decide) (by rw[IntKind.wrap_u64];omega)) ?_)
  refine⟨(⟨k0.k+1,k0.L++[k0.c%65536],k0.c/65536⟩:KDc),(by show 2-(k0.k+1)<2-k0.k;omega),(cO (.cons rfl rfl (.cons rfl rfl (.cons (by rfl) rfl (.cons rfl rfl .nil)))) (.cons rfl rfl rfl (.cons rfl rfl (aa cw _ _) .nil))),⟨by show k0.k+1<=_;omega,?_⟩⟩
  exact Xu h0 h5 h1
 have h6:=Xv h0 h1
 refine RegG.via (fun _ h=>bl [1] 4 (.tree 1 (k0.L.map iA)) (fq cw (ady.2 rfl) rfl) rfl h) (aw ?_)
 refine ArgG.mk (pu (ng:=decide (n<0)) h6 h7) rfl ?_
 rintro _ rfl
 refine⟨.inr rfl,_,M1.cell rfl da rfl rfl rfl rfl rfl ⟨[],FzP.pure rfl⟩,?_⟩
 rfl
theorem Ui{x y:Int}(hx:B1 x)(hy:B1 y)(h:B1 (x*y)):PRet Tryz.prog 92 [.agg (bgA (bgI x)),.agg (bgA (bgI y))] (fun q=>q=.agg (bgA (bgI (x*y)))):=by
 have h3:=fy x
 have hay:=fy y
 have hlx:=jc hx
 have hly:=jc hy
 have h4:aZ y*aZ x<=4294967295:=by rw[Int.mul_comm,Hf];exact jc h
 refine ovT [13,23,27] [3] Tryz.func92 rfl rfl (ArgG.mk (ro (x:=x) (by constructor<;>omega)) rfl ?_)
 rintro _ ⟨r0,ha,rfl⟩
 refine ArgG.mk (ro (x:=y) (by constructor<;>omega)) rfl ?_
 rintro _ ⟨r1,h2,rfl⟩
 refine⟨by kernel_rfl,OpG.nw (cm (bm 3 Tryz.underlying27 sz3) (fun η' h=>bi (f:=iA) (l:=[]) (ady.2 rfl) h rfl rfl rfl rfl rfl (fun a _=>⟨rfl,rfl⟩))) rfl ?_⟩
 have hl1:=rt h2 (by omega)
 refine aw (LenG.of ?_)
 refine⟨by omega,LpG.on (fun k0:KDc=>(⟨fL [(2,.ptr 0 0 0),(3,.ptr 1 0 0),(4,.ptr 2 0 0),(5,.tree 1 (r0.map iA)),(6,.tree 1 (r1.map iA)),(7,.tree 1 (k0.L.map iA)),(8,.v (.int .i64 ((r1.length:Int)-1-((k0.k:Nat):Int))))],hLz [(0,⟨0,bgA (bgI x),0,false⟩),(1,⟨0,bgA (bgI y),0,false⟩),(2,⟨0,[.v (.bool false),.v (.slice none 0 0)],0,false⟩)],4⟩:St)) (fun k0=>(r1.length-k0.k)) (fun k0=>(k0.k<=r1.length/\(Cn k0.L k0.c/\k0.c=vl (r1.drop (r1.length-k0.k))*aZ x))) (⟨0,[],0⟩:KDc) (cO (.cons rfl rfl (.cons rfl rfl (.cons rfl rfl (.cons rfl rfl (.cons rfl rfl (.cons rfl rfl (.cons (congrArg (fun z=>AV.v (.int .i64 z)) (by(show(r1.length:Int)-1=(r1.length:Int)-1-((0:Nat):Int);omega))) rfl .nil))))))) (.cons rfl rfl rfl (.cons rfl rfl rfl (.cons rfl rfl rfl .nil)))) ⟨ad7 _,⟨⟨rfl,fun x hx=>by simp at hx,rfl⟩,by simp[vl]⟩⟩ ?_⟩
 rintro k0 h6
 obtain⟨hle_k0,h0⟩:=h6
 refine cD (fun h7=>?_) (fun h7=>?_)
 ·have h5:r1.length-1-k0.k<r1.length:=by omega
  have hb:=h2.d _ (adt h5)
  have h8:=Uj (k:=r1.length-k0.k) h2 h3 h4
  rw[<-h0.2]at h8
  have hLl:=rt h0.1 (by omega)
  have hc:=Uj (k:=r1.length-1-k0.k) h2 h3 h4
  have h9:=De h5
  have hrt:=aap hc h9 (A2 (fun z hz=>h2.d z (List.mem_of_mem_drop hz))) h3
  refine OpG.mk _ _ _ 5 (We (jg cw (l:=([0]:List Int)) (l':=k0.L) Tryz.underlying27 sz3 zr3 by3 rfl rfl rfl rfl (by simp only[aeg,aeh];omega) (by simp only[aeg,aeh];omega) (by unfold TV;omega)) (fun η' h=>fq cw (ady.2 rfl) h)) rfl rfl (OpG.lk (ci Tryz.underlying27 sz3 rfl rfl (show((r1.length:Int)-1-((k0.k:Nat):Int))=(((r1.length-1-k0.k):Nat):Int)by omega) h5) ?_)
  refine ArgG.mk (Ww ha (by omega) hb) rfl ?_
  rintro _ ⟨r2,hd,rfl⟩
  refine ArgG.mk (ab7 h0.1 hd (by omega) (by omega)) rfl ?_
  rintro _ ⟨r3,hr3,rfl⟩
  refine⟨by kernel_rfl,⟨by omega,?_⟩⟩
  refine⟨(⟨k0.k+1,r3,65536*k0.c+aZ x*(r1[r1.length-1-k0.k]'h5)⟩:KDc),(by show r1.length-(k0.k+1)<r1.length-k0.k;omega),(cO (.cons rfl rfl (.cons rfl rfl (.cons rfl rfl (.cons rfl rfl (.cons rfl rfl (.cons rfl rfl (.cons (congrArg (fun z=>AV.v (.int .i64 z)) (by(show _=(r1.length:Int)-1-(((k0.k+1:Nat)):Int);omega))) rfl .nil))))))) (.cons rfl rfl rfl (.cons rfl rfl rfl (.cons rfl rfl rfl .nil)))),⟨by show k0.k+1<=_;omega,?_⟩⟩
  exact⟨by assumption,by show 65536*k0.c+_=vl (r1.drop (r1.length-(k0.k+1)))*aZ x;rw[show r1.length-(k0.k+1)=r1.length-1-k0.k by omega,h9,show r1.length-1-k0.k+1=r1.length-k0.k by omega,Int.add_mul,Int.mul_assoc,<-h0.2,Int.mul_comm (r1[_])];omega⟩
 have h8:=Uj (k:=r1.length-k0.k) h2 h3 h4
 rw[<-h0.2]at h8
 have he:k0.k=r1.length:=by omega
 have hf:Cn k0.L (aZ x*aZ y):=by have h1:=h0.1;rw[h0.2,he,Nat.sub_self,List.drop_zero,h2.v,Int.mul_comm]at h1;exact h1
 have hcm:aZ x*aZ y<=4294967295:=by rw[Int.mul_comm];exact h4
 refine ArgG.mk (pu (ng:=((bgI x).b_ !=(bgI y).b_)) hf (by omega)) rfl ?_
 rintro _ rfl
 refine⟨.inr rfl,_,M1.cell rfl da rfl rfl rfl rfl rfl ⟨[],FzP.pure rfl⟩,?_⟩
 rw[show((bgI x).b_ !=(bgI y).b_)=(decide (x<0) !=decide (y<0))by rw[bv,bv],mu_s]
end Go.Proofs.YtbhhmbchdponjaaGreatDoor
