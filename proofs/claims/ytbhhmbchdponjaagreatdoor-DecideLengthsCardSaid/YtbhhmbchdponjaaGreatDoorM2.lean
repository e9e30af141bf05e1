/- Texts of the claim. -/
import Derived.Test.YtbhhmbchdponjaaGreatDoorM1
import Derived.Test.YtbhhmbchdponjaaGreatDoorQ2
namespace Go.Proofs.YtbhhmbchdponjaaGreatDoor
set_option maxRecDepth 1000000
set_option maxHeartbeats 0
set_option linter.unusedVariables false
set_option linter.unusedSimpArgs false
open Go.RowKit
def vl:List Int->Int
 |[]=>0
 |a::l=>a+65536*vl l
abbrev Dh(d:List Int):Prop:=∀x∈d,0<=x/\x<=65535
theorem A6:∀{d:List Int},Dh d->0<=vl d
 |[],_=>Int.le_refl _
 |a::l,h=>by
  have h1:=(h a (by simp)).1
  have h2:=A6 (d:=l) (fun x hx=>h x (by simp[hx]))
  show 0<=a+65536*vl l
  omega
theorem Rt:∀(d:List Int),vl (dtr d)=vl d
 |[]=>rfl
 |a::l=>by
  have h:=Rt l
  unfold dtr
  split
  ·next e=>
   rw[e]at h
   have h0:vl l=0:=h.symm
   split
   ·next e2=>subst e2;show 0=0+65536*vl l;omega
   ·show a+65536*0=a+65536*vl l;omega
  ·next b r e=>rw[e]at h;show a+65536*vl (b::r)=a+65536*vl l;rw[h]
theorem aal{d:List Int}(h:Dh d):Dh (dtr d):=fun x hx=>h x (L6 hx)
theorem Wq(d:List Int):dtr (dtr d)=dtr d:=by
 induction d with
 |nil=>rfl
 |cons a l ih=>
  by_cases e:dtr l=[]
  ·by_cases e2:a=0
   ·simp[dtr,e,e2]
   ·simp[dtr,e,e2]
  ·obtain⟨b,r,ha⟩:∃b r,dtr l=b::r:=by
    cases h:dtr l with
    |nil=>exact absurd h e
    |cons b r=>exact⟨b,r,rfl⟩
   have e3:dtr (a::l)=a::b::r:=by simp[dtr,ha]
   rw[e3]
   rw[ha]at ih
   rw[dtr,ih]
structure Cn(l:List Int)(n:Int):Prop where
 t:dtr l=l
 d:Dh l
 v:vl l=n
theorem Cq{l:List Int}{n:Int}(hd:Dh l)(hv:vl l=n):Cn (dtr l) n:=⟨Wq l,aal hd,by rw[Rt];exact hv⟩
theorem sc:∀(l:List Int) (z:Int),vl (l++[z])=vl l+65536^l.length*z
 |[],z=>by show z+65536*0=0+1*z;omega
 |a::l,z=>by
  have h:=sc l z
  show a+65536*vl (l++[z])=a+65536*vl l+65536^(l.length+1)*z
  rw[h,Int.pow_succ,Int.mul_add,Int.mul_comm (65536^l.length) 65536,Int.mul_assoc];omega
theorem nt(d:List Int)(k:Nat):vl (d.take (k+1))=vl (d.take k)+65536^k*d.getD k 0:=by
 by_cases h:k<d.length
 ·rw[ag4 h,sc,List.length_take_of_le (by omega)]
  simp[List.getD,h]
 rw[ahj (by omega),ahj (by omega),List.getD,List.getElem?_eq_none (by omega)];simp
theorem ky{d:List Int}(h:Dh d)(k:Nat):0<=d.getD k 0/\d.getD k 0<=65535:=by
 by_cases hk:k<d.length
 ·simp only[List.getD,agt hk,Option.getD_some];exact h _ (ags hk)
 rw[List.getD,List.getElem?_eq_none (by omega)];exact⟨by decide,by decide⟩
theorem Ee{L:List Int}{z:Int}(h:Dh L):Dh (L++[z%65536]):=fun x hx=>by
 rcases agy.1 hx with hx|hx
 ·exact h x hx
 rw[agx.1 hx];omega
theorem N1{d:List Int}{k:Nat}(h:¬k<d.length):d.getD k 0=0:=by rw[List.getD,List.getElem?_eq_none (by omega)];rfl
structure PlI(a b:List Int)(s:KDc):Prop where
 d:Dh s.L
 l:s.L.length=s.k
 v:vl s.L+65536^s.k*s.c=vl (a.take s.k)+vl (b.take s.k)
 c:0<=s.c/\s.c<=1
 e:s.k=max a.length b.length+1->s.c=0
theorem adu(a b:List Int):PlI a b ⟨0,[],0⟩:=⟨fun x hx=>by simp at hx,rfl,by simp[vl],⟨by decide,by decide⟩,fun _=>rfl⟩
theorem Pe{a b:List Int}{s:KDc}(ha:Dh a)(hb:Dh b)(h:PlI a b s){z:Int}(hz:z=s.c+a.getD s.k 0+b.getD s.k 0)(hk:s.k<=max a.length b.length):PlI a b ⟨s.k+1,s.L++[z%65536],z/65536⟩:=by
 have h1:=ky ha s.k
 have h2:=ky hb s.k
 have h3:=h.c
 refine⟨Ee h.d,by simp[h.l],?_,⟨by show 0<=z/65536;omega,by show z/65536<=1;omega⟩,fun e=>?_⟩
 ·show vl (s.L++[z%65536])+65536^(s.k+1)*(z/65536)=_
  rw[sc,h.l,nt,nt,Int.pow_succ,Int.mul_assoc]
  have hv:=h.v
  have e1:(65536:Int)^s.k*(z%65536)+65536^s.k*(65536*(z/65536))=65536^s.k*s.c+65536^s.k*a.getD s.k 0+65536^s.k*b.getD s.k 0:=by
   rw[<-Int.mul_add,<-Int.mul_add,<-Int.mul_add,<-hz]
   congr 1;omega
  omega
 have hk':s.k=max a.length b.length:=by
  have:s.k+1=max a.length b.length+1:=e
  omega
 have g1:=N1 (d:=a) (k:=s.k) (by omega)
 have g2:=N1 (d:=b) (k:=s.k) (by omega)
 show z/65536=0
 omega
theorem adt{a b:List Int}{s:KDc}(h:PlI a b s)(h1:¬s.k<a.length)(h2:¬s.k<b.length)(h3:s.c=0):vl s.L=vl a+vl b:=by
 have hv:=h.v
 rw[h3,ahj (by omega),ahj (by omega)]at hv
 simpa using hv
theorem L7{L:List Int}(hl:0<L.length)(h:¬L[L.length-1]=0):dtr L=L:=by
 rw[L5 (n:=L.length) (ag7 _) (fun j h1 h2=>absurd h1 (by omega)) (fun m hm e=>by
  have:m=L.length-1:=by omega
  subst this;exact h),List.take_length]
theorem Ck:∀(l:List Int),dtr (l++[0])=dtr l
 |[]=>rfl
 |a::l=>by
  show dtr (a::(l++[0]))=_
  unfold dtr;rw[Ck l]
theorem L8{L:List Int}(hl:0<L.length)(h:L[L.length-1]=0):dtr (L.take (L.length-1))=dtr L:=by
 have e:L=L.take (L.length-1)++[L[L.length-1]]:=by
  rw[<-ag4 (by omega),show L.length-1+1=L.length by omega,List.take_length]
 rw[h]at e
 rw[<-Ck,<-e]
theorem Je:∀{d:List Int},Dh d->vl d<65536^d.length
 |[],_=>by show(0:Int)<1;decide
 |a::l,h=>by
  have h1:=(h a (by simp)).2
  have h2:=Je (d:=l) (fun x hx=>h x (by simp[hx]))
  show a+65536*vl l<65536^(l.length+1)
  rw[Int.pow_succ];omega
theorem wo{d:List Int}(h:Dh d)(k:Nat):Dh (d.take k):=fun x hx=>h x (List.mem_of_mem_take hx)
theorem F7(k:Nat):(0:Int)<65536^k:=Int.pow_pos (by decide)
theorem Kb{a b:Nat}(h:a<=b):(65536:Int)^a<=65536^b:=by
 induction h with
 |refl=>exact Int.le_refl _
 |step _ ih=>rw[Int.pow_succ];have:=F7 a;omega
theorem Tr{a b:List Int}(ha:Dh a)(hb:Dh b):∀k,cmA a b k=sgZ (vl (a.take k)-vl (b.take k))
 |0=>by simp[cmA,vl,sgZ]
 |k+1=>by
  have ih:=Tr ha hb k
  have h1:=ky ha k
  have h2:=ky hb k
  have p:=F7 k
  have a1:=A6 (wo ha k)
  have b1:=A6 (wo hb k)
  have a2:=Je (wo ha k)
  have b2:=Je (wo hb k)
  have a3:(65536:Int)^(a.take k).length<=65536^k:=Kb (by simp;omega)
  have b3:(65536:Int)^(b.take k).length<=65536^k:=Kb (by simp;omega)
  rw[nt,nt]
  unfold cmA
  by_cases g1:a.getD k 0<b.getD k 0
  ·rw[ag1 g1]
   have:(65536:Int)^k*(a.getD k 0+1)<=65536^k*b.getD k 0:=Int.mul_le_mul_of_nonneg_left (by omega) (by omega)
   rw[Int.mul_add,Int.mul_one]at this
   unfold sgZ;rw[ag0 (by omega),ag1 (by omega)]
  ·rw[ag0 g1]
   by_cases g2:a.getD k 0>b.getD k 0
   ·rw[ag1 g2]
    have:(65536:Int)^k*(b.getD k 0+1)<=65536^k*a.getD k 0:=Int.mul_le_mul_of_nonneg_left (by omega) (by omega)
    rw[Int.mul_add,Int.mul_one]at this
    unfold sgZ;rw[ag0 (by omega),ag0 (by omega)]
   ·rw[ag0 g2,ih,show a.getD k 0=b.getD k 0 by omega];congr 1;omega
theorem Qs{d:List Int}{n:Int}(h:Cn d n)(h0:0<d.length):65536^(d.length-1)<=n:=by
 have hl:d[d.length-1]≠0:=fun e=>by
  have e1:=L8 h0 e
  rw[h.t]at e1
  have e2:=Ec (d.take (d.length-1))
  rw[e1,List.length_take]at e2;omega
 have hd:=h.d _ (ags (show d.length-1<d.length by omega))
 have hv:=nt d (d.length-1)
 rw[show d.length-1+1=d.length by omega,List.take_length,h.v,Aa (show d.length-1<d.length by omega)]at hv
 have h2:=A6 (wo h.d (d.length-1))
 have:(65536:Int)^(d.length-1)*1<=65536^(d.length-1)*d[d.length-1]:=Int.mul_le_mul_of_nonneg_left (by omega) (Int.le_of_lt (F7 _))
 omega
theorem Md{a b:List Int}{m n:Int}(ha:Cn a m)(hb:Cn b n)(h:a.length<b.length):m<n:=by
 have h1:=Qs hb (by omega)
 have h2:=Je ha.d
 rw[ha.v]at h2
 have h3:(65536:Int)^a.length<=65536^(b.length-1):=Kb (by omega)
 omega
theorem Ki{a b:List Int}{m n:Int}(ha:Cn a m)(hb:Cn b n)(h:a.length=b.length):cmA a b a.length=sgZ (m-n):=by
 rw[Tr ha.d hb.d,List.take_length,h,List.take_length,ha.v,hb.v]
theorem aau{l:List Int}{n:Int}(h:Cn l n):0<=n:=by rw[<-h.v];exact A6 h.d
structure MiI(a b:List Int)(s:KDc):Prop where
 d:Dh s.L
 l:s.L.length=s.k
 v:vl s.L+vl (b.take s.k)=vl (a.take s.k)+65536^s.k*s.c
 c:0<=s.c/\s.c<=1
theorem aeh(a b:List Int):MiI a b ⟨0,[],0⟩:=⟨fun x hx=>by simp at hx,rfl,by simp[vl],⟨by decide,by decide⟩⟩
theorem Px{a b:List Int}{s:KDc}(ha:Dh a)(hb:Dh b)(h:MiI a b s){z c:Int}(hz:z-65536*c=a.getD s.k 0-s.c-b.getD s.k 0)(hc:0<=c/\c<=1)(hd:0<=z/\z<=65535):MiI a b ⟨s.k+1,s.L++[z],c⟩:=by
 refine⟨fun x hx=>?_,by simp[h.l],?_,hc⟩
 ·rcases agy.1 hx with hx|hx
  ·exact h.d x hx
  rw[agx.1 hx];exact hd
 show vl (s.L++[z])+_=_+65536^(s.k+1)*c
 rw[sc,h.l,nt,nt,Int.pow_succ,Int.mul_assoc]
 have hv:=h.v
 have e1:(65536:Int)^s.k*z+65536^s.k*b.getD s.k 0+65536^s.k*s.c=65536^s.k*a.getD s.k 0+65536^s.k*(65536*c):=by
  rw[<-Int.mul_add,<-Int.mul_add,<-Int.mul_add]
  congr 1;omega
 omega
theorem aeg{a b:List Int}{s:KDc}{m n:Int}(ha:Cn a m)(hb:Cn b n)(hmn:n<=m)(h:MiI a b s)(hk:s.k=a.length):vl s.L=m-n:=by
 have hl:b.length<=a.length:=by
  rcases Nat.lt_or_ge a.length b.length with g|g
  ·have:=Md ha hb g;omega
  ·exact g
 have hv:=h.v
 rw[hk,List.take_length,ahj hl,ha.v,hb.v]at hv
 have h2:=Je h.d
 rw[h.l,hk]at h2
 have h3:=h.c
 have h4:s.c=0:=by
  by_cases e:s.c=0
  ·exact e
  ·have e1:s.c=1:=by omega
   rw[e1]at hv;omega
 rw[h4]at hv;omega
structure TiI(a:List Int)(y:Int)(s:KDc):Prop where
 d:Dh s.L
 l:s.L.length=s.k
 v:vl s.L+65536^s.k*s.c=vl (a.take s.k)*y
 c:0<=s.c/\s.c<=65535
 e:s.k=a.length+1->s.c=0
theorem acw(a:List Int)(y:Int):TiI a y ⟨0,[],0⟩:=⟨fun x hx=>by simp at hx,rfl,by simp[vl],⟨by decide,by decide⟩,fun _=>rfl⟩
theorem Oq{x y:Int}(hx:0<=x/\x<=65535)(hy:0<=y/\y<=65535):0<=x*y/\x*y<=4294836225:=
 ⟨Int.mul_nonneg hx.1 hy.1,Int.le_trans (Int.mul_le_mul hx.2 hy.2 hy.1 (by decide)) (by decide)⟩
theorem Ya{a:List Int}{y:Int}{s:KDc}(ha:Dh a)(hy:0<=y/\y<=65535)(h:TiI a y s){z:Int}(hz:z=s.c+a.getD s.k 0*y)(hk:s.k<=a.length):TiI a y ⟨s.k+1,s.L++[z%65536],z/65536⟩:=by
 have h1:=Oq (ky ha s.k) hy
 have h3:=h.c
 refine⟨Ee h.d,by simp[h.l],?_,⟨by show 0<=z/65536;omega,by show z/65536<=65535;omega⟩,fun e=>?_⟩
 ·show vl (s.L++[z%65536])+65536^(s.k+1)*(z/65536)=_
  rw[sc,h.l,nt,Int.pow_succ,Int.mul_assoc,Int.add_mul,Int.mul_assoc]
  have hv:=h.v
  have e1:(65536:Int)^s.k*(z%65536)+65536^s.k*(65536*(z/65536))=65536^s.k*s.c+65536^s.k*(a.getD s.k 0*y):=by
   rw[<-Int.mul_add,<-Int.mul_add,<-hz]
   congr 1;omega
  omega
 have g1:=N1 (d:=a) (k:=s.k) (by have:s.k+1=a.length+1:=e;omega)
 rw[g1,Int.zero_mul]at hz
 show z/65536=0
 omega
theorem acv{a:List Int}{y:Int}{s:KDc}(h:TiI a y s)(h1:¬s.k<a.length)(h3:s.c=0):vl s.L=vl a*y:=by
 have hv:=h.v
 rw[h3,ahj (by omega)]at hv
 simpa using hv
theorem by3:(Tryz.prog.info? 3).map (·.bytes)=some 8:=by kernel_rfl
theorem zr3:bj Tryz.prog 3=some (.int .i64 0):=by kernel_rfl
theorem ny(d:List Int)(hd:ip d (fun y=>True))(hs:d.length<=1000):PRet Tryz.prog 128 [.tree 1 (d.map iA)] (fun q=>q=.tree 1 ((dtr d).map iA)):=by
 refine ovT [11,19] [] Tryz.func128 rfl rfl (LpG.on (fun k0:KL Int=>(⟨fL [(0,.tree 1 (k0.L.map iA))],hLz [],0⟩:St)) (fun k0=>(d.length-k0.k)) (fun k0=>(k0.k<=d.length/\(dtr k0.L=dtr d/\k0.L.length+k0.k=d.length))) (⟨0,d⟩:KL Int) (cO (.cons rfl rfl .nil) .nil) ⟨ag5 _,⟨rfl,rfl⟩⟩ ?_)
 rintro k0 hc
 have hgr_k0:d.length<=140737488355328:=hd.1
 obtain⟨hle_k0,ha⟩:=hc
 refine LenG.of (cD (fun he=>?_) (fun he=>?_))
 ·have hf:=ha.2
  refine LenG.of ⟨by omega,OpG.lk (cp Tryz.underlying27 sz3 rfl rfl (show((k0.L.length:Nat):Int)-1=((k0.L.length-1:Nat):Int)by omega) (by omega)) ?_⟩
  refine cE (fun hb=>?_) (fun hb=>?_)
  ·refine LenG.of ⟨by omega,OpG.lk (Au (b:=k0.L.length-1) (l:=k0.L) (f:=iA) Tryz.underlying27 sz3 rfl rfl (show((k0.L.length:Nat):Int)-1=((k0.L.length-1:Nat):Int)by omega) (by omega)) ?_⟩
   refine⟨(⟨k0.k+1,k0.L.take (k0.L.length-1)⟩:KL Int),(by show d.length-(k0.k+1)<d.length-k0.k;omega),(cO (.cons rfl rfl .nil) .nil),⟨by show k0.k+1<=_;omega,?_⟩⟩
   exact⟨(L8 (by omega) hb).trans ha.1,by show(k0.L.take _).length+(k0.k+1)=_;rw[List.length_take];have:=ha.2;omega⟩
  refine rV rfl rfl ?_
  rw[<-ha.1,L7 (by omega) hb];rfl
 have hf:=ha.2
 refine cF (rV rfl rfl ?_)
 rw[<-ha.1,ahk (l:=k0.L) (by omega)];rfl
theorem Kd(a:List Int)(ha:ip a (fun y=>True))(b:List Int)(hb:ip b (fun y=>True))(hg:Dh a)(hf:Dh b)(hsa:a.length<=400)(hsb:b.length<=400):PRet Tryz.prog 123 [.tree 1 (a.map iA),.tree 1 (b.map iA)] (fun q=>∃r,Cn r (vl a+vl b)/\q=.tree 1 (r.map iA)):=by
 refine ovT [8,47,49,51] [7,9,10,12] Tryz.func123 rfl rfl (OpG.nw (bo 0 Tryz.underlying27 sz3) rfl ?_)
 refine LpG.on (fun k0:KDc=>(⟨fL [(0,.tree 1 (a.map iA)),(1,.tree 1 (b.map iA)),(5,.sl 0 k0.k 0 k0.L.length),(6,.v (.int .i64 k0.c)),(7,.v (.int .i64 ((k0.k:Nat):Int)))],hLz [(0,⟨k0.k,rF iA k0.L,1,false⟩)],1⟩:St)) (fun k0=>((max a.length b.length+1)-k0.k)) (fun k0=>(k0.k<=(max a.length b.length+1)/\PlI a b k0)) (⟨0,[],0⟩:KDc) (cO (.cons rfl rfl (.cons rfl rfl (.cons rfl rfl (.cons rfl rfl (.cons rfl rfl .nil))))) (.cons rfl rfl (aa cz _ _) .nil)) ⟨ag5 _,adu a b⟩ ?_
 rintro k0 ho
 obtain⟨hle_k0,hc⟩:=ho
 have hcc:=hc.c
 have hll:=hc.l
 refine LenG.of (cB (fun hd=>?_) (fun hd=>?_))
 ·have hh:k0.k<a.length:=Int.ofNat_lt.1 (ag3 hd)
  refine cT (cT ?_)
  refine LenG.of (cB (fun _=>?_) (fun hz=>absurd (hz.symm.trans hd) ahp))
  have h7:=(fun(h:k0.k<a.length)=>hg _ (ags h)) ‹_›
  refine aw (IdxG.of ‹_› ?_)
  refine⟨by omega,LenG.of ?_⟩
  refine cL (fun hk=>?_) (fun hl=>?_)
  ·have h9:=(fun(h:k0.k<b.length)=>hf _ (ags h)) ‹_›
   refine aw (IdxG.of ‹_› ?_)
   refine⟨by omega,?_⟩
   have ea:a.getD k0.k 0=a[k0.k]:=by exact Aa hh
   have eb:b.getD k0.k 0=b[k0.k]:=by exact Aa hk
   have hp:=ky hg k0.k
   have hq:=ky hf k0.k
   have hz:((k0.c+a[k0.k])+b[k0.k])=k0.c+a.getD k0.k 0+b.getD k0.k 0:=by rw[ea,eb]
   have hj:k0.k<=max a.length b.length:=by have:=hc.e;omega
   refine aw (OpG.lk (fm rfl rfl (by omega) (by decide)) ?_)
   refine OpG.mk _ _ _ 2 (c0 cz (l:=k0.L) (a:=(((k0.c+a[k0.k])+b[k0.k])%65536)) Tryz.underlying27 sz3 zr3 by3 rfl rfl rfl (Src.sl rfl rfl rfl rfl rfl) rfl (by omega) (by omega) (by unfold TV;omega)) rfl rfl (OpG.lk (fo (r:=((k0.c+a[k0.k])+b[k0.k])/65536) rfl rfl (by omega) (by decide) (by rw[IntKind.wrap_i64];omega)) ?_)
   refine⟨by omega,⟨(⟨k0.k+1,k0.L++[(((k0.c+a[k0.k])+b[k0.k])%65536)],(((k0.c+a[k0.k])+b[k0.k])/65536)⟩:KDc),(by show(max a.length b.length+1)-(k0.k+1)<(max a.length b.length+1)-k0.k;omega),(cO (.cons rfl rfl (.cons rfl rfl (.cons rfl rfl (.cons rfl rfl (.cons rfl rfl .nil))))) (.cons rfl rfl (aa cz _ _) .nil)),?_⟩⟩
   exact⟨by show k0.k+1<=_;omega,Pe hg hf hc hz hj⟩
  have ea:a.getD k0.k 0=a[k0.k]:=by exact Aa hh
  have eb:b.getD k0.k 0=0:=by exact N1 hl
  have hp:=ky hg k0.k
  have hq:=ky hf k0.k
  have hz:(k0.c+a[k0.k])=k0.c+a.getD k0.k 0+b.getD k0.k 0:=by rw[ea,eb]<;>omega
  have hj:k0.k<=max a.length b.length:=by have:=hc.e;omega
  refine aw (OpG.lk (fm rfl rfl (by omega) (by decide)) ?_)
  refine OpG.mk _ _ _ 2 (c0 cz (l:=k0.L) (a:=((k0.c+a[k0.k])%65536)) Tryz.underlying27 sz3 zr3 by3 rfl rfl rfl (Src.sl rfl rfl rfl rfl rfl) rfl (by omega) (by omega) (by unfold TV;omega)) rfl rfl (OpG.lk (fo (r:=(k0.c+a[k0.k])/65536) rfl rfl (by omega) (by decide) (by rw[IntKind.wrap_i64];omega)) ?_)
  refine⟨by omega,⟨(⟨k0.k+1,k0.L++[((k0.c+a[k0.k])%65536)],((k0.c+a[k0.k])/65536)⟩:KDc),(by show(max a.length b.length+1)-(k0.k+1)<(max a.length b.length+1)-k0.k;omega),(cO (.cons rfl rfl (.cons rfl rfl (.cons rfl rfl (.cons rfl rfl (.cons rfl rfl .nil))))) (.cons rfl rfl (aa cz _ _) .nil)),?_⟩⟩
  exact⟨by show k0.k+1<=_;omega,Pe hg hf hc hz hj⟩
 have hi:¬k0.k<a.length:=fun h=>ag2 hd (Int.ofNat_lt.2 h)
 refine LenG.of (cB (fun he=>?_) (fun he=>?_))
 ·have hm:k0.k<b.length:=Int.ofNat_lt.1 (ag3 he)
  refine cT (LenG.of ?_)
  refine cB (fun hz=>absurd (hz.symm.trans hd) Bool.noConfusion) (fun _=>?_)
  refine LenG.of (cB (fun _=>?_) (fun hz=>absurd (hz.symm.trans he) ahp))
  have h9:=(fun(h:k0.k<b.length)=>hf _ (ags h)) ‹_›
  refine aw (IdxG.of ‹_› ?_)
  refine⟨by omega,?_⟩
  have ea:a.getD k0.k 0=0:=by exact N1 hi
  have eb:b.getD k0.k 0=b[k0.k]:=by exact Aa hm
  have hp:=ky hg k0.k
  have hq:=ky hf k0.k
  have hz:(k0.c+b[k0.k])=k0.c+a.getD k0.k 0+b.getD k0.k 0:=by rw[ea,eb]<;>omega
  have hj:k0.k<=max a.length b.length:=by have:=hc.e;omega
  refine aw (OpG.lk (fm rfl rfl (by omega) (by decide)) ?_)
  refine OpG.mk _ _ _ 2 (c0 cz (l:=k0.L) (a:=((k0.c+b[k0.k])%65536)) Tryz.underlying27 sz3 zr3 by3 rfl rfl rfl (Src.sl rfl rfl rfl rfl rfl) rfl (by omega) (by omega) (by unfold TV;omega)) rfl rfl (OpG.lk (fo (r:=(k0.c+b[k0.k])/65536) rfl rfl (by omega) (by decide) (by rw[IntKind.wrap_i64];omega)) ?_)
  refine⟨by omega,⟨(⟨k0.k+1,k0.L++[((k0.c+b[k0.k])%65536)],((k0.c+b[k0.k])/65536)⟩:KDc),(by show(max a.length b.length+1)-(k0.k+1)<(max a.length b.length+1)-k0.k;omega),(cO (.cons rfl rfl (.cons rfl rfl (.cons rfl rfl (.cons rfl rfl (.cons rfl rfl .nil))))) (.cons rfl rfl (aa cz _ _) .nil)),?_⟩⟩
  exact⟨by show k0.k+1<=_;omega,Pe hg hf hc hz hj⟩
 have hn:¬k0.k<b.length:=fun h=>ag2 he (Int.ofNat_lt.2 h)
 refine cD (fun hr=>?_) (fun hr=>?_)
 ·refine LenG.of (cB (fun hz=>absurd (hz.symm.trans hd) Bool.noConfusion) (fun _=>?_))
  refine LenG.of (cB (fun hz=>absurd (hz.symm.trans he) Bool.noConfusion) (fun _=>?_))
  have ea:a.getD k0.k 0=0:=by exact N1 hi
  have eb:b.getD k0.k 0=0:=by exact N1 hn
  have hp:=ky hg k0.k
  have hq:=ky hf k0.k
  have hz:k0.c=k0.c+a.getD k0.k 0+b.getD k0.k 0:=by rw[ea,eb]<;>omega
  have hj:k0.k<=max a.length b.length:=by have:=hc.e;omega
  refine aw (OpG.lk (fm rfl rfl (by omega) (by decide)) ?_)
  refine OpG.mk _ _ _ 2 (c0 cz (l:=k0.L) (a:=(k0.c%65536)) Tryz.underlying27 sz3 zr3 by3 rfl rfl rfl (Src.sl rfl rfl rfl rfl rfl) rfl (by omega) (by omega) (by unfold TV;omega)) rfl rfl (OpG.lk (fo (r:=k0.c/65536) rfl rfl (by omega) (by decide) (by rw[IntKind.wrap_i64];omega)) ?_)
  refine⟨by omega,⟨(⟨k0.k+1,k0.L++[(k0.c%65536)],(k0.c/65536)⟩:KDc),(by show(max a.length b.length+1)-(k0.k+1)<(max a.length b.length+1)-k0.k;omega),(cO (.cons rfl rfl (.cons rfl rfl (.cons rfl rfl (.cons rfl rfl (.cons rfl rfl .nil))))) (.cons rfl rfl (aa cz _ _) .nil)),?_⟩⟩
  exact⟨by show k0.k+1<=_;omega,Pe hg hf hc hz hj⟩
 refine RegG.via (fun _ h=>bm [0] 5 (.tree 1 (k0.L.map iA)) (fx cz (agx.2 rfl) rfl) rfl h) (aw ?_)
 refine ArgG.mk (ny k0.L (dw (by omega)) (by omega)) rfl ?_
 rintro _ rfl
 exact rV rfl rfl ⟨_,Cq hc.d (adt hc ‹_› ‹_› (by have:=hc.c;omega)),rfl⟩
theorem ady(a:List Int)(ha:ip a (fun y=>True))(b:List Int)(hb:ip b (fun y=>True)){m n:Int}(hg:Cn a m)(hh:Cn b n)(hsa:a.length<=400)(hsb:b.length<=400):PRet Tryz.prog 124 [.tree 1 (a.map iA),.tree 1 (b.map iA)] (fun q=>q=.v (.int .i64 (sgZ (m-n)))):=by
 refine ovT [25,29,34,38] [] Tryz.func124 rfl rfl ?_
 refine LenG.of (LenG.of ?_)
 refine cN (fun he=>?_) (fun he=>?_)
 ·have hne:¬a.length=b.length:=by have:=he;omega
  refine LenG.of (LenG.of ?_)
  refine cL (fun hi=>?_) (fun hge15=>?_)
  ·refine rV rfl rfl ?_
   have h:=Md hg hh hi
   unfold sgZ;rw[ag0 (by omega),ag1 (by omega)];rfl
  refine rV rfl rfl ?_
  have h:=Md hh hg (by omega)
  unfold sgZ;rw[ag0 (by omega),ag0 (by omega)];rfl
 have hj:a.length=b.length:=by have:=he;omega
 refine LenG.of ⟨by omega,LpG.on (fun k0:KN=>(⟨fL [(0,.tree 1 (a.map iA)),(1,.tree 1 (b.map iA)),(5,.v (.int .i64 ((a.length:Int)-1-((k0.k:Nat):Int))))],hLz [],0⟩:St)) (fun k0=>(a.length-k0.k)) (fun k0=>(k0.k<=a.length/\(cmA a b a.length=cmA a b (a.length-k0.k)))) (⟨0⟩:KN) (cO (.cons rfl rfl (.cons rfl rfl (.cons (congrArg (fun z=>AV.v (.int .i64 z)) (by(show(a.length:Int)-1=(a.length:Int)-1-((0:Nat):Int);omega))) rfl .nil))) .nil) ⟨ag5 _,rfl⟩ ?_⟩
 rintro k0 hk
 have hgr_k0:a.length<=140737488355328:=ha.1
 obtain⟨hle_k0,hc⟩:=hk
 refine cD (fun hl=>?_) (fun hl=>?_)
 ·refine OpG.lk (cp Tryz.underlying27 sz3 rfl rfl (show((a.length:Int)-1-((k0.k:Nat):Int))=(((a.length-1-k0.k):Nat):Int)by omega) (by omega)) ?_
  refine OpG.lk (cp Tryz.underlying27 sz3 rfl rfl (show((a.length:Int)-1-((k0.k:Nat):Int))=(((a.length-1-k0.k):Nat):Int)by omega) (by omega)) ?_
  refine⟨by kernel_rfl,?_⟩
  refine cD (fun hd=>?_) (fun hd=>?_)
  ·refine rV rfl rfl ?_
   have e:a.length-k0.k=a.length-1-k0.k+1:=by omega
   rw[<-Ki hg hh hj,hc,e,Ts (by omega) (by omega) hd];rfl
  refine OpG.lk (cp Tryz.underlying27 sz3 rfl rfl (show((a.length:Int)-1-((k0.k:Nat):Int))=(((a.length-1-k0.k):Nat):Int)by omega) (by omega)) ?_
  refine OpG.lk (cp Tryz.underlying27 sz3 rfl rfl (show((a.length:Int)-1-((k0.k:Nat):Int))=(((a.length-1-k0.k):Nat):Int)by omega) (by omega)) ?_
  refine⟨by kernel_rfl,?_⟩
  refine cD (fun hf=>?_) (fun hf=>?_)
  ·refine rV rfl rfl ?_
   have e:a.length-k0.k=a.length-1-k0.k+1:=by omega
   rw[<-Ki hg hh hj,hc,e,Tt (by omega) (by omega) hd hf];rfl
  refine⟨by omega,?_⟩
  refine⟨(⟨k0.k+1⟩:KN),(by show a.length-(k0.k+1)<a.length-k0.k;omega),(cO (.cons rfl rfl (.cons rfl rfl (.cons (congrArg (fun z=>AV.v (.int .i64 z)) (by(show _=(a.length:Int)-1-(((k0.k+1:Nat)):Int);omega))) rfl .nil))) .nil),?_⟩
  refine⟨by show k0.k+1<=_;omega,?_⟩
  have e:a.length-k0.k=a.length-1-k0.k+1:=by omega
  show cmA a b a.length=cmA a b (a.length-(k0.k+1))
  rw[hc,e,Tu (by omega) (by omega) hd hf,show a.length-1-k0.k=a.length-(k0.k+1)by omega]
 refine rV rfl rfl ?_
 have e:a.length-k0.k=0:=by omega
 rw[<-Ki hg hh hj,hc,e];rfl
theorem Pw(a:List Int)(ha:ip a (fun y=>True))(b:List Int)(hb:ip b (fun y=>True)){m n:Int}(hn:Cn a m)(ho:Cn b n)(hsa:a.length<=400)(hsb:b.length<=400)(hp:n<=m):PRet Tryz.prog 125 [.tree 1 (a.map iA),.tree 1 (b.map iA)] (fun q=>∃r,Cn r (m-n)/\q=.tree 1 (r.map iA)):=by
 have hf:=hn.d
 have hg:=ho.d
 refine ovT [9,39] [13,14] Tryz.func125 rfl rfl (OpG.nw (bo 0 Tryz.underlying27 sz3) rfl ?_)
 refine LpG.on (fun k0:KDc=>(⟨fL [(0,.tree 1 (a.map iA)),(1,.tree 1 (b.map iA)),(5,.sl 0 k0.k 0 k0.L.length),(6,.v (.int .i64 k0.c)),(7,.v (.int .i64 ((k0.k:Nat):Int)))],hLz [(0,⟨k0.k,rF iA k0.L,1,false⟩)],1⟩:St)) (fun k0=>(a.length-k0.k)) (fun k0=>(k0.k<=a.length/\MiI a b k0)) (⟨0,[],0⟩:KDc) (cO (.cons rfl rfl (.cons rfl rfl (.cons rfl rfl (.cons rfl rfl (.cons rfl rfl .nil))))) (.cons rfl rfl (aa cz _ _) .nil)) ⟨ag5 _,aeh a b⟩ ?_
 rintro k0 hm
 have hgr_k0:a.length<=140737488355328:=ha.1
 obtain⟨hle_k0,hc⟩:=hm
 have hcc:=hc.c
 have hll:=hc.l
 refine LenG.of (cL (fun hd=>?_) (fun hge13=>?_))
 ·have h13:=hf _ (ags hd)
  refine IdxG.of ‹_› ⟨by omega,LenG.of ?_⟩
  refine cL (fun he=>?_) (fun hh=>?_)
  have h25:=hg _ (ags he)
  refine IdxG.of ‹_› ⟨by omega,cD (fun hi=>?_) (fun hi=>?_)⟩
  ·refine⟨by omega,?_⟩
   have ea:a.getD k0.k 0=a[k0.k]:=Aa hd
   have eb:b.getD k0.k 0=b[k0.k]:=Aa he
   have hj:=ky hf k0.k
   have hk:=ky hg k0.k
   have hz:((a[k0.k]-k0.c-b[k0.k])+65536)-65536*1=a.getD k0.k 0-k0.c-b.getD k0.k 0:=by rw[ea,eb];omega
   have hl:0<=((a[k0.k]-k0.c-b[k0.k])+65536)/\((a[k0.k]-k0.c-b[k0.k])+65536)<=65535:=by rw[ea]at hj;rw[eb]at hk;omega
   refine aw (OpG.mk _ _ _ 2 (c0 cz (l:=k0.L) (a:=((a[k0.k]-k0.c-b[k0.k])+65536)) Tryz.underlying27 sz3 zr3 by3 rfl rfl rfl (Src.sl rfl rfl rfl rfl rfl) rfl (by omega) (by omega) (by unfold TV;omega)) rfl rfl ?_)
   refine⟨by omega,⟨(⟨k0.k+1,k0.L++[((a[k0.k]-k0.c-b[k0.k])+65536)],1⟩:KDc),(by show a.length-(k0.k+1)<a.length-k0.k;omega),(cO (.cons rfl rfl (.cons rfl rfl (.cons rfl rfl (.cons rfl rfl (.cons rfl rfl .nil))))) (.cons rfl rfl (aa cz _ _) .nil)),?_⟩⟩
   exact⟨by show k0.k+1<=_;omega,Px hf hg hc hz ⟨by decide,by decide⟩ hl⟩
  ·have ea:a.getD k0.k 0=a[k0.k]:=Aa hd
   have eb:b.getD k0.k 0=b[k0.k]:=Aa he
   have hj:=ky hf k0.k
   have hk:=ky hg k0.k
   have hz:(a[k0.k]-k0.c-b[k0.k])-65536*0=a.getD k0.k 0-k0.c-b.getD k0.k 0:=by rw[ea,eb];omega
   have hl:0<=(a[k0.k]-k0.c-b[k0.k])/\(a[k0.k]-k0.c-b[k0.k])<=65535:=by rw[ea]at hj;rw[eb]at hk;omega
   refine aw (OpG.mk _ _ _ 2 (c0 cz (l:=k0.L) (a:=(a[k0.k]-k0.c-b[k0.k])) Tryz.underlying27 sz3 zr3 by3 rfl rfl rfl (Src.sl rfl rfl rfl rfl rfl) rfl (by omega) (by omega) (by unfold TV;omega)) rfl rfl ?_)
   refine⟨by omega,⟨(⟨k0.k+1,k0.L++[(a[k0.k]-k0.c-b[k0.k])],0⟩:KDc),(by show a.length-(k0.k+1)<a.length-k0.k;omega),(cO (.cons rfl rfl (.cons rfl rfl (.cons rfl rfl (.cons rfl rfl (.cons rfl rfl .nil))))) (.cons rfl rfl (aa cz _ _) .nil)),?_⟩⟩
   exact⟨by show k0.k+1<=_;omega,Px hf hg hc hz ⟨by decide,by decide⟩ hl⟩
  refine cD (fun hi=>?_) (fun hi=>?_)
  ·refine⟨by omega,?_⟩
   have ea:a.getD k0.k 0=a[k0.k]:=Aa hd
   have eb:b.getD k0.k 0=0:=N1 hh
   have hj:=ky hf k0.k
   have hk:=ky hg k0.k
   have hz:((a[k0.k]-k0.c)+65536)-65536*1=a.getD k0.k 0-k0.c-b.getD k0.k 0:=by rw[ea,eb];omega
   have hl:0<=((a[k0.k]-k0.c)+65536)/\((a[k0.k]-k0.c)+65536)<=65535:=by rw[ea]at hj;rw[eb]at hk;omega
   refine aw (OpG.mk _ _ _ 2 (c0 cz (l:=k0.L) (a:=((a[k0.k]-k0.c)+65536)) Tryz.underlying27 sz3 zr3 by3 rfl rfl rfl (Src.sl rfl rfl rfl rfl rfl) rfl (by omega) (by omega) (by unfold TV;omega)) rfl rfl ?_)
   refine⟨by omega,⟨(⟨k0.k+1,k0.L++[((a[k0.k]-k0.c)+65536)],1⟩:KDc),(by show a.length-(k0.k+1)<a.length-k0.k;omega),(cO (.cons rfl rfl (.cons rfl rfl (.cons rfl rfl (.cons rfl rfl (.cons rfl rfl .nil))))) (.cons rfl rfl (aa cz _ _) .nil)),?_⟩⟩
   exact⟨by show k0.k+1<=_;omega,Px hf hg hc hz ⟨by decide,by decide⟩ hl⟩
  have ea:a.getD k0.k 0=a[k0.k]:=Aa hd
  have eb:b.getD k0.k 0=0:=N1 hh
  have hj:=ky hf k0.k
  have hk:=ky hg k0.k
  have hz:(a[k0.k]-k0.c)-65536*0=a.getD k0.k 0-k0.c-b.getD k0.k 0:=by rw[ea,eb];omega
  have hl:0<=(a[k0.k]-k0.c)/\(a[k0.k]-k0.c)<=65535:=by rw[ea]at hj;rw[eb]at hk;omega
  refine aw (OpG.mk _ _ _ 2 (c0 cz (l:=k0.L) (a:=(a[k0.k]-k0.c)) Tryz.underlying27 sz3 zr3 by3 rfl rfl rfl (Src.sl rfl rfl rfl rfl rfl) rfl (by omega) (by omega) (by unfold TV;omega)) rfl rfl ?_)
  refine⟨by omega,⟨(⟨k0.k+1,k0.L++[(a[k0.k]-k0.c)],0⟩:KDc),(by show a.length-(k0.k+1)<a.length-k0.k;omega),(cO (.cons rfl rfl (.cons rfl rfl (.cons rfl rfl (.cons rfl rfl (.cons rfl rfl .nil))))) (.cons rfl rfl (aa cz _ _) .nil)),?_⟩⟩
  exact⟨by show k0.k+1<=_;omega,Px hf hg hc hz ⟨by decide,by decide⟩ hl⟩
 refine RegG.via (fun _ h=>bm [0] 5 (.tree 1 (k0.L.map iA)) (fx cz (agx.2 rfl) rfl) rfl h) (aw ?_)
 refine ArgG.mk (ny k0.L (dw (by omega)) (by omega)) rfl ?_
 rintro _ rfl
 exact rV rfl rfl ⟨_,Cq hc.d (aeg hn ho hp hc (by omega)),rfl⟩
theorem Oo(a:List Int)(ha:ip a (fun y=>True))(y:Int)(hy:0<=y/\y<=65535)(hd:Dh a)(hsa:a.length<=400):PRet Tryz.prog 126 [.tree 1 (a.map iA),.v (.int .i64 y)] (fun q=>∃r,Cn r (vl a*y)/\q=.tree 1 (r.map iA)):=by
 refine ovT [8,29,33,35,37] [7,8,10] Tryz.func126 rfl rfl (OpG.nw (bo 0 Tryz.underlying27 sz3) rfl ?_)
 refine LpG.on (fun k0:KDc=>(⟨fL [(0,.tree 1 (a.map iA)),(1,.v (.int .i64 y)),(5,.sl 0 k0.k 0 k0.L.length),(6,.v (.int .i64 k0.c)),(7,.v (.int .i64 ((k0.k:Nat):Int)))],hLz [(0,⟨k0.k,rF iA k0.L,1,false⟩)],1⟩:St)) (fun k0=>((a.length+1)-k0.k)) (fun k0=>(k0.k<=(a.length+1)/\TiI a y k0)) (⟨0,[],0⟩:KDc) (cO (.cons rfl rfl (.cons rfl rfl (.cons rfl rfl (.cons rfl rfl (.cons rfl rfl .nil))))) (.cons rfl rfl (aa cz _ _) .nil)) ⟨ag5 _,acw a y⟩ ?_
 rintro k0 hg
 obtain⟨hle_k0,hb⟩:=hg
 have hcc:=hb.c
 have hll:=hb.l
 refine LenG.of (cB (fun hc=>?_) (fun hc=>?_))
 ·have he:k0.k<a.length:=Int.ofNat_lt.1 (ag3 hc)
  refine cT (LenG.of ?_)
  refine cB (fun _=>?_) (fun hz=>absurd (hz.symm.trans hc) ahp)
  have h7:=Oq ((fun(h:k0.k<a.length)=>hd _ (ags h)) ‹_›) hy
  refine aw (IdxG.of ‹_› ?_)
  refine OpG.lk (m4 (r:=a[k0.k]*y) rfl rfl (by rw[IntKind.wrap_i64];omega)) ⟨by omega,?_⟩
  have ea:a.getD k0.k 0=a[k0.k]:=by exact Aa he
  have hj:=Oq (ky hd k0.k) hy
  have hz:(k0.c+a[k0.k]*y)=k0.c+a.getD k0.k 0*y:=by rw[ea]
  have hh:k0.k<=a.length:=by have:=hb.e;omega
  refine aw (OpG.lk (fm rfl rfl (by omega) (by decide)) ?_)
  refine OpG.mk _ _ _ 2 (c0 cz (l:=k0.L) (a:=((k0.c+a[k0.k]*y)%65536)) Tryz.underlying27 sz3 zr3 by3 rfl rfl rfl (Src.sl rfl rfl rfl rfl rfl) rfl (by omega) (by omega) (by unfold TV;omega)) rfl rfl (OpG.lk (fo (r:=(k0.c+a[k0.k]*y)/65536) rfl rfl (by omega) (by decide) (by rw[IntKind.wrap_i64];omega)) ?_)
  refine⟨by omega,⟨(⟨k0.k+1,k0.L++[((k0.c+a[k0.k]*y)%65536)],((k0.c+a[k0.k]*y)/65536)⟩:KDc),(by show(a.length+1)-(k0.k+1)<(a.length+1)-k0.k;omega),(cO (.cons rfl rfl (.cons rfl rfl (.cons rfl rfl (.cons rfl rfl (.cons rfl rfl .nil))))) (.cons rfl rfl (aa cz _ _) .nil)),?_⟩⟩
  exact⟨by show k0.k+1<=_;omega,Ya hd hy hb hz hh⟩
 have hf:¬k0.k<a.length:=fun h=>ag2 hc (Int.ofNat_lt.2 h)
 refine cD (fun hi=>?_) (fun hi=>?_)
 ·refine LenG.of (cB (fun hz=>absurd (hz.symm.trans hc) Bool.noConfusion) (fun _=>?_))
  have ea:a.getD k0.k 0=0:=by exact N1 hf
  have hj:=Oq (ky hd k0.k) hy
  have hz:k0.c=k0.c+a.getD k0.k 0*y:=by rw[ea];omega
  have hh:k0.k<=a.length:=by have:=hb.e;omega
  refine aw (OpG.lk (fm rfl rfl (by omega) (by decide)) ?_)
  refine OpG.mk _ _ _ 2 (c0 cz (l:=k0.L) (a:=(k0.c%65536)) Tryz.underlying27 sz3 zr3 by3 rfl rfl rfl (Src.sl rfl rfl rfl rfl rfl) rfl (by omega) (by omega) (by unfold TV;omega)) rfl rfl (OpG.lk (fo (r:=k0.c/65536) rfl rfl (by omega) (by decide) (by rw[IntKind.wrap_i64];omega)) ?_)
  refine⟨by omega,⟨(⟨k0.k+1,k0.L++[(k0.c%65536)],(k0.c/65536)⟩:KDc),(by show(a.length+1)-(k0.k+1)<(a.length+1)-k0.k;omega),(cO (.cons rfl rfl (.cons rfl rfl (.cons rfl rfl (.cons rfl rfl (.cons rfl rfl .nil))))) (.cons rfl rfl (aa cz _ _) .nil)),?_⟩⟩
  exact⟨by show k0.k+1<=_;omega,Ya hd hy hb hz hh⟩
 refine RegG.via (fun _ h=>bm [0] 5 (.tree 1 (k0.L.map iA)) (fx cz (agx.2 rfl) rfl) rfl h) (aw ?_)
 refine ArgG.mk (ny k0.L (dw (by omega)) (by omega)) rfl ?_
 rintro _ rfl
 exact rV rfl rfl ⟨_,Cq hb.d (acv hb ‹_› (by have:=hb.c;omega)),rfl⟩
def hvL:List Int->List Int
 |[]=>[]
 |n::l=>n%65536::n/65536::hvL l
theorem Gt:∀(l:List Int) (n:Int),hvL (l++[n])=hvL l++[n%65536,n/65536]
 |[],_=>rfl
 |a::l,n=>by show _::_::hvL (l++[n])=_;rw[Gt l n];rfl
theorem D4:∀(l:List Int),(hvL l).length=2*l.length
 |[]=>rfl
 |a::l=>by show(hvL l).length+1+1=2*(l.length+1);rw[D4 l];omega
theorem Eo{l:List Int}{n:Int}(h:Cn l n):l.length=0↔n=0:=by
 constructor
 ·intro g
  rw[<-h.v,ahk g];rfl
 intro g
 rcases Nat.eq_zero_or_pos l.length with e|e
 ·exact e
 have h1:=Qs h e
 have h2:=F7 (l.length-1)
 omega
theorem af4{n:Int}(h0:0<=n)(h1:n<=4294967295):Cn (dtr (hvL (dgN n))) n:=by
 unfold dgN
 by_cases e:n=0
 ·rw[ag1 e];subst e;exact⟨rfl,fun x hx=>by simp[hvL,dtr]at hx,rfl⟩
 rw[ag0 e]
 refine Cq (fun x hx=>?_) ?_
 ·simp only[hvL,ahi,List.not_mem_nil,or_false]at hx
  rcases hx with rfl|rfl<;>omega
 show n%65536+65536*(n/65536+65536*0)=n
 omega
theorem Qb(x:GBig)(hx:FitBig x)(he:Dg x.a_)(hs:x.a_.length<=400):PRet Tryz.prog 96 [.agg (bgA x)] (fun q=>q=.tree 1 ((dtr (hvL x.a_)).map iA)):=by
 refine ovT [5,19,20,26,27,28,29] [6] Tryz.func96 rfl rfl (OpG.nw (bo 1 Tryz.underlying27 sz3) rfl ?_)
 refine LpG.on (fun k0:KL Int=>(⟨fL [(1,.ptr 0 0 0),(3,.sl 1 k0.k 0 k0.L.length),(4,.v (.int .i64 ((k0.k:Nat):Int)))],hLz [(0,⟨0,bgA x,0,false⟩),(1,⟨k0.k,rF iA k0.L,1,false⟩)],2⟩:St)) (fun k0=>(x.a_.length-k0.k)) (fun k0=>(k0.k<=x.a_.length/\(k0.L=hvL (x.a_.take k0.k)))) (⟨0,[]⟩:KL Int) (cO (.cons rfl rfl (.cons rfl rfl (.cons rfl rfl .nil))) (.cons rfl rfl rfl (.cons rfl rfl (aa cz _ _) .nil))) ⟨ag5 _,rfl⟩ ?_
 rintro k0 hc
 have hgr_k0:x.a_.length<=140737488355328:=hx.a_.1
 obtain⟨hle_k0,hb⟩:=hc
 refine LenG.of (cL (fun ha=>?_) (fun hge10=>?_))
 ·have hd:=he _ (ags ha)
  have hf:k0.L.length=2*k0.k:=by rw[hb,D4,List.length_take];omega
  refine IdxG.of ‹_› (OpG.lk (fm rfl rfl hd.1 (by decide)) ?_)
  refine OpG.lk (bn (r:=(x.a_[k0.k]'ha)%65536) Tryz.underlying192 Tryz.underlying3 rfl (by rw[IntKind.wrap_i64];omega)) (IdxG.of ‹_› ?_)
  refine OpG.lk (fo (r:=(x.a_[k0.k]'ha)/65536) rfl rfl hd.1 (by decide) (by rw[IntKind.wrap_u32];omega)) (OpG.lk (bn (r:=(x.a_[k0.k]'ha)/65536) Tryz.underlying192 Tryz.underlying3 rfl (by rw[IntKind.wrap_i64];omega)) ?_)
  refine OpG.nw (bq (cj Tryz.underlying27 sz3 zr3 rfl rfl rfl rfl) (fun η' h=>bc (f:=iA) (l:=[(x.a_[k0.k]'ha)%65536,(x.a_[k0.k]'ha)/65536]) (agx.2 rfl) h rfl rfl rfl rfl rfl (fun a _=>⟨rfl,rfl⟩))) rfl (OpG.mk _ _ _ 3 (jm cz (l:=k0.L) (l':=[(x.a_[k0.k]'ha)%65536,(x.a_[k0.k]'ha)/65536]) Tryz.underlying27 sz3 zr3 by3 rfl rfl rfl rfl (by simp only[ahe,ahf];omega) (by simp only[ahe,ahf];omega) (by unfold TV;omega)) rfl rfl ?_)
  refine⟨by kernel_rfl,⟨by omega,?_⟩⟩
  refine⟨(⟨k0.k+1,k0.L++[(x.a_[k0.k]'ha)%65536,(x.a_[k0.k]'ha)/65536]⟩:KL Int),(by show x.a_.length-(k0.k+1)<x.a_.length-k0.k;omega),(cO (.cons rfl rfl (.cons rfl rfl (.cons rfl rfl .nil))) (.cons rfl rfl rfl (.cons rfl rfl (aa cz _ _) .nil))),⟨by show k0.k+1<=_;omega,?_⟩⟩
  show k0.L++_=hvL (x.a_.take (k0.k+1))
  rw[ag4 ha,Gt,hb]
 refine RegG.via (fun _ h=>bm [1] 3 (.tree 1 (k0.L.map iA)) (fx cz (agx.2 rfl) rfl) rfl h) ?_
 have hf:k0.L.length<=800:=by rw[hb,D4,List.length_take];omega
 refine aw (ArgG.mk (ny k0.L (dw (by omega)) (by omega)) rfl ?_)
 rintro _ rfl
 refine rV rfl rfl ?_
 rw[hb,ahj (by omega)];rfl
theorem abj(ng:Bool):PRet Tryz.prog 95 [.v (.bool ng),.tree 1 ((([]:List Int)).map iA)] (fun q=>q=.agg (bgA ⟨false,[]⟩)):=by
 refine ovT [] [] Tryz.func95 rfl rfl (ArgG.mk ((show PRet Tryz.prog 128 [.tree 1 ((([]:List Int)).map iA)] (fun q=>q=.tree 1 ((([]:List Int)).map iA))from by have:=ny ([]:List Int) (dw (by show 0<=5000;decide)) (by show 0<=1000;decide);rwa [show dtr []=[]from rfl]at this)) rfl ?_)
 rintro _ rfl
 refine cB (fun hc=>?_) (fun hc=>?_)
 ·refine LenG.of (k7 (ULp.step ?_))
  refine LenG.of (cB (fun ha=>?_) (fun ha=>?_))
  ·have hb:(0:Int)<(((([]:List Int)).length:Nat):Int):=ag3 ha
   simp at ha
  have hb:¬((0:Int)<(((([]:List Int)).length:Nat):Int)):=ag2 ha
  refine⟨.inr rfl,_,Ng.cell rfl db rfl rfl rfl rfl rfl ⟨[],FzP.aggL (.cons (.pure rfl) (.cons (FzP.nil (n:=1)) .nil))⟩,?_⟩
  rfl
 refine k7 (ULp.step ?_)
 refine LenG.of (cB (fun ha=>?_) (fun ha=>?_))
 ·have hb:(0:Int)<(((([]:List Int)).length:Nat):Int):=ag3 ha
  simp at ha
 have hb:¬((0:Int)<(((([]:List Int)).length:Nat):Int)):=ag2 ha
 refine⟨.inr rfl,_,Ng.cell rfl db rfl rfl rfl rfl rfl ⟨[],FzP.aggL (.cons (.pure rfl) (.cons (FzP.nil (n:=1)) .nil))⟩,?_⟩
 rfl
theorem abi(ng:Bool){a:Int}(ha:0<=a/\a<=65535)(hc:dtr [a]=[a]):PRet Tryz.prog 95 [.v (.bool ng),.tree 1 (([a]).map iA)] (fun q=>q=.agg (bgA ⟨ng,[a]⟩)):=by
 refine ovT [27,45,46] [] Tryz.func95 rfl rfl (ArgG.mk ((show PRet Tryz.prog 128 [.tree 1 (([a]).map iA)] (fun q=>q=.tree 1 (([a]).map iA))from by have:=ny [a] (dw (by show 1<=5000;decide)) (by show 1<=1000;decide);rwa [hc]at this)) rfl ?_)
 rintro _ rfl
 refine cB (fun hf=>?_) (fun hf=>?_)
 ·refine LenG.of (k7 (ULp.step ?_))
  refine LenG.of (cB (fun hb=>?_) (fun hb=>?_))
  ·have he:(0:Int)<(([a].length:Nat):Int):=ag3 hb
   refine IdxG.of (j:=0) (by omega) (OpG.lk (bn (r:=a) Tryz.underlying3 Tryz.underlying192 rfl (by show IntKind.u32.wrap a=a;rw[IntKind.wrap_u32];omega)) ?_)
   refine⟨by omega,LenG.of ?_⟩
   refine cB (fun hd=>?_) (fun hd=>?_)
   ·have hg:(1:Int)<(([a].length:Nat):Int):=ag3 hd
    simp at hd
   have hg:¬((1:Int)<(([a].length:Nat):Int)):=ag2 hd
   refine OpG.nw (bq (cj Tryz.underlying46 dz lw rfl rfl rfl rfl) (fun η' h=>bc (f:=cx) (l:=[a]) (agx.2 rfl) h rfl rfl rfl rfl rfl (fun a _=>⟨rfl,rfl⟩))) rfl (OpG.nw (j2 (m:=1) (news:=rF cx [a]) Tryz.underlying46 dz lw uj rfl rfl (by decide) (iy (l:=[a]) (f:=cx) rfl) (by decide) rfl (by decide) (by decide)) rfl ?_)
   refine⟨by omega,ULp.step ?_⟩
   refine LenG.of (cB (fun hb=>?_) (fun hb=>?_))
   ·have he:(2:Int)<(([a].length:Nat):Int):=ag3 hb
    simp at hb
   have he:¬((2:Int)<(([a].length:Nat):Int)):=ag2 hb
   refine⟨.inr rfl,_,Ng.cell rfl db rfl rfl rfl rfl rfl ⟨[3],FzP.aggL (.cons (.pure rfl) (.cons (bc (f:=cx) (l:=[a]) (agx.2 rfl) rfl rfl rfl rfl rfl rfl (fun a _=>⟨rfl,rfl⟩)) .nil))⟩,?_⟩
   subst hf;rfl
  have he:¬((0:Int)<(([a].length:Nat):Int)):=ag2 hb
  simp at hb
 refine k7 (ULp.step ?_)
 refine LenG.of (cB (fun hb=>?_) (fun hb=>?_))
 ·have he:(0:Int)<(([a].length:Nat):Int):=ag3 hb
  refine IdxG.of (j:=0) (by omega) (OpG.lk (bn (r:=a) Tryz.underlying3 Tryz.underlying192 rfl (by show IntKind.u32.wrap a=a;rw[IntKind.wrap_u32];omega)) ?_)
  refine⟨by omega,LenG.of ?_⟩
  refine cB (fun hd=>?_) (fun hd=>?_)
  ·have hg:(1:Int)<(([a].length:Nat):Int):=ag3 hd
   simp at hd
  have hg:¬((1:Int)<(([a].length:Nat):Int)):=ag2 hd
  refine OpG.nw (bq (cj Tryz.underlying46 dz lw rfl rfl rfl rfl) (fun η' h=>bc (f:=cx) (l:=[a]) (agx.2 rfl) h rfl rfl rfl rfl rfl (fun a _=>⟨rfl,rfl⟩))) rfl (OpG.nw (j2 (m:=1) (news:=rF cx [a]) Tryz.underlying46 dz lw uj rfl rfl (by decide) (iy (l:=[a]) (f:=cx) rfl) (by decide) rfl (by decide) (by decide)) rfl ?_)
  refine⟨by omega,ULp.step ?_⟩
  refine LenG.of (cB (fun hb=>?_) (fun hb=>?_))
  ·have he:(2:Int)<(([a].length:Nat):Int):=ag3 hb
   simp at hb
  have he:¬((2:Int)<(([a].length:Nat):Int)):=ag2 hb
  refine⟨.inr rfl,_,Ng.cell rfl db rfl rfl rfl rfl rfl ⟨[3],FzP.aggL (.cons (.pure rfl) (.cons (bc (f:=cx) (l:=[a]) (agx.2 rfl) rfl rfl rfl rfl rfl rfl (fun a _=>⟨rfl,rfl⟩)) .nil))⟩,?_⟩
  subst hf;rfl
 have he:¬((0:Int)<(([a].length:Nat):Int)):=ag2 hb
 simp at hb
theorem abh(ng:Bool){a b:Int}(ha:0<=a/\a<=65535)(hb:0<=b/\b<=65535)(hc:dtr [a,b]=[a,b]):PRet Tryz.prog 95 [.v (.bool ng),.tree 1 (([a,b]).map iA)] (fun q=>q=.agg (bgA ⟨ng,[a+65536*b]⟩)):=by
 refine ovT [27,39,40,41,45,46] [] Tryz.func95 rfl rfl (ArgG.mk ((show PRet Tryz.prog 128 [.tree 1 (([a,b]).map iA)] (fun q=>q=.tree 1 (([a,b]).map iA))from by have:=ny [a,b] (dw (by show 2<=5000;decide)) (by show 2<=1000;decide);rwa [hc]at this)) rfl ?_)
 rintro _ rfl
 refine cB (fun hg=>?_) (fun hg=>?_)
 ·refine LenG.of (k7 (ULp.step ?_))
  refine LenG.of (cB (fun hd=>?_) (fun hd=>?_))
  ·have hf:(0:Int)<((([a,b]).length:Nat):Int):=ag3 hd
   refine IdxG.of (j:=0) (by omega) (OpG.lk (bn (r:=a) Tryz.underlying3 Tryz.underlying192 rfl (by show IntKind.u32.wrap a=a;rw[IntKind.wrap_u32];omega)) ?_)
   refine⟨by omega,LenG.of ?_⟩
   refine cB (fun he=>?_) (fun he=>?_)
   ·have hh:(1:Int)<((([a,b]).length:Nat):Int):=ag3 he
    refine⟨by omega,IdxG.of (j:=1) (by omega) ?_⟩
    refine OpG.lk (bn (r:=b) Tryz.underlying3 Tryz.underlying192 rfl (by show IntKind.u32.wrap b=b;rw[IntKind.wrap_u32];omega)) (OpG.lk (m4 (r:=65536*b) rfl rfl (by rw[IntKind.wrap_u32];omega)) ?_)
    refine OpG.lk (pg (r:=a+65536*b) rfl rfl (by rw[IntKind.wrap_u32];omega)) (OpG.nw (bq (cj Tryz.underlying46 dz lw rfl rfl rfl rfl) (fun η' h=>bc (f:=cx) (l:=[(a+65536*b)]) (agx.2 rfl) h rfl rfl rfl rfl rfl (fun a _=>⟨rfl,rfl⟩))) rfl ?_)
    refine OpG.nw (j2 (m:=1) (news:=rF cx [(a+65536*b)]) Tryz.underlying46 dz lw uj rfl rfl (by decide) (iy (l:=[(a+65536*b)]) (f:=cx) rfl) (by decide) rfl (by decide) (by decide)) rfl ⟨by omega,ULp.step ?_⟩
    refine LenG.of (cB (fun hd=>?_) (fun hd=>?_))
    ·have hf:(2:Int)<((([a,b]).length:Nat):Int):=ag3 hd
     simp at hd
    have hf:¬((2:Int)<((([a,b]).length:Nat):Int)):=ag2 hd
    refine⟨.inr rfl,_,Ng.cell rfl db rfl rfl rfl rfl rfl ⟨[3],FzP.aggL (.cons (.pure rfl) (.cons (bc (f:=cx) (l:=[(a+65536*b)]) (agx.2 rfl) rfl rfl rfl rfl rfl rfl (fun a _=>⟨rfl,rfl⟩)) .nil))⟩,?_⟩
    subst hg;rfl
   have hh:¬((1:Int)<((([a,b]).length:Nat):Int)):=ag2 he
   simp at he
  have hf:¬((0:Int)<((([a,b]).length:Nat):Int)):=ag2 hd
  simp at hd
 refine k7 (ULp.step ?_)
 refine LenG.of (cB (fun hd=>?_) (fun hd=>?_))
 ·have hf:(0:Int)<((([a,b]).length:Nat):Int):=ag3 hd
  refine IdxG.of (j:=0) (by omega) (OpG.lk (bn (r:=a) Tryz.underlying3 Tryz.underlying192 rfl (by show IntKind.u32.wrap a=a;rw[IntKind.wrap_u32];omega)) ?_)
  refine⟨by omega,LenG.of ?_⟩
  refine cB (fun he=>?_) (fun he=>?_)
  ·have hh:(1:Int)<((([a,b]).length:Nat):Int):=ag3 he
   refine⟨by omega,IdxG.of (j:=1) (by omega) ?_⟩
   refine OpG.lk (bn (r:=b) Tryz.underlying3 Tryz.underlying192 rfl (by show IntKind.u32.wrap b=b;rw[IntKind.wrap_u32];omega)) (OpG.lk (m4 (r:=65536*b) rfl rfl (by rw[IntKind.wrap_u32];omega)) ?_)
   refine OpG.lk (pg (r:=a+65536*b) rfl rfl (by rw[IntKind.wrap_u32];omega)) (OpG.nw (bq (cj Tryz.underlying46 dz lw rfl rfl rfl rfl) (fun η' h=>bc (f:=cx) (l:=[(a+65536*b)]) (agx.2 rfl) h rfl rfl rfl rfl rfl (fun a _=>⟨rfl,rfl⟩))) rfl ?_)
   refine OpG.nw (j2 (m:=1) (news:=rF cx [(a+65536*b)]) Tryz.underlying46 dz lw uj rfl rfl (by decide) (iy (l:=[(a+65536*b)]) (f:=cx) rfl) (by decide) rfl (by decide) (by decide)) rfl ⟨by omega,ULp.step ?_⟩
   refine LenG.of (cB (fun hd=>?_) (fun hd=>?_))
   ·have hf:(2:Int)<((([a,b]).length:Nat):Int):=ag3 hd
    simp at hd
   have hf:¬((2:Int)<((([a,b]).length:Nat):Int)):=ag2 hd
   refine⟨.inr rfl,_,Ng.cell rfl db rfl rfl rfl rfl rfl ⟨[3],FzP.aggL (.cons (.pure rfl) (.cons (bc (f:=cx) (l:=[(a+65536*b)]) (agx.2 rfl) rfl rfl rfl rfl rfl rfl (fun a _=>⟨rfl,rfl⟩)) .nil))⟩,?_⟩
   subst hg;rfl
  have hh:¬((1:Int)<((([a,b]).length:Nat):Int)):=ag2 he
  simp at he
 have hf:¬((0:Int)<((([a,b]).length:Nat):Int)):=ag2 hd
 simp at hd
theorem pz{ng:Bool}{l:List Int}{n:Int}(h:Cn l n)(h1:n<=4294967295):PRet Tryz.prog 95 [.v (.bool ng),.tree 1 (l.map iA)] (fun q=>q=.agg (bgA (bgS ng n))):=by
 have hl:l.length<=2:=by
  rcases Nat.lt_or_ge 2 l.length with g|g
  ·have h2:=Qs h (by omega)
   have h3:(65536:Int)^2<=65536^(l.length-1):=Kb (by omega)
   have h4:(65536:Int)^2=4294967296:=by decide
   omega
  ·exact g
 match l,h,hl with
 |[],h,_=>
  have e:n=0:=h.v.symm
  subst e;exact abj ng
 |[a],h,_=>
  have e:a+65536*0=n:=h.v
  have e0:¬n=0:=fun g=>by
   have h0:=h.t
   rw[show a=0 by omega]at h0;exact absurd h0 (by decide)
  have:=abi ng (h.d a (by simp)) h.t
  unfold bgS;rw[ag0 e0,<-show a=n by omega];exact this
 |[a,b],h,_=>
  have e:a+65536*(b+65536*0)=n:=h.v
  have hb:=h.d b (by simp)
  have hb0:¬b=0:=fun g=>by
   have h0:=h.t
   rw[g,Ir]at h0
   have:=@da a
   rw[h0]at this;exact absurd this (by simp)
  have ha:=h.d a (by simp)
  have:=abh ng ha hb h.t
  unfold bgS;rw[ag0 (by omega),<-show a+65536*b=n by omega];exact this
 |_::_::_::_,_,hl=>exact absurd hl (by simp)
theorem rh{x:Int}(h:B1 x):PRet Tryz.prog 96 [.agg (bgA (bgI x))] (fun q=>∃r,Cn r (aZ x)/\q=.tree 1 (r.map iA)):=
 (Qb (bgI x) (I6 x) (t7 h) (aha lq (by decide))).mono fun q hq=>⟨_,by rw[ed];exact af4 (im x) (jj h),hq⟩
theorem Po{x:Int}(hx:B1 x):PRet Tryz.prog 94 [.agg (bgA (bgI x))] (fun q=>q=.agg (bgA (bgI x))):=by
 refine ovT [] [] Tryz.func94 rfl rfl (ArgG.mk (rh (x:=x) (by constructor<;>omega)) rfl ?_)
 rintro _ ⟨r0,ha,rfl⟩
 refine ArgG.mk (pz (ng:=((bgI x).b_)) ha (by exact jj ‹_›)) rfl ?_
 rintro _ rfl
 refine⟨by kernel_rfl,⟨.inr rfl,_,Ng.cell rfl db rfl rfl rfl rfl rfl ⟨[],FzP.pure rfl⟩,?_⟩⟩
 rw[b6];rfl
theorem lj{x:Int}(hx:B1 x):PRet Tryz.prog 89 [.agg (bgA (bgI x))] (fun q=>q=.v (.int .i64 (sgZ x))):=by
 refine ovT [] [] Tryz.func89 rfl rfl (ArgG.mk (rh (x:=x) (by constructor<;>omega)) rfl ?_)
 rintro _ ⟨r0,hb,rfl⟩
 refine LenG.of (cE (fun hc=>?_) (fun hc=>?_))
 ·refine rV rfl rfl ?_
  have e:x=0:=aZ_0.1 ((Eo hb).1 (by omega))
  subst e;rfl
 refine cB (fun ha=>?_) (fun ha=>?_)
 ·refine rV rfl rfl ?_
  have e:x≠0:=fun e=>hc (by have:=(Eo hb).2 (aZ_0.2 e);omega)
  have e2:x<0:=by rw[b6]at ha;simpa using ha
  unfold sgZ;rw[ag0 e,ag1 e2];rfl
 refine rV rfl rfl ?_
 have e:x≠0:=fun e=>hc (by have:=(Eo hb).2 (aZ_0.2 e);omega)
 have e2:¬x<0:=by rw[b6]at ha;simpa using ha
 unfold sgZ;rw[ag0 e,ag0 e2];rfl
theorem zo{x:Int}(hx:B1 x):PRet Tryz.prog 53 [.agg (bgA (bgI x))] (fun q=>q=.agg (bgA (bgI (-x)))):=by
 refine ovT [] [] Tryz.func53 rfl rfl (ArgG.mk (rh (x:=x) (by constructor<;>omega)) rfl ?_)
 rintro _ ⟨r0,ha,rfl⟩
 refine ArgG.mk (pz (ng:=((!(bgI x).b_))) ha (by exact jj ‹_›)) rfl ?_
 rintro _ rfl
 refine⟨by kernel_rfl,⟨.inr rfl,_,Ng.cell rfl db rfl rfl rfl rfl rfl ⟨[],FzP.pure rfl⟩,?_⟩⟩
 rw[b6,nq (x:=-x) (by unfold aZ;split<;>split<;>omega) (fun h=>by rw[<-decide_not];exact decide_eq_decide.2 (by omega))]
theorem ro{l:List Int}{n:Int}(h:Cn l n)(h1:n<=8589934590):l.length<=3:=by
 rcases Nat.lt_or_ge 3 l.length with g|g
 ·have h2:=Qs h (by omega)
  have h3:(65536:Int)^3<=65536^(l.length-1):=Kb (by omega)
  have h4:(65536:Int)^3=281474976710656:=by decide
  omega
 exact g
section
variable{a b:List Int}{m n:Int}
theorem U3(ha:Cn a m)(hb:Cn b n)(hm:m<=8589934590)(hn:n<=8589934590):PRet Tryz.prog 123 [.tree 1 (a.map iA),.tree 1 (b.map iA)] (fun q=>∃r,Cn r (m+n)/\q=.tree 1 (r.map iA)):=by
 have h1:=ro ha hm
 have h2:=ro hb hn
 have:=Kd a (dw (by omega)) b (dw (by omega)) ha.d hb.d (by omega) (by omega)
 rwa [ha.v,hb.v]at this
theorem adz(ha:Cn a m)(hb:Cn b n)(hm:m<=8589934590)(hn:n<=8589934590):PRet Tryz.prog 124 [.tree 1 (a.map iA),.tree 1 (b.map iA)] (fun q=>q=.v (.int .i64 (sgZ (m-n)))):=by
 have h1:=ro ha hm
 have h2:=ro hb hn
 exact ady a (dw (by omega)) b (dw (by omega)) ha hb (by omega) (by omega)
theorem Gj(ha:Cn a m)(hb:Cn b n)(hm:m<=8589934590)(hc:n<=m):PRet Tryz.prog 125 [.tree 1 (a.map iA),.tree 1 (b.map iA)] (fun q=>∃r,Cn r (m-n)/\q=.tree 1 (r.map iA)):=by
 have h1:=ro ha hm
 have h2:=ro hb (by omega)
 exact Pw a (dw (by omega)) b (dw (by omega)) ha hb (by omega) (by omega) hc
theorem X9(ha:Cn a m)(hm:m<=8589934590){y:Int}(hy:0<=y/\y<=65535):PRet Tryz.prog 126 [.tree 1 (a.map iA),.v (.int .i64 y)] (fun q=>∃r,Cn r (m*y)/\q=.tree 1 (r.map iA)):=by
 have h1:=ro ha hm
 have:=Oo a (dw (by omega)) y hy ha.d (by omega)
 rwa [ha.v]at this
end
section
variable{x y:Int}
theorem ad_s(h:(decide (x<0)==decide (y<0))=true):aZ x+aZ y=aZ (x+y)/\bgS (decide (x<0)) (aZ x+aZ y)=bgI (x+y):=by
 have h1:x<0↔y<0:=by simpa using h
 have e:aZ x+aZ y=aZ (x+y):=by
  unfold aZ
  by_cases g:x<0
  ·rw[ag1 g,ag1 (h1.1 g),ag1 (by have:=h1.1 g;omega)];omega
  ·rw[ag0 g,ag0 (fun k=>g (h1.2 k)),ag0 (by have:=fun k=>g (h1.2 k);omega)]
 exact⟨e,nq e fun _=>decide_eq_decide.2 (by omega)⟩
theorem ad_g(h:(decide (x<0)==decide (y<0))=false)(g:aZ y<=aZ x):bgS (decide (x<0)) (aZ x-aZ y)=bgI (x+y):=by
 have h1:¬(x<0↔y<0):=by simpa using h
 refine nq ?_ fun _=>decide_eq_decide.2 ?_
 ·unfold aZ at g ⊢;split at g<;>split at g<;>split<;>omega
 unfold aZ at g;split at g<;>split at g<;>omega
theorem ad_l(h:(decide (x<0)==decide (y<0))=false)(g:¬aZ y<=aZ x):bgS (decide (y<0)) (aZ y-aZ x)=bgI (x+y):=by
 have h1:¬(x<0↔y<0):=by simpa using h
 refine nq ?_ fun _=>decide_eq_decide.2 ?_
 ·unfold aZ at g ⊢;split at g<;>split at g<;>split<;>omega
 unfold aZ at g;split at g<;>split at g<;>omega
end
structure OfI(n:Int)(s:KDc):Prop where
 d:Dh s.L
 l:s.L.length=s.k
 v:vl s.L+65536^s.k*s.c=aZ n
 c:0<=s.c/\(s.k=0->s.c<=4294967295)/\(s.k=1->s.c<=65535)/\(s.k=2->s.c=0)
 t:s.c=0->dtr s.L=s.L
theorem Zg{n:Int}(h:B1 n):OfI n ⟨0,[],aZ n⟩:=⟨fun x hx=>by simp at hx,rfl,by simp[vl],⟨im n,fun _=>jj h,fun e=>absurd e (by show¬(0=1);decide),fun e=>absurd e (by show¬(0=2);decide)⟩,fun _=>rfl⟩
theorem Wp{L:List Int}{z:Int}(h:z≠0):dtr (L++[z])=L++[z]:=L7 (by simp) (by simpa using h)
theorem Ze{n:Int}{s:KDc}(h:OfI n s)(hk:s.k<2)(hc:s.c>0):OfI n ⟨s.k+1,s.L++[s.c%65536],s.c/65536⟩:=by
 obtain⟨c1,c2,c3,c4⟩:=h.c
 refine⟨Ee h.d,by simp[h.l],?_,⟨by show 0<=s.c/65536;omega,fun e=>absurd e (by show¬s.k+1=0;omega),fun e=>?_,fun e=>?_⟩,fun e=>Wp ?_⟩
 ·show vl (s.L++[s.c%65536])+65536^(s.k+1)*(s.c/65536)=_
  rw[sc,h.l,Int.pow_succ,Int.mul_assoc]
  have hv:=h.v
  have e1:(65536:Int)^s.k*(s.c%65536)+65536^s.k*(65536*(s.c/65536))=65536^s.k*s.c:=by
   rw[<-Int.mul_add]
   congr 1;omega
  omega
 ·have:=c2 (by have:s.k+1=1:=e;omega)
  show s.c/65536<=65535
  omega
 ·have:=c3 (by have:s.k+1=2:=e;omega)
  show s.c/65536=0
  omega
 have e:s.c/65536=0:=e
 omega
theorem Zf{n:Int}{s:KDc}(h:OfI n s)(hc:¬s.c>0):Cn s.L (aZ n):=by
 have e:s.c=0:=by have:=h.c.1;omega
 have hv:=h.v
 rw[e]at hv
 exact⟨h.t e,h.d,by omega⟩
theorem Dd{r:List Int}{j:Nat}(h:j<r.length):vl (r.drop j)=r[j]+65536*vl (r.drop (j+1)):=by rw[ahm h];rfl
theorem xw:∀{r:List Int} {j:Nat},Dh r->vl (r.drop j)<=vl r
 |_,0,_=>Int.le_refl _
 |[],_+1,_=>Int.le_refl _
 |a::l,j+1,h=>by
  have h1:=xw (r:=l) (j:=j) (fun x hx=>h x (by simp[hx]))
  have h2:=A6 (d:=l) (fun x hx=>h x (by simp[hx]))
  have h3:=(h a (by simp)).1
  show vl (l.drop j)<=a+65536*vl l
  omega
theorem aed{L r:List Int}{s t:Int}(h:Cn L s)(hr:Cn r t)(hs:s<=8589934590)(ht:t<=8589934590):PRet Tryz.prog 123 [.tree 1 (([0]++L).map iA),.tree 1 (r.map iA)] (fun q=>∃r',Cn r' (65536*s+t)/\q=.tree 1 (r'.map iA)):=by
 have h1:=ro h hs
 have h2:=ro hr ht
 have:=Kd ([0]++L) (dw (by simp;omega)) r (dw (by omega)) (fun x hx=>by
  rcases agy.1 hx with hx|hx
  ·rw[agx.1 hx];exact⟨by decide,by decide⟩
  ·exact h.d x hx) hr.d (by simp;omega) (by omega)
 rw[show vl ([0]++L)+vl r=65536*s+t from by rw[<-h.v,<-hr.v];show 0+65536*vl L+vl r=_;omega]at this
 exact this
theorem Vg{r:List Int}{X Y:Int}{k:Nat}(h:Cn r Y)(hX:0<=X)(ha:Y*X<=4294967295):0<=vl (r.drop k)*X/\vl (r.drop k)*X<=4294967295:=by
 have h1:=xw (j:=k) h.d
 rw[h.v]at h1
 have h2:0<=vl (r.drop k):=A6 (fun x hx=>h.d x (List.mem_of_mem_drop hx))
 exact⟨Int.mul_nonneg h2 hX,Int.le_trans (Int.mul_le_mul_of_nonneg_right h1 hX) ha⟩
theorem acu{a b X v:Int}(h:0<=v*X/\v*X<=4294967295)(hv:v=a+65536*b)(hb:0<=b)(hX:0<=X):X*a<=4294967295:=by
 have h1:v*X=a*X+65536*(b*X):=by rw[hv,Int.add_mul,Int.mul_assoc]
 have h2:=Int.mul_nonneg hb hX
 rw[Int.mul_comm];omega
theorem mu_s{x y:Int}:bgS (decide (x<0) !=decide (y<0)) (aZ x*aZ y)=bgI (x*y):=by
 refine nq (Ht x y) fun ha=>?_
 have hx:x≠0:=fun e=>ha (by rw[e,Int.zero_mul])
 have hy:y≠0:=fun e=>ha (by rw[e,Int.mul_zero])
 by_cases gx:x<0<;>by_cases gy:y<0
 ·have:0<x*y:=Int.mul_pos_of_neg_of_neg gx gy
  simp[gx,gy];omega
 ·have:x*y<0:=Int.mul_neg_of_neg_of_pos gx (by omega)
  simp[gx,gy,this]
 ·have:x*y<0:=Int.mul_neg_of_pos_of_neg (by omega) gy
  simp[gx,gy,this]
 have:0<x*y:=Int.mul_pos (by omega) (by omega)
 simp[gx,gy];omega
theorem x6{x:Int}:sgZ x≥0↔0<=x:=by unfold sgZ;split<;>(try split)<;>omega
theorem w5{x y:Int}(hx:B1 x)(hy:B1 y)(h:B1 (x+y)):PRet Tryz.prog 91 [.agg (bgA (bgI x)),.agg (bgA (bgI y))] (fun q=>q=.agg (bgA (bgI (x+y)))):=by
 have hax:=im x
 have hay:=im y
 have hlx:=jj hx
 have hly:=jj hy
 refine ovT [] [] Tryz.func91 rfl rfl (ArgG.mk (rh (x:=x) (by constructor<;>omega)) rfl ?_)
 rintro _ ⟨r0,hc,rfl⟩
 refine ArgG.mk (rh (x:=y) (by constructor<;>omega)) rfl ?_
 rintro _ ⟨r1,hd,rfl⟩
 refine⟨by kernel_rfl,cB (fun ha=>?_) (fun ha=>?_)⟩
 ·rw[b6,b6]at ha
  have hs:=ad_s ha
  have hls:=jj h
  refine ArgG.mk (U3 hc hd (by omega) (by omega)) rfl ?_
  rintro _ ⟨r2,he,rfl⟩
  refine ArgG.mk (pz (ng:=((bgI x).b_)) he (by omega)) rfl ?_
  rintro _ rfl
  refine⟨by kernel_rfl,⟨.inr rfl,_,Ng.cell rfl db rfl rfl rfl rfl rfl ⟨[],FzP.pure rfl⟩,?_⟩⟩
  rw[b6,hs.2]
 rw[b6,b6]at ha
 refine ArgG.mk (adz hc hd (by omega) (by omega)) rfl ?_
 rintro _ rfl
 refine cD (fun hb=>?_) (fun hb=>?_)
 ·rw[x6]at hb
  refine ArgG.mk (Gj hc hd (by omega) (by omega)) rfl ?_
  rintro _ ⟨r5,hf,rfl⟩
  refine ArgG.mk (pz (ng:=((bgI x).b_)) hf (by omega)) rfl ?_
  rintro _ rfl
  refine⟨by kernel_rfl,⟨.inr rfl,_,Ng.cell rfl db rfl rfl rfl rfl rfl ⟨[],FzP.pure rfl⟩,?_⟩⟩
  rw[b6,ad_g ha (by omega)]
 rw[x6]at hb
 refine ArgG.mk (Gj hd hc (by omega) (by omega)) rfl ?_
 rintro _ ⟨r7,hg,rfl⟩
 refine ArgG.mk (pz (ng:=((bgI y).b_)) hg (by omega)) rfl ?_
 rintro _ rfl
 refine⟨by kernel_rfl,⟨.inr rfl,_,Ng.cell rfl db rfl rfl rfl rfl rfl ⟨[],FzP.pure rfl⟩,?_⟩⟩
 rw[b6,ad_l ha (by omega)]
theorem Jo{x y:Int}(hx:B1 x)(hy:B1 y)(h:B1 (x-y)):PRet Tryz.prog 52 [.agg (bgA (bgI x)),.agg (bgA (bgI y))] (fun q=>q=.agg (bgA (bgI (x-y)))):=by
 refine ovT [] [] Tryz.func52 rfl rfl (ArgG.mk (zo (x:=y) (by constructor<;>omega)) rfl ?_)
 rintro _ rfl
 refine ArgG.mk (w5 (x:=x) (y:=(-y)) (by constructor<;>omega) (by constructor<;>omega) (by constructor<;>omega)) rfl ?_
 rintro _ rfl
 refine⟨by kernel_rfl,⟨.inr rfl,_,Ng.cell rfl db rfl rfl rfl rfl rfl ⟨[],FzP.pure rfl⟩,?_⟩⟩
 rw[show x+-y=x-y by omega]
theorem Gd(n:Int)(h:B1 n):PRet Tryz.prog 54 [.v (.int .i64 n)] (fun q=>q=.agg (bgA (bgI n))):=by
 have hh:=jj h
 refine ovT [6,11,12,13,14,19,20,22,24] [8] Tryz.func54 rfl rfl (OpG.lk (Hw Tryz.underlying2 Tryz.underlying12 rfl) ?_)
 refine cD (fun he=>?_) (fun he=>?_)
 ·refine⟨by omega,OpG.lk (u5 (r:=-(n+1)) rfl (by rw[IntKind.wrap_i64];omega)) ?_⟩
  refine OpG.lk (j5 Tryz.underlying2 Tryz.underlying12 rfl (by omega) (by omega)) (OpG.lk (Rj rfl rfl (by omega) (by omega)) ?_)
  refine OpG.nw (bo 1 Tryz.underlying27 sz3) rfl (LpG.on (fun k0:KDc=>(⟨fL [(0,.v (.int .i64 n)),(2,.ptr 0 0 0),(3,.v (.int .u64 k0.c)),(4,.sl 1 k0.k 0 k0.L.length)],hLz [(0,⟨0,[.v (.bool false),.v (.slice none 0 0)],0,false⟩),(1,⟨k0.k,rF iA k0.L,1,false⟩)],2⟩:St)) (fun k0=>(2-k0.k)) (fun k0=>(k0.k<=2/\OfI n k0)) (⟨0,[],aZ n⟩:KDc) (cO (.cons rfl rfl (.cons rfl rfl (.cons (by exact congrArg (fun z=>AV.v (.int .u64 z)) (by show _=aZ n;unfold aZ;first|(rw[ag1 he];omega)|(rw[ag0 he,IntKind.wrap_u64];omega))) rfl (.cons rfl rfl .nil)))) (.cons rfl rfl rfl (.cons rfl rfl (aa cz _ _) .nil))) ⟨ag5 _,Zg h⟩ ?_)
  rintro k0 hc
  obtain⟨hd,ha⟩:=hc
  obtain⟨hi,hj,hk,hl⟩:=ha.c
  have hm:=ha.l
  refine OpG.lk (lP rfl (fun _ _=>nofun) (fun _=>rfl)) (cD (fun hb=>?_) (fun hb=>?_))
  ·have hf:k0.k<2:=by omega
   refine OpG.lk (fm rfl rfl (by omega) (by decide)) (OpG.lk (bn (r:=k0.c%65536) Tryz.underlying12 Tryz.underlying3 rfl (by rw[IntKind.wrap_i64];omega)) ?_)
   refine OpG.mk _ _ _ 3 (c0 cz (l:=k0.L) (a:=(k0.c%65536)) Tryz.underlying27 sz3 zr3 by3 rfl rfl rfl (Src.sl rfl rfl rfl rfl rfl) rfl (by omega) (by omega) (by unfold TV;omega)) rfl rfl (OpG.lk (fo (r:=k0.c/65536) rfl rfl (by omega) (by decide) (by rw[IntKind.wrap_u64];omega)) ?_)
   refine⟨(⟨k0.k+1,k0.L++[k0.c%65536],k0.c/65536⟩:KDc),(by show 2-(k0.k+1)<2-k0.k;omega),(cO (.cons rfl rfl (.cons rfl rfl (.cons (by rfl) rfl (.cons rfl rfl .nil)))) (.cons rfl rfl rfl (.cons rfl rfl (aa cz _ _) .nil))),⟨by show k0.k+1<=_;omega,?_⟩⟩
   exact Ze ha hf hb
  have hg:=Zf ha hb
  refine RegG.via (fun _ h=>bm [1] 4 (.tree 1 (k0.L.map iA)) (fx cz (agx.2 rfl) rfl) rfl h) (aw ?_)
  refine ArgG.mk (pz (ng:=decide (n<0)) hg hh) rfl ?_
  rintro _ rfl
  refine⟨.inr rfl,_,Ng.cell rfl db rfl rfl rfl rfl rfl ⟨[],FzP.pure rfl⟩,?_⟩
  rfl
 refine OpG.nw (bo 1 Tryz.underlying27 sz3) rfl (LpG.on (fun k0:KDc=>(⟨fL [(0,.v (.int .i64 n)),(2,.ptr 0 0 0),(3,.v (.int .u64 k0.c)),(4,.sl 1 k0.k 0 k0.L.length)],hLz [(0,⟨0,[.v (.bool false),.v (.slice none 0 0)],0,false⟩),(1,⟨k0.k,rF iA k0.L,1,false⟩)],2⟩:St)) (fun k0=>(2-k0.k)) (fun k0=>(k0.k<=2/\OfI n k0)) (⟨0,[],aZ n⟩:KDc) (cO (.cons rfl rfl (.cons rfl rfl (.cons (by exact congrArg (fun z=>AV.v (.int .u64 z)) (by show _=aZ n;unfold aZ;first|(rw[ag1 he];omega)|(rw[ag0 he,IntKind.wrap_u64];omega))) rfl (.cons rfl rfl .nil)))) (.cons rfl rfl rfl (.cons rfl rfl (aa cz _ _) .nil))) ⟨ag5 _,Zg h⟩ ?_)
 rintro k0 hc
 obtain⟨hd,ha⟩:=hc
 obtain⟨hi,hj,hk,hl⟩:=ha.c
 have hm:=ha.l
 refine OpG.lk (lP rfl (fun _ _=>nofun) (fun _=>rfl)) (cD (fun hb=>?_) (fun hb=>?_))
 ·have hf:k0.k<2:=by omega
  refine OpG.lk (fm rfl rfl (by omega) (by decide)) (OpG.lk (bn (r:=k0.c%65536) Tryz.underlying12 Tryz.underlying3 rfl (by rw[IntKind.wrap_i64];omega)) ?_)
  refine OpG.mk _ _ _ 3 (c0 cz (l:=k0.L) (a:=(k0.c%65536)) Tryz.underlying27 sz3 zr3 by3 rfl rfl rfl (Src.sl rfl rfl rfl rfl rfl) rfl (by omega) (by omega) (by unfold TV;omega)) rfl rfl (OpG.lk (fo (r:=k0.c/65536) rfl rfl (by omega) (by decide) (by rw[IntKind.wrap_u64];omega)) ?_)
  refine⟨(⟨k0.k+1,k0.L++[k0.c%65536],k0.c/65536⟩:KDc),(by show 2-(k0.k+1)<2-k0.k;omega),(cO (.cons rfl rfl (.cons rfl rfl (.cons (by rfl) rfl (.cons rfl rfl .nil)))) (.cons rfl rfl rfl (.cons rfl rfl (aa cz _ _) .nil))),⟨by show k0.k+1<=_;omega,?_⟩⟩
  exact Ze ha hf hb
 have hg:=Zf ha hb
 refine RegG.via (fun _ h=>bm [1] 4 (.tree 1 (k0.L.map iA)) (fx cz (agx.2 rfl) rfl) rfl h) (aw ?_)
 refine ArgG.mk (pz (ng:=decide (n<0)) hg hh) rfl ?_
 rintro _ rfl
 refine⟨.inr rfl,_,Ng.cell rfl db rfl rfl rfl rfl rfl ⟨[],FzP.pure rfl⟩,?_⟩
 rfl
theorem Kt{x y:Int}(hx:B1 x)(hy:B1 y)(h:B1 (x*y)):PRet Tryz.prog 92 [.agg (bgA (bgI x)),.agg (bgA (bgI y))] (fun q=>q=.agg (bgA (bgI (x*y)))):=by
 have hc:=im x
 have hay:=im y
 have hlx:=jj hx
 have hly:=jj hy
 have hd:aZ y*aZ x<=4294967295:=by rw[Int.mul_comm,Ht];exact jj h
 refine ovT [13,23,27] [3] Tryz.func92 rfl rfl (ArgG.mk (rh (x:=x) (by constructor<;>omega)) rfl ?_)
 rintro _ ⟨r0,hj,rfl⟩
 refine ArgG.mk (rh (x:=y) (by constructor<;>omega)) rfl ?_
 rintro _ ⟨r1,hb,rfl⟩
 refine⟨by kernel_rfl,OpG.nw (bq (bo 3 Tryz.underlying27 sz3) (fun η' h=>bc (f:=iA) (l:=[]) (agx.2 rfl) h rfl rfl rfl rfl rfl (fun a _=>⟨rfl,rfl⟩))) rfl ?_⟩
 have hl1:=ro hb (by omega)
 refine aw (LenG.of ?_)
 refine⟨by omega,LpG.on (fun k0:KDc=>(⟨fL [(2,.ptr 0 0 0),(3,.ptr 1 0 0),(4,.ptr 2 0 0),(5,.tree 1 (r0.map iA)),(6,.tree 1 (r1.map iA)),(7,.tree 1 (k0.L.map iA)),(8,.v (.int .i64 ((r1.length:Int)-1-((k0.k:Nat):Int))))],hLz [(0,⟨0,bgA (bgI x),0,false⟩),(1,⟨0,bgA (bgI y),0,false⟩),(2,⟨0,[.v (.bool false),.v (.slice none 0 0)],0,false⟩)],4⟩:St)) (fun k0=>(r1.length-k0.k)) (fun k0=>(k0.k<=r1.length/\(Cn k0.L k0.c/\k0.c=vl (r1.drop (r1.length-k0.k))*aZ x))) (⟨0,[],0⟩:KDc) (cO (.cons rfl rfl (.cons rfl rfl (.cons rfl rfl (.cons rfl rfl (.cons rfl rfl (.cons rfl rfl (.cons (congrArg (fun z=>AV.v (.int .i64 z)) (by(show(r1.length:Int)-1=(r1.length:Int)-1-((0:Nat):Int);omega))) rfl .nil))))))) (.cons rfl rfl rfl (.cons rfl rfl rfl (.cons rfl rfl rfl .nil)))) ⟨ag5 _,⟨⟨rfl,fun x hx=>by simp at hx,rfl⟩,by simp[vl]⟩⟩ ?_⟩
 rintro k0 hf
 obtain⟨hle_k0,ha⟩:=hf
 refine cD (fun hg=>?_) (fun hg=>?_)
 ·have he:r1.length-1-k0.k<r1.length:=by omega
  have hk:=hb.d _ (ags he)
  have hh:=Vg (k:=r1.length-k0.k) hb hc hd
  rw[<-ha.2]at hh
  have hLl:=ro ha.1 (by omega)
  have hl:=Vg (k:=r1.length-1-k0.k) hb hc hd
  have hi:=Dd he
  have hrt:=acu hl hi (A6 (fun z hz=>hb.d z (List.mem_of_mem_drop hz))) hc
  refine OpG.mk _ _ _ 5 (Xq (jm cz (l:=([0]:List Int)) (l':=k0.L) Tryz.underlying27 sz3 zr3 by3 rfl rfl rfl rfl (by simp only[ahe,ahf];omega) (by simp only[ahe,ahf];omega) (by unfold TV;omega)) (fun η' h=>fx cz (agx.2 rfl) h)) rfl rfl (OpG.lk (cp Tryz.underlying27 sz3 rfl rfl (show((r1.length:Int)-1-((k0.k:Nat):Int))=(((r1.length-1-k0.k):Nat):Int)by omega) he) ?_)
  refine ArgG.mk (X9 hj (by omega) hk) rfl ?_
  rintro _ ⟨r2,hm,rfl⟩
  refine ArgG.mk (aed ha.1 hm (by omega) (by omega)) rfl ?_
  rintro _ ⟨r3,hr3,rfl⟩
  refine⟨by kernel_rfl,⟨by omega,?_⟩⟩
  refine⟨(⟨k0.k+1,r3,65536*k0.c+aZ x*(r1[r1.length-1-k0.k]'he)⟩:KDc),(by show r1.length-(k0.k+1)<r1.length-k0.k;omega),(cO (.cons rfl rfl (.cons rfl rfl (.cons rfl rfl (.cons rfl rfl (.cons rfl rfl (.cons rfl rfl (.cons (congrArg (fun z=>AV.v (.int .i64 z)) (by(show _=(r1.length:Int)-1-(((k0.k+1:Nat)):Int);omega))) rfl .nil))))))) (.cons rfl rfl rfl (.cons rfl rfl rfl (.cons rfl rfl rfl .nil)))),⟨by show k0.k+1<=_;omega,?_⟩⟩
  exact⟨by assumption,by show 65536*k0.c+_=vl (r1.drop (r1.length-(k0.k+1)))*aZ x;rw[show r1.length-(k0.k+1)=r1.length-1-k0.k by omega,hi,show r1.length-1-k0.k+1=r1.length-k0.k by omega,Int.add_mul,Int.mul_assoc,<-ha.2,Int.mul_comm (r1[_])];omega⟩
 have hh:=Vg (k:=r1.length-k0.k) hb hc hd
 rw[<-ha.2]at hh
 have hn:k0.k=r1.length:=by omega
 have ho:Cn k0.L (aZ x*aZ y):=by have h1:=ha.1;rw[ha.2,hn,Nat.sub_self,List.drop_zero,hb.v,Int.mul_comm]at h1;exact h1
 have hcm:aZ x*aZ y<=4294967295:=by rw[Int.mul_comm];exact hd
 refine ArgG.mk (pz (ng:=((bgI x).b_ !=(bgI y).b_)) ho (by omega)) rfl ?_
 rintro _ rfl
 refine⟨.inr rfl,_,Ng.cell rfl db rfl rfl rfl rfl rfl ⟨[],FzP.pure rfl⟩,?_⟩
 rw[show((bgI x).b_ !=(bgI y).b_)=(decide (x<0) !=decide (y<0))by rw[b6,b6],mu_s]
end Go.Proofs.YtbhhmbchdponjaaGreatDoor
