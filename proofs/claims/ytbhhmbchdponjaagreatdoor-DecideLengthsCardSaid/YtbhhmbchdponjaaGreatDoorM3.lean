/- Texts of the claim. -/
import Derived.Test.YtbhhmbchdponjaaGreatDoorM2
import Derived.Test.YtbhhmbchdponjaaGreatDoorQ2
namespace Go.Proofs.YtbhhmbchdponjaaGreatDoor
set_option maxRecDepth 1000000
set_option maxHeartbeats 0
set_option linter.unusedVariables false
set_option linter.unusedSimpArgs false
open Go.RowKit
structure KSq where
 k:Nat
 L:List Int
 R:List Int
 s:Int
 w:Int
def bt(k:Nat):Int:=32768/2^k
theorem acf(k:Nat):bt (k+1)=bt k/2:=by
 unfold bt;rw[Int.pow_succ,Int.ediv_ediv_of_nonneg (Int.le_of_lt (Int.pow_pos (by decide)))]
theorem Mn:∀{k:Nat},k<16->0<bt k/\bt k<=32768:=by decide
theorem agd:bt 16=0:=by decide
theorem W5:∀{k:Nat},k<16->(2:Int)^(16-k)=2*bt k/\(2:Int)^(16-(k+1))=bt k:=by decide
structure SqI(n:Int)(len i:Nat)(x D Q:Int)(hi:List Int)(s:KSq):Prop where
 l:s.L.length=len
 h:s.L.drop (i+1)=hi
 z:∀j,j<i->s.L.getD j 0=0
 q:s.L.getD i 0=s.w*2^(16-s.k)
 r:Cn s.R s.s
 b:0<=s.s/\s.s<n
 w:0<=s.w/\s.w<2^s.k
 v:D*2^s.k+x/2^(16-s.k)=n*(Q*2^s.k+s.w)+s.s
section
variable{n x D Q:Int}{len i:Nat}{hi:List Int}{s:KSq}
theorem R6(h:SqI n len i x D Q hi s)(hk:s.k<16)(hx:0<=x):D*2^(s.k+1)+x/2^(16-(s.k+1))=2*(n*(Q*2^s.k+s.w)+s.s)+(x/bt s.k)%2:=by
 have hv:=h.v
 obtain⟨e1,e2⟩:=W5 hk
 obtain⟨p1,p2⟩:=Mn hk
 rw[e1]at hv
 rw[e2,<-hv,Int.pow_succ]
 have e3:x/(2*bt s.k)=x/bt s.k/2:=by rw[Int.mul_comm,Int.ediv_ediv_of_nonneg (Int.le_of_lt p1)]
 rw[e3]
 have:D*(2^s.k*2)=2*(D*2^s.k):=by rw[<-Int.mul_assoc,Int.mul_comm]
 rw[this]
 omega
theorem Yh(h:SqI n len i x D Q hi s)(hk:s.k<16)(hx:0<=x){R:List Int}{t:Int}(hR:Cn R t)(ht:t=2*s.s+(x/bt s.k)%2)(hn:t<n):SqI n len i x D Q hi ⟨s.k+1,s.L,R,t,2*s.w⟩:=by
 obtain⟨e1,e2⟩:=W5 hk
 have hb:=h.b
 have hw:=h.w
 refine⟨h.l,h.h,h.z,?_,hR,⟨aau hR,hn⟩,⟨by show 0<=2*s.w;omega,by show 2*s.w<2^(s.k+1);rw[Int.pow_succ];omega⟩,?_⟩
 ·show s.L.getD i 0=2*s.w*2^(16-(s.k+1))
  rw[h.q,e1,e2,<-Int.mul_assoc,Int.mul_comm s.w 2]
 ·show D*2^(s.k+1)+x/2^(16-(s.k+1))=n*(Q*2^(s.k+1)+2*s.w)+t
  rw[R6 h hk hx,Int.pow_succ]
  have:Q*(2^s.k*2)+2*s.w=2*(Q*2^s.k+s.w):=by rw[<-Int.mul_assoc];omega
  rw[this,Int.mul_left_comm];omega
theorem R5(h:SqI n len i x D Q hi s)(hk:s.k<16)(hx:0<=x)(hil:i<len){R:List Int}{t:Int}(hR:Cn R (t-n))(ht:t=2*s.s+(x/bt s.k)%2)(hn:n<=t):SqI n len i x D Q hi ⟨s.k+1,s.L.set i (s.L.getD i 0+bt s.k),R,t-n,2*s.w+1⟩:=by
 obtain⟨e1,e2⟩:=W5 hk
 have hb:=h.b
 have hw:=h.w
 have hl:=h.l
 refine⟨by show(s.L.set _ _).length=_;rw[List.length_set];exact hl,?_,fun j hj=>?_,?_,hR,⟨aau hR,by show t-n<n;omega⟩,⟨by show 0<=2*s.w+1;omega,by show 2*s.w+1<2^(s.k+1);rw[Int.pow_succ];omega⟩,?_⟩
 ·show(s.L.set i _).drop (i+1)=hi
  rw[List.drop_set_of_lt (by omega)];exact h.h
 ·show(s.L.set i _).getD j 0=0
  rw[List.getD_eq_getElem?_getD,List.getElem?_set_ne (by omega),<-List.getD_eq_getElem?_getD];exact h.z j hj
 ·show(s.L.set i _).getD i 0=(2*s.w+1)*2^(16-(s.k+1))
  rw[e2]
  have:(s.L.set i (s.L.getD i 0+bt s.k)).getD i 0=s.L.getD i 0+bt s.k:=by simp[List.getD,List.getElem?_set_self (show i<s.L.length by omega)]
  rw[this,h.q,e1,Int.add_mul,Int.one_mul,<-Int.mul_assoc,Int.mul_comm s.w 2]
 ·show D*2^(s.k+1)+x/2^(16-(s.k+1))=n*(Q*2^(s.k+1)+(2*s.w+1))+(t-n)
  rw[R6 h hk hx,Int.pow_succ]
  have:Q*(2^s.k*2)+(2*s.w+1)=2*(Q*2^s.k+s.w)+1:=by rw[<-Int.mul_assoc];omega
  have e:n*(2*(Q*2^s.k+s.w)+1)=2*(n*(Q*2^s.k+s.w))+n:=by rw[Int.mul_add,Int.mul_one,Int.mul_left_comm]
  rw[this,e];omega
end
theorem agb{k:Nat}(h:k<=16)(g:bt k>0):k<16:=by
 rcases Nat.lt_or_eq_of_le h with e|e
 ·exact e
 rw[e,agd]at g;exact absurd g (by decide)
theorem agc{k:Nat}(h:k<=16)(g:¬bt k>0):k=16:=by
 rcases Nat.lt_or_eq_of_le h with e|e
 ·exact absurd (Mn e).1 g
 exact e
theorem Yg{n x D Q:Int}{len i:Nat}{hi:List Int}{s:KSq}(h:SqI n len i x D Q hi s)(hk:s.k<=16):0<=s.L.getD i 0/\s.L.getD i 0<=65535:=by
 have hw:=h.w
 have p:(0:Int)<2^(16-s.k):=Int.pow_pos (by decide)
 have e:(2:Int)^s.k*2^(16-s.k)=65536:=by rw[<-Int.pow_add,show s.k+(16-s.k)=16 by omega];decide
 have h1:=Int.mul_le_mul_of_nonneg_right (show s.w+1<=2^s.k by omega) (Int.le_of_lt p)
 rw[e,Int.add_mul,Int.one_mul]at h1
 rw[h.q]
 exact⟨Int.mul_nonneg hw.1 (Int.le_of_lt p),by omega⟩
structure SoI(a:List Int)(n:Int)(s:KSq):Prop where
 l:s.L.length=a.length
 z:∀j,j+s.k<a.length->s.L.getD j 0=0
 d:Dh (s.L.drop (a.length-s.k))
 r:Cn s.R s.s
 b:0<=s.s/\s.s<n
 v:vl (a.drop (a.length-s.k))=n*vl (s.L.drop (a.length-s.k))+s.s
theorem so_0{a:List Int}{n:Int}(hn:1<=n):SoI a n ⟨0,List.replicate a.length 0,[],0,0⟩:=
 ⟨by simp,fun j hj=>by simp[List.getD_eq_getElem?_getD,List.getElem?_replicate,show j<a.length by omega],fun x hx=>by simp at hx,⟨rfl,fun x hx=>by simp at hx,rfl⟩,⟨Int.le_refl _,by show 0<n;omega⟩,by simp[vl]⟩
theorem ac7{a:List Int}{n:Int}{s:KSq}(h:SoI a n s)(hk:s.k<a.length)(ha:Dh a)(hl:a.length-1-s.k<a.length):SqI n a.length (a.length-1-s.k) a[a.length-1-s.k] (vl (a.drop (a.length-s.k))) (vl (s.L.drop (a.length-s.k))) (s.L.drop (a.length-s.k)) ⟨0,s.L,s.R,s.s,0⟩:=by
 have e:a.length-1-s.k+1=a.length-s.k:=by omega
 have hx:=ha _ (ags hl)
 refine⟨h.l,by show s.L.drop _=_;rw[e],fun j hj=>h.z j (by omega),?_,h.r,h.b,⟨by show(0:Int)<=0;decide,by show(0:Int)<2^0;decide⟩,?_⟩
 ·show s.L.getD _ 0=0*_
  rw[h.z _ (by omega),Int.zero_mul]
 show vl _*2^0+_/2^16=n*(vl _*2^0+0)+s.s
 have e2:a[a.length-1-s.k]/2^16=0:=by show _/(65536:Int)=0;omega
 rw[e2,Int.pow_zero,Int.mul_one,Int.mul_one,Int.add_zero,Int.add_zero];exact h.v
theorem Yi{a:List Int}{n:Int}{s t:KSq}(h:SoI a n s)(hk:s.k<a.length)(hl:a.length-1-s.k<a.length)(g:SqI n a.length (a.length-1-s.k) a[a.length-1-s.k] (vl (a.drop (a.length-s.k))) (vl (s.L.drop (a.length-s.k))) (s.L.drop (a.length-s.k)) t)(ht:t.k=16):SoI a n ⟨s.k+1,t.L,t.R,t.s,0⟩:=by
 have e:a.length-1-s.k+1=a.length-s.k:=by omega
 have e':a.length-(s.k+1)=a.length-1-s.k:=by omega
 have ha:=Yg g (by omega)
 have hb:=g.l
 have hg:t.L.getD (a.length-1-s.k) 0=t.L[a.length-1-s.k]'(by omega):=Aa (by omega)
 have hq:=g.q
 have hv:=g.v
 rw[ht]at hq hv
 rw[hg]at hq ha
 refine⟨hb,fun j hj=>g.z j (by have:j+(s.k+1)<a.length:=hj;omega),?_,g.r,g.b,?_⟩
 ·show Dh (t.L.drop (a.length-(s.k+1)))
  rw[e',ahm (by omega),e]
  intro x hx
  rcases ahi.1 hx with rfl|hx
  ·exact ha
  have h9:=g.h;rw[e]at h9;rw[h9]at hx;exact h.d x hx
 show vl (a.drop (a.length-(s.k+1)))=n*vl (t.L.drop (a.length-(s.k+1)))+t.s
 rw[e',Dd hl,Dd (r:=t.L) (by omega),e]
 have h9:=g.h;rw[e]at h9
 rw[h9,hq]
 have p0:(2:Int)^(16-16)=1:=by decide
 have p1:(2:Int)^16=65536:=by decide
 rw[p0,p1,Int.ediv_one]at hv
 rw[p0,Int.mul_one]
 have:t.w+65536*vl (s.L.drop (a.length-s.k))=vl (s.L.drop (a.length-s.k))*65536+t.w:=by omega
 rw[this];omega
theorem so_e{a:List Int}{m n:Int}{s:KSq}(h:SoI a n s)(hk:s.k=a.length)(ha:Cn a m):Cn (dtr s.L) (m/n)/\Cn s.R (m%n):=by
 have hv:=h.v
 have hd:=h.d
 rw[hk,Nat.sub_self,List.drop_zero,List.drop_zero,ha.v]at hv
 rw[hk,Nat.sub_self,List.drop_zero]at hd
 have hb:=h.b
 have hn:0<n:=by omega
 have e:=(Int.ediv_emod_unique (a:=m) (r:=s.s) (q:=vl s.L) hn).2 ⟨by omega,hb.1,hb.2⟩
 exact⟨Cq hd e.1.symm,e.2▸h.r⟩
theorem adh:ej Tryz.prog 3=some none:=by kernel_rfl
theorem adr{r:List Int}{m:Int}(h:Cn r m)(hm:m<=8589934590):PRet Tryz.prog 123 [.tree 1 (r.map iA),.tree 1 (([1]:List Int).map iA)] (fun q=>∃r',Cn r' (m+1)/\q=.tree 1 (r'.map iA)):=
 U3 h ⟨rfl,fun x hx=>by rw[agx.1 hx];exact⟨by decide,by decide⟩,rfl⟩ hm (by decide)
theorem Up(a:List Int)(ha:ip a (fun y=>True))(b:List Int)(hb:ip b (fun y=>True)){m n:Int}(hr:Cn a m)(hn:Cn b n)(hsa:a.length<=400)(hx:1<=n)(hn2:n<=4294967295):PRet Tryz.prog 127 [.tree 1 (a.map iA),.tree 1 (b.map iA)] (fun q=>∃u v,Cn u (m/n)/\Cn v (m%n)/\q=.tup [.tree 1 (u.map iA),.tree 1 (v.map iA)]):=by
 have hs:=hr.d
 refine ovT [12,13,24,30,33,34,37,48,49,52,100052] [12,14] Tryz.func127 rfl rfl (LenG.of ?_)
 refine OpG.nw (pf (len:=a.length) cz 0 Tryz.underlying27 sz3 zr3 by3 rfl rfl rfl rfl rfl (by omega) (by omega)) rfl (OpG.nw (bq (bo 1 Tryz.underlying27 sz3) (fun η' h=>bc (f:=iA) (l:=[]) (agx.2 rfl) h rfl rfl rfl rfl rfl (fun a _=>⟨rfl,rfl⟩))) rfl ?_)
 refine LenG.of ⟨by omega,LpG.on (fun k0:KSq=>(⟨fL [(0,.tree 1 (a.map iA)),(1,.tree 1 (b.map iA)),(6,.sl 0 0 0 a.length),(7,.tree 1 (k0.R.map iA)),(8,.v (.int .i64 ((a.length:Int)-1-((k0.k:Nat):Int))))],hLz [(0,⟨0,rF iA k0.L,1,false⟩)],2⟩:St)) (fun k0=>(a.length-k0.k)) (fun k0=>(k0.k<=a.length/\SoI a n k0)) (⟨0,List.replicate a.length 0,[],0,0⟩:KSq) (cO (.cons rfl rfl (.cons rfl rfl (.cons rfl rfl (.cons rfl rfl (.cons (congrArg (fun z=>AV.v (.int .i64 z)) (by(show(a.length:Int)-1=(a.length:Int)-1-((0:Nat):Int);omega))) rfl .nil))))) (.cons rfl rfl (aa cz _ _) .nil)) ⟨ag5 _,so_0 hx⟩ ?_⟩
 rintro k0 hi
 have hgr_k0:a.length<=140737488355328:=ha.1
 obtain⟨hle_k0,hf⟩:=hi
 refine cD (fun ho=>?_) (fun ho=>?_)
 ·have ht:k0.k<a.length:=by omega
  have hg:a.length-1-k0.k<a.length:=by omega
  have hj:=hs _ (ags hg)
  refine LpG.on (fun k2:KSq=>(⟨fL [(0,.tree 1 (a.map iA)),(1,.tree 1 (b.map iA)),(6,.sl 0 0 0 a.length),(7,.tree 1 (k2.R.map iA)),(8,.v (.int .i64 ((a.length:Int)-1-((k0.k:Nat):Int)))),(9,.v (.int .i64 (bt k2.k)))],hLz [(0,⟨0,rF iA k2.L,1,false⟩)],2⟩:St)) (fun k2=>(16-k2.k)) (fun k2=>(k2.k<=16/\SqI n a.length (a.length-1-k0.k) a[a.length-1-k0.k] (vl (a.drop (a.length-k0.k))) (vl (k0.L.drop (a.length-k0.k))) (k0.L.drop (a.length-k0.k)) k2)) (⟨0,k0.L,k0.R,k0.s,0⟩:KSq) (cO (.cons rfl rfl (.cons rfl rfl (.cons rfl rfl (.cons rfl rfl (.cons rfl rfl (.cons (congrArg (fun z=>AV.v (.int .i64 z)) (by exact(show(32768:Int)=bt 0 by decide))) rfl .nil)))))) (.cons rfl rfl (aa cz _ _) .nil)) ⟨ag5 _,ac7 hf ht hs hg⟩ ?_
  rintro k2 hi
  obtain⟨hd,hc⟩:=hi
  refine cD (fun hl=>?_) (fun hl=>?_)
  ·have hk:=agb hd hl
   have hbp:=Mn hk
   have hu:=hc.r
   have hb2:=hc.b
   have hy:0<=a[a.length-1-k0.k]/bt k2.k:=Int.ediv_nonneg hj.1 (by omega)
   have hq1:a[a.length-1-k0.k]/bt k2.k<=a[a.length-1-k0.k]:=Int.ediv_le_self _ hj.1
   have hv:=Yg hc hd
   refine ArgG.mk (U3 hu hu (by omega) (by omega)) rfl ?_
   rintro _ ⟨r0,hp,rfl⟩
   refine OpG.lk (cp Tryz.underlying27 sz3 rfl rfl (show((a.length:Int)-1-((k0.k:Nat):Int))=(((a.length-1-k0.k):Nat):Int)by omega) hg) (OpG.lk (fo (r:=(a[a.length-1-k0.k]'hg)/bt k2.k) rfl rfl hj.1 (by omega) (by rw[IntKind.wrap_i64];omega)) ?_)
   refine OpG.lk (fm rfl rfl hy (by decide)) (cE (fun hq=>?_) (fun hq=>?_))
   ·refine OpG.nw (bq (cj Tryz.underlying27 sz3 zr3 rfl rfl rfl rfl) (fun η' h=>bc (f:=iA) (l:=([1]:List Int)) (agx.2 rfl) h rfl rfl rfl rfl rfl (fun a _=>⟨rfl,rfl⟩))) rfl (ArgG.mk (adr hp (by omega)) rfl ?_)
    rintro _ ⟨r1,hw,rfl⟩
    refine ArgG.mk (adz hw hn (by omega) (by omega)) rfl ?_
    rintro _ rfl
    refine cD (fun he=>?_) (fun he=>?_)
    ·rw[x6]at he
     have hh:a.length-1-k0.k<k2.L.length:=by rw[hc.l];exact hg
     have hm:k2.L.getD (a.length-1-k0.k) 0=k2.L[a.length-1-k0.k]:=Aa hh
     rw[hm]at hv
     refine aw (ArgG.mk (Gj hw hn (by omega) (by omega)) rfl ?_)
     rintro _ ⟨r3,hr3,rfl⟩
     refine OpG.lk (de (i:=(a.length-1-k0.k)) Tryz.underlying27 sz3 rfl rfl (show((a.length:Int)-1-((k0.k:Nat):Int))=(((a.length-1-k0.k):Nat):Int)by omega) hg rfl) (OpG.lk (te cz (L:=k2.L) (i:=(a.length-1-k0.k)) adh rfl rfl hh rfl) ?_)
     refine⟨by omega,OpG.lk (de (i:=(a.length-1-k0.k)) Tryz.underlying27 sz3 rfl rfl (show((a.length:Int)-1-((k0.k:Nat):Int))=(((a.length-1-k0.k):Nat):Int)by omega) hg rfl) ?_⟩
     refine OpG.wr (er cz sz3 rfl rfl rfl rfl rfl rfl hh) rfl (OpG.lk (fo (r:=bt k2.k/2) rfl rfl (by omega) (by decide) (by rw[IntKind.wrap_i64];omega)) ?_)
     refine⟨(⟨k2.k+1,k2.L.set (a.length-1-k0.k) ((k2.L[a.length-1-k0.k]'hh)+bt k2.k),r3,((k2.s+k2.s)+1)-n,2*k2.w+1⟩:KSq),(by show 16-(k2.k+1)<16-k2.k;omega),(cO (.cons rfl rfl (.cons rfl rfl (.cons rfl rfl (.cons rfl rfl (.cons rfl rfl (.cons (congrArg (fun z=>AV.v (.int .i64 z)) (by exact(acf _).symm)) rfl .nil)))))) (.cons rfl rfl (aa cz _ _) .nil)),⟨by show k2.k+1<=_;omega,?_⟩⟩
     (rw[<-hm];exact R5 hc hk hj.1 hg ‹_› (by omega) (by omega))
    rw[x6]at he
    refine OpG.lk (fo (r:=bt k2.k/2) rfl rfl (by omega) (by decide) (by rw[IntKind.wrap_i64];omega)) ⟨(⟨k2.k+1,k2.L,r1,((k2.s+k2.s)+1),2*k2.w⟩:KSq),(by show 16-(k2.k+1)<16-k2.k;omega),(cO (.cons rfl rfl (.cons rfl rfl (.cons rfl rfl (.cons rfl rfl (.cons rfl rfl (.cons (congrArg (fun z=>AV.v (.int .i64 z)) (by exact(acf _).symm)) rfl .nil)))))) (.cons rfl rfl (aa cz _ _) .nil)),⟨by show k2.k+1<=_;omega,?_⟩⟩
    exact Yh hc hk hj.1 ‹_› (by omega) (by omega)
   refine ArgG.mk (adz hp hn (by omega) (by omega)) rfl ?_
   rintro _ rfl
   refine cD (fun he=>?_) (fun he=>?_)
   ·rw[x6]at he
    have hh:a.length-1-k0.k<k2.L.length:=by rw[hc.l];exact hg
    have hm:k2.L.getD (a.length-1-k0.k) 0=k2.L[a.length-1-k0.k]:=Aa hh
    rw[hm]at hv
    refine aw (ArgG.mk (Gj hp hn (by omega) (by omega)) rfl ?_)
    rintro _ ⟨r5,hr5,rfl⟩
    refine OpG.lk (de (i:=(a.length-1-k0.k)) Tryz.underlying27 sz3 rfl rfl (show((a.length:Int)-1-((k0.k:Nat):Int))=(((a.length-1-k0.k):Nat):Int)by omega) hg rfl) (OpG.lk (te cz (L:=k2.L) (i:=(a.length-1-k0.k)) adh rfl rfl hh rfl) ?_)
    refine⟨by omega,OpG.lk (de (i:=(a.length-1-k0.k)) Tryz.underlying27 sz3 rfl rfl (show((a.length:Int)-1-((k0.k:Nat):Int))=(((a.length-1-k0.k):Nat):Int)by omega) hg rfl) ?_⟩
    refine OpG.wr (er cz sz3 rfl rfl rfl rfl rfl rfl hh) rfl (OpG.lk (fo (r:=bt k2.k/2) rfl rfl (by omega) (by decide) (by rw[IntKind.wrap_i64];omega)) ?_)
    refine⟨(⟨k2.k+1,k2.L.set (a.length-1-k0.k) ((k2.L[a.length-1-k0.k]'hh)+bt k2.k),r5,(k2.s+k2.s)-n,2*k2.w+1⟩:KSq),(by show 16-(k2.k+1)<16-k2.k;omega),(cO (.cons rfl rfl (.cons rfl rfl (.cons rfl rfl (.cons rfl rfl (.cons rfl rfl (.cons (congrArg (fun z=>AV.v (.int .i64 z)) (by exact(acf _).symm)) rfl .nil)))))) (.cons rfl rfl (aa cz _ _) .nil)),⟨by show k2.k+1<=_;omega,?_⟩⟩
    (rw[<-hm];exact R5 hc hk hj.1 hg ‹_› (by omega) (by omega))
   rw[x6]at he
   refine OpG.lk (fo (r:=bt k2.k/2) rfl rfl (by omega) (by decide) (by rw[IntKind.wrap_i64];omega)) ⟨(⟨k2.k+1,k2.L,r0,(k2.s+k2.s),2*k2.w⟩:KSq),(by show 16-(k2.k+1)<16-k2.k;omega),(cO (.cons rfl rfl (.cons rfl rfl (.cons rfl rfl (.cons rfl rfl (.cons rfl rfl (.cons (congrArg (fun z=>AV.v (.int .i64 z)) (by exact(acf _).symm)) rfl .nil)))))) (.cons rfl rfl (aa cz _ _) .nil)),⟨by show k2.k+1<=_;omega,?_⟩⟩
   exact Yh hc hk hj.1 ‹_› (by omega) (by omega)
  have hk:=agc hd hl
  refine⟨by omega,⟨(⟨k0.k+1,k2.L,k2.R,k2.s,0⟩:KSq),(by show a.length-(k0.k+1)<a.length-k0.k;omega),(cO (.cons rfl rfl (.cons rfl rfl (.cons rfl rfl (.cons rfl rfl (.cons (congrArg (fun z=>AV.v (.int .i64 z)) (by(show _=(a.length:Int)-1-(((k0.k+1:Nat)):Int);omega))) rfl .nil))))) (.cons rfl rfl (aa cz _ _) .nil)),?_⟩⟩
  exact⟨by show k0.k+1<=_;omega,Yi hf ht hg hc hk⟩
 have g0:=hf.l
 refine RegG.via (fun _ h=>bm [0] 6 (.tree 1 (k0.L.map iA)) (b7 cz (agx.2 rfl) rfl g0.symm) rfl h) (aw ?_)
 refine ArgG.mk (ny k0.L (dw (by omega)) (by omega)) rfl ?_
 rintro _ rfl
 refine⟨.inr rfl,_,Ng.two rfl (Uc.tmp ⟨[],FzP.pure rfl⟩) (Uc.tmp ⟨[],FzP.pure rfl⟩),?_⟩
 have hz:=so_e hf (by omega) hr
 exact⟨_,_,hz.1,hz.2,rfl⟩
def dq(x y:Int):Int:=if(decide (x<0) !=decide (y<0))then -(aZ x/aZ y)else aZ x/aZ y
def dr(x y:Int):Int:=if x<0 then -(aZ x%aZ y)else aZ x%aZ y
section
variable{x y:Int}
theorem dq_I(hy1:1<=aZ y):bgS ((bgI x).b_ !=(bgI y).b_) (aZ x/aZ y)=bgI (dq x y):=by
 have q0:=Int.ediv_nonneg (im x) (show 0<=aZ y by omega)
 rw[b6,b6]
 unfold dq
 generalize aZ x/aZ y=Q at*
 by_cases h:(decide (x<0) !=decide (y<0))=true
 ·rw[ag1 h];exact nq (by unfold aZ;split<;>omega) fun _=>by rw[h];symm;rw[decide_eq_true_iff];omega
 rw[ag0 h];exact nq (by unfold aZ;split<;>omega) fun _=>by rw[Bool.eq_false_iff.2 h];symm;rw[decide_eq_false_iff_not];omega
theorem dr_I(hy1:1<=aZ y):bgS (bgI x).b_ (aZ x%aZ y)=bgI (dr x y):=by
 have e2:=Int.emod_nonneg (aZ x) (show aZ y≠0 by omega)
 rw[b6]
 unfold dr
 generalize aZ x%aZ y=R at*
 by_cases h:x<0
 ·rw[ag1 h];exact nq (by unfold aZ;split<;>omega) fun _=>decide_eq_decide.2 (by omega)
 rw[ag0 h];exact nq (by unfold aZ;split<;>omega) fun _=>decide_eq_decide.2 (by omega)
theorem dq_n(ha:1<=aZ y)(h:¬(dr x y≠0/\sgZ (dr x y)≠sgZ y)):dq x y=flD x y/\dr x y=flM x y:=by
 have e2:=Int.emod_nonneg (aZ x) (show aZ y≠0 by omega)
 have hb:y≠0:=fun e=>by rw[e]at ha;exact absurd ha (by decide)
 unfold dq flD flM
 unfold dr sgZ at*
 generalize aZ x/aZ y=Q at*
 generalize aZ x%aZ y=R at*
 by_cases gx:x<0<;>by_cases gy:y<0<;>simp only[gx,gy,decide_true,decide_false,bne_self_eq_false,Bool.true_bne,Bool.false_bne,Bool.not_false,Bool.not_true,Bool.false_eq_true,if_true,if_false,hb]at h ⊢
 ·exact⟨trivial,trivial⟩
 ·by_cases r:R=0
  ·simp[r]
  exact absurd ⟨by omega,by rw[ag0 (by omega),ag1 (by omega)];decide⟩ h
 ·by_cases r:R=0
  ·simp[r]
  exact absurd ⟨by omega,by rw[ag0 (by omega),ag0 (by omega)];decide⟩ h
 exact⟨trivial,trivial⟩
theorem afr(ha:1<=aZ y)(h1:dr x y≠0)(h2:sgZ (dr x y)≠sgZ y):dq x y-1=flD x y/\dr x y+y=flM x y/\aZ x%aZ y≠0/\(decide (x<0) !=decide (y<0))=true:=by
 have e2:=Int.emod_nonneg (aZ x) (show aZ y≠0 by omega)
 have hb:y≠0:=fun e=>by rw[e]at ha;exact absurd ha (by decide)
 have ey:aZ y=if y<0 then -y else y:=rfl
 unfold dq flD flM
 unfold dr sgZ at*
 generalize aZ x/aZ y=Q at*
 generalize aZ x%aZ y=R at*
 by_cases gx:x<0<;>by_cases gy:y<0<;>simp only[gx,gy,decide_true,decide_false,bne_self_eq_false,Bool.true_bne,Bool.false_bne,Bool.not_false,Bool.not_true,Bool.false_eq_true,if_true,if_false,hb]at h1 h2 ey ⊢
 ·exact absurd (by rw[ag0 (by omega),ag1 (by omega)]) h2
 ·have r:R≠0:=by omega
  rw[ag0 r,ag0 r];refine⟨by omega,by omega,r,trivial⟩
 ·rw[ag0 h1,ag0 h1];refine⟨by omega,by omega,h1,trivial⟩
 exact absurd (by rw[ag0 (by omega),ag0 (by omega)]) h2
theorem Yz(hx:B1 x)(hy1:1<=aZ y)(r0:aZ x%aZ y≠0):aZ x/aZ y<=2147483647:=by
 have hlx:=jj hx
 have q0:=Int.ediv_nonneg (im x) (show 0<=aZ y by omega)
 have e1:=Int.mul_ediv_add_emod (aZ x) (aZ y)
 have e2:=Int.emod_nonneg (aZ x) (show aZ y≠0 by omega)
 have ha:2<=aZ y:=by
  rcases Int.lt_or_le 1 (aZ y)with g|g
  ·omega
  ·have e:aZ y=1:=by omega
   rw[e]at r0;exact absurd (Int.emod_one _) r0
 have e3:2*(aZ x/aZ y)<=aZ y*(aZ x/aZ y):=Int.mul_le_mul_of_nonneg_right ha q0
 omega
theorem afq(hx:B1 x)(hy:B1 y)(hy1:1<=aZ y):B1 (dq x y)/\B1 (dr x y):=by
 have hlx:=jj hx
 have q0:=Int.ediv_nonneg (im x) (show 0<=aZ y by omega)
 have q1:=Int.ediv_le_self (aZ y) (im x)
 have e2:=Int.emod_nonneg (aZ x) (show aZ y≠0 by omega)
 have e3:=Int.emod_lt_of_pos (aZ x) (show 0<aZ y by omega)
 have hly:=jj hy
 unfold dq dr
 generalize aZ x/aZ y=Q at*
 generalize aZ x%aZ y=R at*
 constructor<;>(split<;>constructor<;>omega)
theorem afp(hx:B1 x)(hy:B1 y)(ha:1<=aZ y)(h1:dr x y≠0)(h2:sgZ (dr x y)≠sgZ y):B1 (dq x y-1)/\B1 (dr x y+y):=by
 obtain⟨_,_,r0,hs⟩:=afr ha h1 h2
 have hh:=Yz hx ha r0
 have q0:=Int.ediv_nonneg (im x) (show 0<=aZ y by omega)
 have e2:=Int.emod_nonneg (aZ x) (show aZ y≠0 by omega)
 have e3:=Int.emod_lt_of_pos (aZ x) (show 0<aZ y by omega)
 have hly:=jj hy
 have ey:aZ y=if y<0 then -y else y:=rfl
 have hd:¬(x<0↔y<0):=by simpa using hs
 unfold dq dr
 rw[ag1 hs]
 generalize aZ x/aZ y=Q at*
 generalize aZ x%aZ y=R at*
 refine⟨by constructor<;>omega,?_⟩
 split<;>split at ey<;>constructor<;>omega
end
theorem Eg{x y:Int}(hx:B1 x)(hy:B1 y)(hk:y≠0):PRet Tryz.prog 93 [.agg (bgA (bgI x)),.agg (bgA (bgI y))] (fun q=>q=.tup [.agg (bgA (bgI (flD x y))),.agg (bgA (bgI (flM x y))),.v (.bool true)]):=by
 have hl:=im x
 have ho:=im y
 have hp:=jj hx
 have hs:=jj hy
 have hd:1<=aZ y:=by have:aZ y≠0:=fun e=>hk (aZ_0.1 e);omega
 have hq:0<=aZ x/aZ y/\aZ x/aZ y<=4294967295:=⟨Int.ediv_nonneg hl ho,Int.le_trans (Int.ediv_le_self _ hl) hp⟩
 have hr:0<=aZ x%aZ y/\aZ x%aZ y<=4294967295:=⟨Int.emod_nonneg _ (by omega),by have:=Int.emod_lt_of_pos (aZ x) (show 0<aZ y by omega);omega⟩
 obtain⟨ht,hw⟩:=afq hx hy hd
 have hb:=And.intro ht hw
 refine ovT [] [7] Tryz.func93 rfl rfl (ArgG.mk (lj (x:=y) ‹_›) rfl ?_)
 rintro _ rfl
 refine cB (fun he=>?_) (fun he=>?_)
 ·exact absurd he (by have h:sgZ y≠0:=(by unfold sgZ;rw[ag0 hk];split<;>decide);simpa using h)
 have hq13:¬(((sgZ y):Int)=(0:Int)):=by simpa using he
 refine ArgG.mk (rh (x:=x) (by constructor<;>omega)) rfl ?_
 rintro _ ⟨r1,hf,rfl⟩
 refine ArgG.mk (rh (x:=y) (by constructor<;>omega)) rfl ?_
 rintro _ ⟨r2,hm,rfl⟩
 refine ArgG.mk (Up r1 (dw (aha (ro hf (show aZ x<=8589934590 by omega)) (show 3<=5000 by decide))) r2 (dw (aha (ro hm (show aZ y<=8589934590 by omega)) (show 3<=5000 by decide))) hf hm (aha (ro hf (show aZ x<=8589934590 by omega)) (show 3<=400 by decide)) hd hs) rfl ?_
 rintro _ ⟨u,v,hu,hv,rfl⟩
 refine⟨by kernel_rfl,ArgG.mk ((show PRet Tryz.prog 95 [.v (.bool ((bgI x).b_ !=(bgI y).b_)),.tree 1 (u.map iA)] (fun q=>q=.agg (bgA (bgI (dq x y))))from dq_I (x:=x) hd▸pz hu (by omega))) rfl ?_⟩
 rintro _ rfl
 refine ArgG.mk ((show PRet Tryz.prog 95 [.v (.bool (bgI x).b_),.tree 1 (v.map iA)] (fun q=>q=.agg (bgA (bgI (dr x y))))from dr_I (x:=x) hd▸pz hv (by omega))) rfl ?_
 rintro _ rfl
 refine ArgG.mk (lj (x:=(dr x y)) ‹_›) rfl ?_
 rintro _ rfl
 refine cB (fun ha=>?_) (fun ha=>?_)
 ·have hg:¬(((sgZ ((dr x y))):Int)=(0:Int)):=by simpa using ha
  refine ArgG.mk (lj (x:=(dr x y)) ‹_›) rfl ?_
  rintro _ rfl
  refine ArgG.mk (lj (x:=y) ‹_›) rfl ?_
  rintro _ rfl
  refine⟨by kernel_rfl,cB (fun hc=>?_) (fun hc=>?_)⟩
  ·have hh:¬(((sgZ ((dr x y))):Int)=((sgZ y):Int)):=by simpa using hc
   have hi:dr x y≠0:=fun e=>by have h:¬sgZ (dr x y)=0:=‹_›;rw[e]at h;exact h rfl
   have hj:sgZ (dr x y)≠sgZ y:=by assumption
   have hn:=afp hx hy hd hi hj
   refine aw (ArgG.mk (Gd 1 ⟨by decide,by decide⟩) rfl ?_)
   rintro _ rfl
   refine ArgG.mk (Jo (x:=dq x y) (y:=1) hb.1 ⟨by decide,by decide⟩ hn.1) rfl ?_
   rintro _ rfl
   refine ArgG.mk (w5 (x:=dr x y) (y:=y) hb.2 hy hn.2) rfl ?_
   rintro _ rfl
   refine⟨by kernel_rfl,⟨by kernel_rfl,?_⟩⟩
   refine⟨.inr rfl,_,ib rfl (Uc.cellN Tryz.f93 db rfl rfl rfl rfl rfl ⟨[],FzP.pure rfl⟩) (Uc.cellN Tryz.f93 db rfl rfl rfl rfl rfl ⟨[],FzP.pure rfl⟩) (Uc.tmp ⟨[],FzP.pure rfl⟩),?_⟩
   (rw[(afr hd hi hj).1,(afr hd hi hj).2.1];rfl)
  have hh:((sgZ ((dr x y))):Int)=((sgZ y):Int):=by simpa using hc
  refine⟨by kernel_rfl,⟨.inr rfl,_,ib rfl (Uc.cellN Tryz.f93 db rfl rfl rfl rfl rfl ⟨[],FzP.pure rfl⟩) (Uc.cellN Tryz.f93 db rfl rfl rfl rfl rfl ⟨[],FzP.pure rfl⟩) (Uc.tmp ⟨[],FzP.pure rfl⟩),?_⟩⟩
  (have hz:=dq_n (x:=x) hd (fun g=>by first|exact g.2 (by simpa using hc)|exact g.1 (by have h:sgZ (dr x y)=0:=(by simpa using ha);unfold sgZ at h;split at h<;>first|assumption|(split at h<;>cases h)));rw[hz.1,hz.2];rfl)
 have hg:((sgZ ((dr x y))):Int)=(0:Int):=by simpa using ha
 refine⟨by kernel_rfl,cF ?_⟩
 refine⟨by kernel_rfl,⟨.inr rfl,_,ib rfl (Uc.cellN Tryz.f93 db rfl rfl rfl rfl rfl ⟨[],FzP.pure rfl⟩) (Uc.cellN Tryz.f93 db rfl rfl rfl rfl rfl ⟨[],FzP.pure rfl⟩) (Uc.tmp ⟨[],FzP.pure rfl⟩),?_⟩⟩
 (have hz:=dq_n (x:=x) hd (fun g=>by first|exact g.2 (by simpa using hc)|exact g.1 (by have h:sgZ (dr x y)=0:=(by simpa using ha);unfold sgZ at h;split at h<;>first|assumption|(split at h<;>cases h)));rw[hz.1,hz.2];rfl)
abbrev bI(x:Int):List AV:=bgA (bgI x)
theorem ae:RowF bI 2:=⟨fun _=>rfl,fun _=>rfl,fun _ _=>rfl,fun _ _=>rfl,fun _ _=>rfl,fun _=>rfl⟩
structure IqS where
 cs:List Int
 b:Int
abbrev iqA(q:IqS):List AV:=.tree 2 (q.cs.map bI)::bI q.b
theorem ab:RowF iqA 3:=⟨fun _=>rfl,fun _=>rfl,fun _ _=>rfl,fun _ _=>rfl,fun _ _=>rfl,fun _=>rfl⟩
instance:Inhabited IqS:=⟨⟨[],0⟩⟩
abbrev BL(l:List Int):Prop:=∀x∈l,B1 x
structure BQ(q:IqS):Prop where
 c:BL q.cs
 b:B1 q.b
section
variable{P:Program}{τ:Nat->AV}{η:bi}{d:Option Tmp}{ty:TypeId}{pos:String}{af:Array Edge}{g:Option (Nat×Bool)}{t:Nat}{x y:Operand}
theorem cv(u:Nat){e len:Nat}{v:Int}(he:P.underlying t=some (.slice e))(hs:ao P e=some 2)(hz:bj P e=some (.agg #[.bool false,.slice none 0 0]))(ha:(P.info? e).map (·.bytes)=some 32)
 (hx:aev τ x=.v (.int .i64 v))(hy:aev τ y=.v (.int .i64 v))(hv:v=((len:Nat):Int))(hl:len<=1000000):
 LOp P ⟨d,.makeSlice t x y,ty,pos,af,g⟩ τ η [] [(u,some ⟨0,rF bI (List.replicate len 0),2,false⟩)] (.sl u 0 0 len):=by
 by_cases h0:len=0
 ·subst h0;subst hv;exact Cw u he hs hx hy
 refine Nn u he hs hz ha hx hy hv (by omega) (by omega) h0 (by decide) (by rw[jp ae];simp) fun i h T w=>?_
 obtain⟨h1,e1⟩:=Sf ae h
 rw[e1]
 show TR T w _ ((#[.bool false,.slice none 0 0]:Array Value)[i%2]!)
 have h2:i%2=0\/i%2=1:=by omega
 rcases h2 with h2|h2
 ·simp only[h2];exact .v _
 simp only[h2];exact .tree0 (by unfold maxLen;omega)
end
def uk(q:IqS):Bool:=q.cs.all (fun x=>decide (x=0))&&decide (q.b<0)
theorem sgZ_0{x:Int}:sgZ x=0↔x=0:=by unfold sgZ;split<;>(try split)<;>omega
theorem T6{q:IqS}{k:Nat}(h:k<q.cs.length)(e:¬sgZ q.cs[k]=0):uk q=false:=by
 unfold uk
 rw[Bool.and_eq_false_iff];left
 rw[List.all_eq_false];exact⟨_,ags h,by rw[decide_eq_false (fun g=>e (sgZ_0.2 g))];exact ahp⟩
theorem Mw{q:IqS}(h:∀j (hl:j<q.cs.length),q.cs[j]=0):uk q=decide (sgZ q.b<0):=by
 unfold uk
 rw[show(q.cs.all fun x=>decide (x=0))=true from List.all_eq_true.2 fun x hx=>by obtain⟨j,hj,rfl⟩:=ahd hx;simpa using h j hj,Bool.true_and]
 exact decide_eq_decide.2 R9.symm
def evQ(l:List IqS):Bool:=l.all fun q=>decide (q.cs.length=(l.headD ⟨[],0⟩).cs.length)
theorem hd_0{l:List IqS}(h:0<l.length):l.headD ⟨[],0⟩=l[0]:=by
 cases l with
 |nil=>exact absurd h (by simp)
 |cons a r=>rfl
theorem afo{l:List IqS}{k:Nat}(h:k<l.length)(e:¬l[k].cs.length=(l[0]'(by omega)).cs.length):evQ l=false:=by
 unfold evQ
 rw[List.all_eq_false];exact⟨_,ags h,by rw[hd_0 (by omega),decide_eq_false e];exact ahp⟩
theorem Ti{l:List IqS}(h:∀j (hl:j<l.length),l[j].cs.length=(l[0]'(by omega)).cs.length):evQ l=true:=by
 unfold evQ
 exact List.all_eq_true.2 fun x hx=>by obtain⟨j,hj,rfl⟩:=ahd hx;rw[hd_0 (by omega)];exact decide_eq_true (h j hj)
theorem Db:(Tryz.prog.info? 48).map (·.bytes)=some 32:=by kernel_rfl
theorem na:ej Tryz.prog 118=some (some 3):=by kernel_rfl
theorem ik:ao Tryz.prog 48=some 2:=by kernel_rfl
theorem A4:bj Tryz.prog 48=some (.agg #[.bool false,.slice none 0 0]):=by kernel_rfl
theorem agj(q:IqS)(hq:BQ q)(hs:q.cs.length<=1000):PRet Tryz.prog 50 [.agg (iqA q)] (fun r=>r=.v (.bool (uk q))):=by
 refine ovT [] [] Tryz.func50 rfl rfl (LpG.on (fun k0:Nat=>(⟨fL [(1,.ptr 0 0 0),(3,.v (.int .i64 ((k0:Nat):Int)))],hLz [(0,⟨0,iqA q,0,false⟩)],1⟩:St)) (fun k0=>(q.cs.length-k0)) (fun k0=>(k0<=q.cs.length/\∀j (hl:j<q.cs.length),j<k0->q.cs[j]=0)) 0 (cO (.cons rfl rfl (.cons rfl rfl .nil)) (.cons rfl rfl rfl .nil)) ⟨ag5 _,fun j _ h=>absurd h (ag6 j)⟩ ?_)
 rintro k0 hc
 obtain⟨hle_k0,hb⟩:=hc
 refine LenG.of (cL (fun hd=>?_) (fun hge8=>?_))
 ·refine IdxG.of ‹_› (ArgG.mk (lj (x:=q.cs[k0]) (by exact hq.c _ (ags ‹_›))) rfl ?_)
  rintro _ rfl
  refine cB (fun ha=>?_) (fun ha=>?_)
  ·have he:¬(((sgZ (q.cs[k0])):Int)=(0:Int)):=by simpa using ha
   refine rV rfl rfl ?_
   rw[T6 hd (by simpa using ha)];rfl
  have he:((sgZ (q.cs[k0])):Int)=(0:Int):=by simpa using ha
  refine⟨by omega,⟨(k0+1),by omega,(cO (.cons rfl rfl (.cons rfl rfl .nil)) (.cons rfl rfl rfl .nil)),?_⟩⟩
  refine⟨by omega,fun j hl h=>?_⟩
  rcases ag8.1 h with h|rfl
  ·exact hb j hl h
  exact sgZ_0.1 (by simpa using ha)
 refine ArgG.mk (lj (x:=q.b) (by exact hq.b)) rfl ?_
 rintro _ rfl
 refine rV rfl rfl ?_
 rw[Mw (fun j hl=>hb j hl (by omega))];rfl
theorem aae(l:List IqS)(hl:ip l (fun y=>True))(hs:l.length<=100000):PRet Tryz.prog 48 [.tree 3 (l.map iqA)] (fun r=>r=.v (.bool (evQ l))):=by
 refine ovT [] [] Tryz.func48 rfl rfl (LpG.on (fun k0:Nat=>(⟨fL [(0,.tree 3 (l.map iqA)),(3,.v (.int .i64 ((k0:Nat):Int)))],hLz [],0⟩:St)) (fun k0=>(l.length-k0)) (fun k0=>(k0<=l.length/\∀j (hl:j<l.length),j<k0->l[j].cs.length=(l[0]'(by omega)).cs.length)) 0 (cO (.cons rfl rfl (.cons rfl rfl .nil)) .nil) ⟨ag5 _,fun j _ h=>absurd h (ag6 j)⟩ ?_)
 rintro k0 hc
 have hgr_k0:l.length<=140737488355328:=hl.1
 obtain⟨hle_k0,hb⟩:=hc
 refine LenG.of (cL (fun hd=>?_) (fun hge7=>?_))
 ·refine IdxG.of ‹_› (LenG.of ?_)
  refine IdxG.of (j:=0) (by omega) (LenG.of ?_)
  refine⟨by kernel_rfl,cB (fun ha=>?_) (fun ha=>?_)⟩
  ·have he:¬(((l[k0].cs.length:Nat):Int)=((l[0].cs.length:Nat):Int)):=by simpa using ha
   refine rV rfl rfl ?_
   rw[afo hd (by have:=ha;simp at this;omega)];rfl
  have he:((l[k0].cs.length:Nat):Int)=((l[0].cs.length:Nat):Int):=by simpa using ha
  refine⟨by omega,⟨(k0+1),by omega,(cO (.cons rfl rfl (.cons rfl rfl .nil)) .nil),?_⟩⟩
  refine⟨by omega,fun j hl h=>?_⟩
  rcases ag8.1 h with h|rfl
  ·exact hb j hl h
  have:=ha;simp at this;omega
 refine rV rfl rfl ?_
 rw[Ti (fun j hl=>hb j hl (by omega))];rfl
theorem Z9(q:IqS)(b:Int)(hb:B1 b)(hq:BL q.cs)(hs:q.cs.length<=100000):PRet Tryz.prog 51 [.agg (iqA q),.agg (bI b)] (fun r=>r=.agg (iqA ⟨q.cs.map (-·),b⟩)):=by
 refine ovT [] [6] Tryz.func51 rfl rfl (ArgG.mk (Po hb) rfl ?_)
 rintro _ rfl
 refine LpG.via (fun _ h=>kf 3 0 2 rfl rfl rfl rfl rfl 5 rfl h) (LpG.on (fun k0:KL Int=>(⟨fL [(2,.ptr 0 0 0),(4,.ptr 2 0 0),(5,.ptr 3 0 0),(6,.v (.int .i64 ((k0.k:Nat):Int)))],hLz [(0,⟨0,iqA q,0,false⟩),(2,⟨0,[.v (.slice none 0 0),.v (.bool false),.v (.slice none 0 0)],0,false⟩),(3,⟨0,.sl 4 k0.L.length 0 k0.L.length::bI b,0,false⟩),(4,⟨k0.L.length,rF bI k0.L,2,Nat.beq k0.L.length 0⟩)],5⟩:St)) (fun k0=>(q.cs.length-k0.k)) (fun k0=>(k0.k<=q.cs.length/\(k0.L=(q.cs.take k0.k).map (-·)))) (⟨0,[]⟩:KL Int) (cO (.cons rfl rfl (.cons rfl rfl (.cons rfl rfl (.cons rfl rfl .nil)))) (.cons rfl rfl rfl (.cons rfl rfl rfl (.cons (by rfl) rfl rfl (.cons (by rfl) rfl (aa ae _ _) .nil))))) ⟨ag5 _,rfl⟩ ?_)
 rintro k0 hd
 obtain⟨hle_k0,ha⟩:=hd
 refine LenG.of (cL (fun hc=>?_) (fun hge14=>?_))
 ·have he:k0.L.length=k0.k:=by rw[ha];simp;omega
  refine IdxG.of ‹_› (ArgG.mk (zo (x:=q.cs[k0.k]) (hq _ (ags ‹_›))) rfl ?_)
  rintro _ rfl
  refine OpG.mk _ _ _ 6 (b9 ae (a:=(-q.cs[k0.k])) Tryz.underlying45 ik A4 Db rfl rfl rfl (dv rfl rfl rfl rfl) rfl (by omega) (by omega) (by unfold TV;omega)) rfl rfl ⟨by kernel_rfl,⟨by omega,?_⟩⟩
  refine⟨(⟨k0.k+1,k0.L++[-q.cs[k0.k]]⟩:KL Int),(by show q.cs.length-(k0.k+1)<q.cs.length-k0.k;omega),(cO (.cons rfl rfl (.cons rfl rfl (.cons rfl rfl (.cons rfl rfl .nil)))) (.cons rfl rfl rfl (.cons rfl rfl rfl (.cons (by(rw[agw];rfl)) rfl rfl (.cons (by(rw[agw];rfl)) rfl (aa ae _ _) .nil))))),⟨by show k0.k+1<=_;omega,?_⟩⟩
  show k0.L++_=(q.cs.take (k0.k+1)).map (-·)
  rw[ag4 hc,List.map_append,ha];rfl
 have he:k0.L.length<=100000:=by rw[ha];simp;omega
 refine RegG.via (fun _ h=>cm [4] 3 0 0 (.sl 4 k0.L.length 0 k0.L.length::bI b) (.tree 2 (k0.L.map bI)::bI b) rfl rfl (.fz (j6 ae (by simp) rfl) (.same _)) rfl h) (aw ?_)
 refine⟨.inr rfl,_,Ng.cell rfl na rfl rfl rfl rfl rfl ⟨[],FzP.pure rfl⟩,?_⟩
 rw[ha,ahj (by omega)]
def rgC(c:PCon)(n:Int):Prop:=(∀j (h:j<c.l.cs.length),0<=c.l.cs[j].v/\c.l.cs[j].v<n)/\(∀j (h:j+1<c.l.cs.length),c.l.cs[j].v<c.l.cs[j+1].v)/\0<=n/\n<=512
theorem abu:ao Tryz.prog 35=some 2:=by kernel_rfl
theorem U0(c:PCon)(n:Int)(hs:c.l.cs.length<=100000):PRet Tryz.prog 55 [.agg (cnA c),.v (.int .i64 n)] (fun r=>∃b:Bool,r=.v (.bool b)/\(rgC c n->b=true)):=by
 refine ovT [39] [] Tryz.func55 rfl rfl ?_
 refine LpG.on (fun k0:Nat=>(⟨fL [(1,.v (.int .i64 n)),(2,.ptr 0 0 0),(5,.v (.int .i64 ((k0:Nat):Int)))],hLz [(0,⟨0,cnA c,0,false⟩)],1⟩:St)) (fun k0=>(c.l.cs.length-k0)) (fun k0=>(k0<=c.l.cs.length)) 0 (cO (.cons rfl rfl (.cons rfl rfl (.cons rfl rfl .nil))) (.cons rfl rfl rfl .nil)) (ag5 _) ?_
 rintro k0 hg
 have hle_k0:=hg
 refine LenG.of (cB (fun ha=>?_) (fun ha=>?_))
 ·have hlt12:k0<c.l.cs.length:=Int.ofNat_lt.1 (ag3 ha)
  refine IdxG.of ‹_› (cB (fun hb=>?_) (fun hb=>?_))
  ·have hh:(c.l.cs[k0].v:Int)<(0:Int):=ag3 hb
   refine cT (cT ?_)
   refine rV rfl rfl ?_
   (refine⟨_,rfl,fun h=>?_⟩;exfalso;obtain⟨h1,h2,h3,h4⟩:=h;first|(have:=h1 k0 ‹_›;omega)|(have:=h2 (k0-1) (by omega);simp only[show k0-1+1=k0 by omega]at this;omega))
  have hh:¬((c.l.cs[k0].v:Int)<(0:Int)):=ag2 hb
  refine cB (fun hc=>?_) (fun hc=>?_)
  ·have hi:(c.l.cs[k0].v:Int)≥(n:Int):=ag3 hc
   refine cT (rV rfl rfl ?_)
   (refine⟨_,rfl,fun h=>?_⟩;exfalso;obtain⟨h1,h2,h3,h4⟩:=h;first|(have:=h1 k0 ‹_›;omega)|(have:=h2 (k0-1) (by omega);simp only[show k0-1+1=k0 by omega]at this;omega))
  have hi:¬((c.l.cs[k0].v:Int)≥(n:Int)):=ag2 hc
  refine cB (fun hd=>?_) (fun hd=>?_)
  ·have hj:((k0:Nat):Int)>(0:Int):=ag3 hd
   refine⟨by omega,?_⟩
   refine OpG.lk (cp Tryz.underlying28 abu rfl rfl (show((k0:Nat):Int)-1=((k0-1:Nat):Int)by omega) (by omega)) ?_
   refine cB (fun he=>?_) (fun he=>?_)
   ·have hk:(c.l.cs[k0].v:Int)<=(c.l.cs[(k0-1)].v:Int):=ag3 he
    refine rV rfl rfl ?_
    (refine⟨_,rfl,fun h=>?_⟩;exfalso;obtain⟨h1,h2,h3,h4⟩:=h;first|(have:=h1 k0 ‹_›;omega)|(have:=h2 (k0-1) (by omega);simp only[show k0-1+1=k0 by omega]at this;omega))
   have hk:¬((c.l.cs[k0].v:Int)<=(c.l.cs[(k0-1)].v:Int)):=ag2 he
   refine⟨by omega,?_⟩
   refine⟨(k0+1),by omega,(cO (.cons rfl rfl (.cons rfl rfl (.cons rfl rfl .nil))) (.cons rfl rfl rfl .nil)),?_⟩
   omega
  have hj:¬(((k0:Nat):Int)>(0:Int)):=ag2 hd
  refine cF ⟨by omega,⟨(k0+1),by omega,(cO (.cons rfl rfl (.cons rfl rfl (.cons rfl rfl .nil))) (.cons rfl rfl rfl .nil)),?_⟩⟩
  omega
 have hge12:¬k0<c.l.cs.length:=fun h=>ag2 ha (Int.ofNat_lt.2 h)
 refine cB (fun hf=>?_) (fun hf=>?_)
 ·have hl:(n:Int)≥(0:Int):=ag3 hf
  refine rV rfl rfl ?_
  (refine⟨_,rfl,fun h=>?_⟩;obtain⟨h1,h2,h3,h4⟩:=h;first|(simp;omega)|rfl|skip)
 have hl:¬((n:Int)≥(0:Int)):=ag2 hf
 refine rV rfl rfl ?_
 (refine⟨_,rfl,fun h=>?_⟩;exfalso;obtain⟨h1,h2,h3,h4⟩:=h;first|(have:=h1 k0 ‹_›;omega)|(have:=h2 (k0-1) (by omega);simp only[show k0-1+1=k0 by omega]at this;omega))
end Go.Proofs.YtbhhmbchdponjaaGreatDoor
