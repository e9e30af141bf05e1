/- Texts of the claim. -/
import Derived.Shelf.SlicesE.Clone
import Derived.Test.YtbhhmbchdponjaaGreatDoorF1
import Derived.Test.YtbhhmbchdponjaaGreatDoorQ2
import Derived.Test.YtbhhmbchdponjaaGreatDoorInf
namespace Go.Proofs
open Go.Shelf
def Tryz.cloU_ren:Go.Shelf.Ren:=⟨fun|41=>197|n=>n,fun|22=>46|23=>192|4=>4|n=>n,fun|n=>n⟩
theorem Tryz.cloU:Go.Proofs.SlLaysE0.n41 Tryz.prog Tryz.cloU_ren:={
 mixed:=by kernel_rfl
 f41:=⟨Tryz.f197.name,by decide,Tryz.func197.trans (congrArg some (by kernel_rfl))⟩
 t4:=Tryz.underlying4
 a4:=Tryz.isAgg4
 z4:=Tryz.sizeOf4
 v4:=Tryz.zeroValue4
 t22:=Tryz.underlying46
 a22:=Tryz.isAgg46
 z22:=Tryz.sizeOf46
 v22:=Tryz.zeroValue46}
end Go.Proofs
namespace Go.Proofs.YtbhhmbchdponjaaGreatDoor
set_option maxRecDepth 1000000
set_option maxHeartbeats 0
open Go.Shelf in
theorem cl_U:CloneL Tryz.prog 197 1:=⟨⟨Tryz.cloU_ren,Tryz.t192,_,_,rfl,Tryz.cloU,by kernel_rfl,rfl,rfl,rfl,rfl,Tryz.sizeOf192,by decide⟩,by decide⟩
set_option linter.unusedVariables false
set_option linter.unusedSimpArgs false
open Go.RowKit
structure GBig where
 b_:Bool
 a_:List Int
abbrev bgA(x:GBig):List AV:=[.v (.bool x.b_),.tree 1 (x.a_.map cx)]
structure FitBig(x:GBig):Prop where
 a_:ip x.a_ (fun y=>True)
instance:Inhabited GBig:=⟨⟨false,[]⟩⟩
def dtr:List Int->List Int
 |[]=>[]
 |a::l=>match dtr l with
  |[]=>if a=0 then[]else[a]
  |b::r=>a::b::r
theorem G6:∀{d:List Int},(∀j (h:j<d.length),d[j]=0)->dtr d=[]
 |[],_=>rfl
 |a::l,h=>by
  have h0:a=0:=h 0 (by simp)
  have h1:dtr l=[]:=G6 fun j hj=>h (j+1) (by simpa using hj)
  simp[dtr,h1,h0]
theorem L5:∀{d:List Int} {n:Nat} (hn:n<=d.length),(∀j (h:j<d.length),n<=j->d[j]=0)->(∀m (h:m<d.length),n=m+1->d[m]≠0)->dtr d=d.take n
 |d,0,_,h,_=>by rw[List.take_zero];exact G6 fun j hj=>h j hj (ag5 j)
 |[],n+1,hn,_,_=>absurd hn (by simp)
 |a::l,n+1,hn,h,g=>by
  have ih:=L5 (d:=l) (n:=n) (by simpa using hn) (fun j hj hle=>h (j+1) (by simpa using hj) (by omega)) (fun m hm e=>g (m+1) (by simpa using hm) (by omega))
  rw[List.take_succ_cons]
  unfold dtr;rw[ih]
  cases hh:l.take n with
  |nil=>
   have hn0:n=0:=by
    rcases Nat.eq_zero_or_pos n with h0|h0
    ·exact h0
    ·have:(l.take n).length=n:=List.length_take_of_le (by simpa using hn)
     rw[hh]at this;simp at this;omega
   have ha:a≠0:=g 0 (by simp) (by omega)
   simp[ha]
  |cons b r=>rfl
theorem Fo{d:List Int}{k0:Nat}(hk:k0<=d.length)(hj:∀j (hl:d.length-1-j<d.length),j<k0->d[d.length-1-j]=0)(h:∀(hl:d.length-1-k0<d.length),k0<d.length->d[d.length-1-k0]≠0):AV.tree 1 ((d.take (d.length-k0)).map cx)=.tree 1 ((dtr d).map cx):=by
 rw[L5 (n:=d.length-k0) (by omega) ?_ ?_]
 ·intro j h1 h2
  have e:d.length-1-(d.length-1-j)=j:=by omega
  have:=hj (d.length-1-j) (by omega) (by omega)
  simp only[e]at this;exact this
 intro m h1 h2
 have e:m=d.length-1-k0:=by omega
 subst e;exact h h1 (by omega)
theorem Ec(d:List Int):(dtr d).length<=d.length:=by
 induction d with
 |nil=>exact ag7 _
 |cons a l ih=>
  unfold dtr;split
  ·split<;>simp
  ·next e=>rw[e]at ih;simpa using ih
theorem L6{d:List Int}{x:Int}(h:x∈dtr d):x∈d:=by
 induction d with
 |nil=>exact h
 |cons a l ih=>
  unfold dtr at h;split at h
  ·split at h
   ·simp at h
   ·rw[agx.1 h];simp
  ·next e=>
   rw[e]at ih
   rcases ahi.1 h with rfl|h
   ·simp
   ·exact List.mem_cons_of_mem _ (ih h)
def nmB(b:Bool)(d:List Int):GBig:=if dtr d=[]then⟨false,[]⟩else⟨b,dtr d⟩
def sgI(n:Int):Int:=min (max n (-1)) 1
def cmA(a b:List Int):Nat->Int
 |0=>0
 |k+1=>if a.getD k 0<b.getD k 0 then -1 else if a.getD k 0>b.getD k 0 then 1 else cmA a b k
def cmD(a b:List Int):Int:=if a.length=b.length then cmA a b a.length else sgI ((a.length:Int)-(b.length:Int))
def sgB(x:GBig):Int:=if dtr x.a_=[]then 0 else if x.b_ then -1 else 1
abbrev Dg(d:List Int):Prop:=∀x∈d,0<=x/\x<=4294967295
structure KN where
 k:Nat
theorem ada{x:GBig}(h:((((nmB x.b_ x.a_).a_).length:Nat):Int)=(0:Int)):AV.v (.int .i64 0)=.v (.int .i64 (sgB x)):=by
 have e:dtr x.a_=[]:=by
  by_cases hz:dtr x.a_=[]
  ·exact hz
  ·unfold nmB at h;rw[ag0 hz]at h;exact List.length_eq_zero_iff.1 (by simpa using h)
 unfold sgB;rw[ag1 e]
theorem ac9{x:GBig}(h:¬((((nmB x.b_ x.a_).a_).length:Nat):Int)=(0:Int)):dtr x.a_≠[]/\(nmB x.b_ x.a_).b_=x.b_:=by
 by_cases hz:dtr x.a_=[]
 ·exact absurd (by unfold nmB;rw[ag1 hz];rfl) h
 exact⟨hz,by unfold nmB;rw[ag0 hz]⟩
theorem Yp{x:GBig}{b:Bool}(h:¬((((nmB x.b_ x.a_).a_).length:Nat):Int)=(0:Int))(hb:(nmB x.b_ x.a_).b_=b):AV.v (.int .i64 (if b then -1 else 1))=.v (.int .i64 (sgB x)):=by
 obtain⟨h1,h2⟩:=ac9 h
 unfold sgB;rw[ag0 h1,<-h2,hb]
theorem Tu{a b:List Int}{n:Nat}(hn:n<a.length)(hm:n<b.length)(h1:¬a[n]<b[n])(h2:¬a[n]>b[n]):cmA a b (n+1)=cmA a b n:=by
 simp only[cmA,List.getD,agt hn,agt hm,Option.getD_some];rw[ag0 h1,ag0 h2]
theorem Ts{a b:List Int}{n:Nat}(hn:n<a.length)(hm:n<b.length)(h1:a[n]<b[n]):cmA a b (n+1)=-1:=by
 simp only[cmA,List.getD,agt hn,agt hm,Option.getD_some];rw[ag1 h1]
theorem Tt{a b:List Int}{n:Nat}(hn:n<a.length)(hm:n<b.length)(h1:¬a[n]<b[n])(h2:a[n]>b[n]):cmA a b (n+1)=1:=by
 simp only[cmA,List.getD,agt hn,agt hm,Option.getD_some];rw[ag0 h1,ag1 h2]
theorem aff{b:Bool}{d:List Int}(h:ip d (fun _=>True)):ip (nmB b d).a_ (fun _=>True):=by
 refine⟨?_,fun _ _=>trivial⟩
 unfold nmB;split
 ·exact ag5 _
 exact aha (Ec d) h.1
theorem db:ej Tryz.prog 48=some (some 2):=by kernel_rfl
theorem dz:ao Tryz.prog 192=some 1:=by kernel_rfl
theorem xy(d:List Int)(hd:ip d (fun y=>True))(hs:d.length<=1000):PRet Tryz.prog 158 [.tree 1 (d.map cx)] (fun q=>q=.tree 1 ((dtr d).map cx)):=by
 refine ovT [12,20] [] Tryz.func158 rfl rfl (LenG.of ?_)
 refine LpG.on (fun k0:Nat=>(⟨fL [(0,.tree 1 (d.map cx)),(3,.v (.int .i64 (((d.length-k0):Nat):Int)))],hLz [],0⟩:St)) (fun k0=>(d.length-k0)) (fun k0=>(k0<=d.length/\∀j (hl:d.length-1-j<d.length),j<k0->d[d.length-1-j]=0)) 0 (cO (.cons rfl rfl (.cons (congrArg (fun z=>AV.v (.int .i64 z)) (by omega)) rfl .nil)) .nil) ⟨ag5 _,fun j _ h=>absurd h (ag6 j)⟩ ?_
 rintro k0 he
 have hgr_k0:d.length<=140737488355328:=hd.1
 obtain⟨ha,hb⟩:=he
 refine cD (fun hf=>?_) (fun hf=>?_)
 ·refine⟨by omega,OpG.lk (cp Tryz.underlying46 dz rfl rfl (show(((d.length-k0):Nat):Int)-1=((d.length-1-k0:Nat):Int)by omega) (by omega)) ?_⟩
  refine OpG.lk (lP rfl (fun _ _=>nofun) (fun _=>rfl)) (cE (fun hc=>?_) (fun hc=>?_))
  ·refine⟨by omega,⟨(k0+1),by omega,(cO (.cons rfl rfl (.cons (congrArg (fun z=>AV.v (.int .i64 z)) (by omega)) rfl .nil)) .nil),?_⟩⟩
   refine⟨by omega,fun j hl h=>?_⟩
   rcases ag8.1 h with h|rfl
   ·exact hb j hl h
   simp_all
  refine OpG.lk (Au (b:=d.length-k0) (l:=d) (f:=cx) Tryz.underlying46 dz rfl rfl rfl (by omega)) (ArgG.mk (PRet.of_call (CloneL.tree cl_U (fun _=>rfl) (d.take (d.length-k0)) (by rw[List.length_take];omega))) rfl ?_)
  rintro _ rfl
  exact rV rfl rfl (Fo ha hb fun _ _=>hc)
 refine cF (OpG.lk (Au (b:=d.length-k0) (l:=d) (f:=cx) Tryz.underlying46 dz rfl rfl rfl (by omega)) ?_)
 refine ArgG.mk (PRet.of_call (CloneL.tree cl_U (fun _=>rfl) (d.take (d.length-k0)) (by rw[List.length_take];omega))) rfl ?_
 rintro _ rfl
 exact rV rfl rfl (Fo ha hb fun _ h=>absurd h (by omega))
theorem el(b:Bool)(d:List Int)(hd:ip d (fun y=>True))(hs:d.length<=1000):PRet Tryz.prog 119 [.v (.bool b),.tree 1 (d.map cx)] (fun q=>q=.agg (bgA (nmB b d))):=by
 refine ovT [] [] Tryz.func119 rfl rfl (ArgG.mk (xy d hd ‹_›) rfl ?_)
 rintro _ rfl
 refine LenG.of (cE (fun ha=>?_) (fun ha=>?_))
 ·refine⟨.inr rfl,_,Ng.cell rfl db rfl rfl rfl rfl rfl ⟨[],FzP.aggL (.cons (.pure rfl) (.cons (FzP.nil (n:=1)) .nil))⟩,?_⟩
  have e:dtr d=[]:=List.length_eq_zero_iff.1 (by omega)
  unfold nmB;rw[ag1 e];rfl
 refine⟨.inr rfl,_,Ng.cell rfl db rfl rfl rfl rfl rfl ⟨[],FzP.pure rfl⟩,?_⟩
 have e:¬dtr d=[]:=fun h=>by rw[h]at ha;exact ha rfl
 unfold nmB;rw[ag0 e]
theorem wa(x:GBig)(hx:FitBig x)(hs:x.a_.length<=1000):PRet Tryz.prog 83 [.agg (bgA x)] (fun q=>q=.agg (bgA (nmB x.b_ x.a_))):=by
 refine ovT [] [] Tryz.func83 rfl rfl (ArgG.mk (el x.b_ x.a_ hx.a_ ‹_›) rfl ?_)
 rintro _ rfl
 refine⟨.inr rfl,_,Ng.cell rfl db rfl rfl rfl rfl rfl ⟨[],FzP.pure rfl⟩,?_⟩
 rfl
theorem aea(x:GBig)(hx:FitBig x)(hs:x.a_.length<=1000):PRet Tryz.prog 138 [.agg (bgA x)] (fun q=>q=.agg (bgA (nmB (!x.b_) x.a_))):=by
 refine ovT [] [] Tryz.func138 rfl rfl (ArgG.mk (el ((!x.b_)) x.a_ hx.a_ ‹_›) rfl ?_)
 rintro _ rfl
 refine⟨.inr rfl,_,Ng.cell rfl db rfl rfl rfl rfl rfl ⟨[],FzP.pure rfl⟩,?_⟩
 rfl
theorem Yj(n:Int):PRet Tryz.prog 159 [.v (.int .i64 n)] (fun q=>q=.v (.int .i64 (sgI n))):=by
 refine ovT [4,5] [] Tryz.func159 rfl rfl (OpG.lk (Hv rfl rfl) ?_)
 exact OpG.lk (Rh rfl rfl) (rV rfl rfl rfl)
theorem ac8(x:GBig)(hx:FitBig x)(hs:x.a_.length<=1000):PRet Tryz.prog 164 [.agg (bgA x)] (fun q=>q=.v (.int .i64 (sgB x))):=by
 refine ovT [] [] Tryz.func164 rfl rfl (ArgG.mk (wa x hx ‹_›) rfl ?_)
 rintro _ rfl
 refine LenG.of (cE (fun hb=>?_) (fun hb=>?_))
 ·exact rV rfl rfl (ada hb)
 refine cB (fun ha=>?_) (fun ha=>?_)
 ·exact rV rfl rfl (Yp hb ha)
 exact rV rfl rfl (Yp hb ha)
theorem Ed(d:List Int)(hd:ip d (fun y=>True))(hD:Dg d)(i:Nat):PRet Tryz.prog 84 [.tree 1 (d.map cx),.v (.int .i64 ((i:Nat):Int))] (fun q=>q=.v (.int .u64 (d.getD i 0))):=by
 refine ovT [13] [] Tryz.func84 rfl rfl (LenG.of ?_)
 refine cL (fun ha=>?_) (fun hge8=>?_)
 ·refine IdxG.of ‹_› (OpG.lk (j5 Tryz.underlying192 Tryz.underlying12 rfl (hD _ (ags ha)).1 (by have:=(hD _ (ags ha)).2;omega)) ?_)
  refine rV rfl rfl ?_
  simp only[List.getD,agt ha,Option.getD_some];rfl
 refine rV rfl rfl ?_
 rw[List.getD,List.getElem?_eq_none (by omega)];rfl
theorem ma(a:List Int)(ha:ip a (fun y=>True))(b:List Int)(hb:ip b (fun y=>True))(hs:a.length<=1000):PRet Tryz.prog 120 [.tree 1 (a.map cx),.tree 1 (b.map cx)] (fun q=>q=.v (.int .i64 (cmD a b))):=by
 refine ovT [26,30,35,39] [] Tryz.func120 rfl rfl ?_
 refine LenG.of (LenG.of ?_)
 refine cN (fun he=>?_) (fun he=>?_)
 ·have hj:¬a.length=b.length:=by have:=he;omega
  refine LenG.of (LenG.of ?_)
  refine⟨by omega,?_⟩
  refine ArgG.mk (Yj (((a.length:Int)-(b.length:Int)))) rfl ?_
  rintro _ rfl
  refine rV rfl rfl ?_
  unfold cmD;rw[ag0 hj];rfl
 have hg:a.length=b.length:=by have:=he;omega
 refine LenG.of ⟨by omega,LpG.on (fun k0:KN=>(⟨fL [(0,.tree 1 (a.map cx)),(1,.tree 1 (b.map cx)),(5,.v (.int .i64 ((a.length:Int)-1-((k0.k:Nat):Int))))],hLz [],0⟩:St)) (fun k0=>(a.length-k0.k)) (fun k0=>(k0.k<=a.length/\(cmA a b a.length=cmA a b (a.length-k0.k)))) (⟨0⟩:KN) (cO (.cons rfl rfl (.cons rfl rfl (.cons (congrArg (fun z=>AV.v (.int .i64 z)) (by(show(a.length:Int)-1=(a.length:Int)-1-((0:Nat):Int);omega))) rfl .nil))) .nil) ⟨ag5 _,rfl⟩ ?_⟩
 rintro k0 hh
 have hgr_k0:a.length<=140737488355328:=ha.1
 obtain⟨hle_k0,hc⟩:=hh
 refine cD (fun hi=>?_) (fun hi=>?_)
 ·refine OpG.lk (cp Tryz.underlying46 dz rfl rfl (show(a.length:Int)-1-((k0.k:Nat):Int)=(((a.length-1-k0.k):Nat):Int)by omega) (by omega)) ?_
  refine OpG.lk (cp Tryz.underlying46 dz rfl rfl (show(a.length:Int)-1-((k0.k:Nat):Int)=(((a.length-1-k0.k):Nat):Int)by omega) (by omega)) ?_
  refine OpG.lk (lP rfl (fun _ _=>nofun) (fun _=>rfl)) ?_
  refine⟨by kernel_rfl,?_⟩
  refine cD (fun hd=>?_) (fun hd=>?_)
  ·refine rV rfl rfl ?_
   have e:a.length-k0.k=a.length-1-k0.k+1:=by omega
   unfold cmD;rw[ag1 hg,hc,e,Ts (by omega) (by omega) hd];rfl
  refine OpG.lk (cp Tryz.underlying46 dz rfl rfl (show(a.length:Int)-1-((k0.k:Nat):Int)=(((a.length-1-k0.k):Nat):Int)by omega) (by omega)) ?_
  refine OpG.lk (cp Tryz.underlying46 dz rfl rfl (show(a.length:Int)-1-((k0.k:Nat):Int)=(((a.length-1-k0.k):Nat):Int)by omega) (by omega)) ?_
  refine OpG.lk (lP rfl (fun _ _=>nofun) (fun _=>rfl)) ?_
  refine⟨by kernel_rfl,?_⟩
  refine cD (fun hf=>?_) (fun hf=>?_)
  ·refine rV rfl rfl ?_
   have e:a.length-k0.k=a.length-1-k0.k+1:=by omega
   unfold cmD;rw[ag1 hg,hc,e,Tt (by omega) (by omega) hd hf];rfl
  refine⟨by omega,?_⟩
  refine⟨(⟨k0.k+1⟩:KN),(by show a.length-(k0.k+1)<a.length-k0.k;omega),(cO (.cons rfl rfl (.cons rfl rfl (.cons (congrArg (fun z=>AV.v (.int .i64 z)) (by(show _=(a.length:Int)-1-(((k0.k+1:Nat)):Int);omega))) rfl .nil))) .nil),?_⟩
  refine⟨by show k0.k+1<=_;omega,?_⟩
  have e:a.length-k0.k=a.length-1-k0.k+1:=by omega
  show cmA a b a.length=cmA a b (a.length-(k0.k+1))
  rw[hc,e,Tu (by omega) (by omega) hd hf,show a.length-1-k0.k=a.length-(k0.k+1)by omega]
 refine rV rfl rfl ?_
 have e:a.length-k0.k=0:=by omega
 unfold cmD;rw[ag1 hg,hc,e];rfl
theorem b7{α:Type}{f:α->List AV}{q:Nat}(h:RowF f q){fp:List Nat}{η:bi}{id v n:Nat}{l:List α}(ha:id∈fp)(hb:η id=some ⟨v,rF f l,q,false⟩)(hn:n=l.length):FzP fp η (.sl id v 0 n) (.tree q (l.map f)):=by subst hn;exact fx h ha hb
theorem Ef{d:List Int}(h:Dg d)(k:Nat):0<=d.getD k 0/\d.getD k 0<=4294967295:=by
 by_cases hk:k<d.length
 ·simp only[List.getD,agt hk,Option.getD_some];exact h _ (ags hk)
 rw[List.getD,List.getElem?_eq_none (by omega)];exact⟨by decide,by decide⟩
def plN(a b:List Int):Nat->List Int×Int
 |0=>([],0)
 |k+1=>((plN a b k).1++[((plN a b k).2+(a.getD k 0+b.getD k 0))%4294967296],((plN a b k).2+(a.getD k 0+b.getD k 0))/4294967296)
def plD(a b:List Int):List Int:=(plN a b (max a.length b.length+1)).1
theorem vy{a b:List Int}:∀{k:Nat},(plN a b k).1.length=k
 |0=>rfl
 |k+1=>by simp[plN,vy (k:=k)]
theorem Y3{a b:List Int}(ha:Dg a)(hb:Dg b):∀k,0<=(plN a b k).2/\(plN a b k).2<=1
 |0=>⟨by show(0:Int)<=0;decide,by show(0:Int)<=1;decide⟩
 |k+1=>by
  have:=Y3 ha hb k
  have:=Ef ha k
  have:=Ef hb k
  show 0<=_/_/\_/_<=(1:Int)
  omega
theorem J0{l:List Int}{k n:Nat}{v:Int}(hl:l.length=k)(h:k<n):(l++List.replicate (n-k) 0).set k v=(l++[v])++List.replicate (n-(k+1)) 0:=by
 rw[List.set_append_right _ _ (by omega),show n-k=(n-(k+1))+1 by omega,List.replicate_succ,hl]
 simp
structure KDc where
 k:Nat
 L:List Int
 c:Int
def miN(a b:List Int):Nat->List Int×Int
 |0=>([],0)
 |k+1=>((miN a b k).1++[(a.getD k 0-b.getD k 0-(miN a b k).2)%4294967296],if a.getD k 0-b.getD k 0-(miN a b k).2<0 then 1 else 0)
def miD(a b:List Int):List Int:=(miN a b a.length).1
theorem wg{a b:List Int}:∀{k:Nat},(miN a b k).1.length=k
 |0=>rfl
 |k+1=>by simp[miN,wg (k:=k)]
theorem aef{a b:List Int}:∀k,0<=(miN a b k).2/\(miN a b k).2<=1
 |0=>⟨by show(0:Int)<=0;decide,by show(0:Int)<=1;decide⟩
 |k+1=>by
  show 0<=ite _ _ _/\ite _ _ _<=(1:Int)
  split<;>exact⟨by decide,by decide⟩
theorem Yd{x:Int}(h1:-4294967296<=x)(h2:x<=4294967295):(IntKind.u64.wrap x).fdiv (2^63)=(if x<0 then 1 else 0)/\IntKind.u32.wrap (IntKind.u64.wrap x)=x%4294967296:=by
 rw[IntKind.wrap_u32,IntKind.wrap_u64,Int.fdiv_eq_ediv_of_nonneg _ (by decide)]
 refine⟨?_,by omega⟩
 show _/(9223372036854775808:Int)=_
 split<;>omega
theorem Sx{x y:Int}(hx:0<=x/\x<=4294967295)(hy:0<=y/\y<=4294967295):0<=x*y/\x*y<=18446744065119617025:=
 ⟨Int.mul_nonneg hx.1 hy.1,Int.le_trans (Int.mul_le_mul hx.2 hy.2 hy.1 (by decide)) (by decide)⟩
def inR(x:Int)(b:List Int)(i:Nat)(o:List Int):Nat->List Int×Int
 |0=>(o,0)
 |k+1=>((inR x b i o k).1.set (i+k) (((inR x b i o k).2+(x*b.getD k 0+(inR x b i o k).1.getD (i+k) 0))%4294967296),((inR x b i o k).2+(x*b.getD k 0+(inR x b i o k).1.getD (i+k) 0))/4294967296)
def ouR(a b:List Int):Nat->List Int
 |0=>List.replicate (a.length+b.length) 0
 |i+1=>(inR (a.getD i 0) b i (ouR a b i) b.length).1.set (i+b.length) ((inR (a.getD i 0) b i (ouR a b i) b.length).2%4294967296)
def tiD(a b:List Int):List Int:=ouR a b a.length
theorem Tm{l:List Int}{i:Nat}{v:Int}(h:Dg l):Dg (l.set i (v%4294967296)):=fun x hx=>by
 rcases List.mem_or_eq_of_mem_set hx with hx|rfl
 ·exact h x hx
 omega
section
variable{x:Int}{a b o:List Int}{i k:Nat}
theorem zx:∀{k:Nat},(inR x b i o k).1.length=o.length
 |0=>rfl
 |k+1=>by rw[inR,List.length_set,zx (k:=k)]
theorem Gq(h:Dg o):∀{k:Nat},Dg (inR x b i o k).1
 |0=>h
 |k+1=>by rw[inR];exact Tm (Gq h (k:=k))
theorem Zy(hx:0<=x/\x<=4294967295)(hb:Dg b)(ho:Dg o):∀{k:Nat},0<=(inR x b i o k).2/\(inR x b i o k).2<=4294967295
 |0=>⟨by show(0:Int)<=0;decide,by show(0:Int)<=4294967295;decide⟩
 |k+1=>by
  have h1:=Zy hx hb ho (k:=k)
  have h2:=Sx hx (Ef hb k)
  have h3:=Ef (Gq ho (x:=x) (b:=b) (i:=i) (k:=k)) (i+k)
  rw[inR]
  show 0<=_/_/\_/_<=(4294967295:Int)
  omega
theorem zk:∀{k:Nat},(ouR a b k).length=a.length+b.length
 |0=>by simp[ouR]
 |k+1=>by rw[ouR,List.length_set,zx,zk (k:=k)]
theorem Sq:∀{k:Nat},Dg (ouR a b k)
 |0=>fun x hx=>by rw[ouR]at hx;rw[(List.mem_replicate.1 hx).2];exact⟨by decide,by decide⟩
 |k+1=>by rw[ouR];exact Tm (Gq (Sq (k:=k)))
theorem Aa{d:List Int}{k:Nat}(h:k<d.length):d.getD k 0=d[k]:=by simp[List.getD,h]
theorem Zx{L:List Int}{c:Int}(h:L=(inR x b i o k).1/\c=(inR x b i o k).2)(hk:k<b.length)(hl:i+k<L.length):L.set (i+k) ((c+(x*b[k]+L[i+k]))%4294967296)=(inR x b i o (k+1)).1/\(c+(x*b[k]+L[i+k]))/4294967296=(inR x b i o (k+1)).2:=by
 obtain⟨rfl,rfl⟩:=h
 rw[inR,Aa hk,Aa hl];exact⟨rfl,rfl⟩
end
def shN(y:Int)(a:List Int):Nat->List Int×Int
 |0=>(List.replicate a.length 0,0)
 |k+1=>((shN y a k).1.set (a.length-1-k) (((shN y a k).2*4294967296+a.getD (a.length-1-k) 0)/y%4294967296),((shN y a k).2*4294967296+a.getD (a.length-1-k) 0)%y)
section
variable{y:Int}{a:List Int}
theorem vi:∀{k:Nat},(shN y a k).1.length=a.length
 |0=>by simp[shN]
 |k+1=>by rw[shN,List.length_set,vi (k:=k)]
theorem Yo(hy:1<=y/\y<=4294967295):∀{k:Nat},0<=(shN y a k).2/\(shN y a k).2<=4294967294
 |0=>⟨by show(0:Int)<=0;decide,by show(0:Int)<=4294967294;decide⟩
 |k+1=>by
  rw[shN]
  have h1:=Int.emod_nonneg ((shN y a k).2*4294967296+a.getD (a.length-1-k) 0) (show y≠0 by omega)
  have h2:=Int.emod_lt_of_pos ((shN y a k).2*4294967296+a.getD (a.length-1-k) 0) (show 0<y by omega)
  show 0<=_%_/\_%_<=(4294967294:Int)
  omega
theorem Yn{k:Nat}{L:List Int}{c:Int}(h:L=(shN y a k).1/\c=(shN y a k).2)(hk:a.length-1-k<a.length):L.set (a.length-1-k) ((c*4294967296+a[a.length-1-k])/y%4294967296)=(shN y a (k+1)).1/\(c*4294967296+a[a.length-1-k])%y=(shN y a (k+1)).2:=by
 obtain⟨rfl,rfl⟩:=h
 rw[shN,Aa hk];exact⟨rfl,rfl⟩
end
theorem uj:(Tryz.prog.info? 192).map (·.bytes)=some 4:=by kernel_rfl
theorem Ys:ej Tryz.prog 192=some none:=by kernel_rfl
theorem lw:bj Tryz.prog 192=some (.int .u32 0):=by kernel_rfl
theorem Si(a:List Int)(ha:ip a (fun y=>True))(b:List Int)(hb:ip b (fun y=>True))(hf:Dg a)(hg:Dg b)(hsa:a.length<=1000)(hsb:b.length<=1000):PRet Tryz.prog 199 [.tree 1 (a.map cx),.tree 1 (b.map cx)] (fun q=>q=.tree 1 ((plD a b).map cx)):=by
 refine ovT [12,14,27,28,32,33,35,100033] [10] Tryz.func199 rfl rfl (LenG.of ?_)
 refine LenG.of (OpG.lk (Hv rfl rfl) ?_)
 refine⟨by omega,OpG.nw (ot (len:=(max a.length b.length+1)) bz 0 Tryz.underlying46 dz lw uj rfl rfl rfl rfl (by omega) (by omega) (by omega) (by omega)) rfl ?_⟩
 refine LpG.on (fun k0:KDc=>(⟨fL [(0,.tree 1 (a.map cx)),(1,.tree 1 (b.map cx)),(5,.sl 0 0 0 (max a.length b.length+1)),(6,.v (.int .u64 k0.c)),(16,.v (.int .i64 (((max a.length b.length+1):Nat):Int))),(17,.v (.int .i64 ((k0.k:Nat):Int)))],hLz [(0,⟨0,rF cx k0.L,1,false⟩)],1⟩:St)) (fun k0=>((max a.length b.length+1)-k0.k)) (fun k0=>(k0.k<=(max a.length b.length+1)/\(k0.L=(plN a b k0.k).1++List.replicate ((max a.length b.length+1)-k0.k) 0/\k0.c=(plN a b k0.k).2))) (⟨0,List.replicate (max a.length b.length+1) 0,0⟩:KDc) (cO (.cons rfl rfl (.cons rfl rfl (.cons rfl rfl (.cons rfl rfl (.cons rfl rfl (.cons rfl rfl .nil)))))) (.cons rfl rfl (aa bz _ _) .nil)) ⟨ag5 _,⟨by simp[plN],rfl⟩⟩ ?_
 rintro k0 he
 obtain⟨hle_k0,hc⟩:=he
 refine cL (fun hd=>?_) (fun hge18=>?_)
 ·have hga:=Ef hf k0.k
  have hgb:=Ef hg k0.k
  have hh:=Y3 hf hg k0.k
  rw[<-hc.2]at hh
  refine ArgG.mk (Ed a ha ‹_› k0.k) rfl ?_
  rintro _ rfl
  refine ArgG.mk (Ed b hb ‹_› k0.k) rfl ?_
  rintro _ rfl
  refine OpG.lk (pg (r:=a.getD k0.k 0+b.getD k0.k 0) rfl rfl (by rw[IntKind.wrap_u64];omega)) (OpG.lk (pg (r:=(k0.c+(a.getD k0.k 0+b.getD k0.k 0))) rfl rfl (by rw[IntKind.wrap_u64];omega)) ?_)
  refine OpG.lk (bn (r:=(k0.c+(a.getD k0.k 0+b.getD k0.k 0))%4294967296) Tryz.underlying12 Tryz.underlying192 rfl (by rw[IntKind.wrap_u32])) (OpG.lk (de (i:=k0.k) Tryz.underlying46 dz rfl rfl rfl (by omega) rfl) ?_)
  refine OpG.wr (er bz dz rfl rfl rfl rfl rfl rfl (by rw[hc.1];simp[vy];omega)) rfl (OpG.lk (rr (q:=32) (r:=(k0.c+(a.getD k0.k 0+b.getD k0.k 0))/4294967296) rfl rfl (by decide) (Int.fdiv_eq_ediv_of_nonneg _ (by decide))) ?_)
  refine⟨by omega,⟨(⟨k0.k+1,k0.L.set k0.k ((k0.c+(a.getD k0.k 0+b.getD k0.k 0))%4294967296),(k0.c+(a.getD k0.k 0+b.getD k0.k 0))/4294967296⟩:KDc),(by show(max a.length b.length+1)-(k0.k+1)<(max a.length b.length+1)-k0.k;omega),(cO (.cons rfl rfl (.cons rfl rfl (.cons rfl rfl (.cons rfl rfl (.cons rfl rfl (.cons rfl rfl .nil)))))) (.cons rfl rfl (aa bz _ _) .nil)),?_⟩⟩
  refine⟨by show k0.k+1<=_;omega,⟨?_,by rw[hc.2];rfl⟩⟩
  show k0.L.set k0.k _=_
  rw[hc.1,J0 vy hd,hc.2];rfl
 refine RegG.via (fun _ h=>bm [0] 5 (.tree 1 (k0.L.map cx)) (b7 bz (agx.2 rfl) rfl (by rw[hc.1];simp[vy];omega)) rfl h) (aw ?_)
 refine rV rfl rfl ?_
 have e:k0.k=(max a.length b.length+1):=by omega
 unfold plD
 rw[hc.1,e,Nat.sub_self,List.replicate_zero,List.append_nil];rfl
theorem Dx(a:List Int)(ha:ip a (fun y=>True))(b:List Int)(hb:ip b (fun y=>True))(hf:Dg a)(hg:Dg b)(hsa:a.length<=1000)(hsb:b.length<=1000):PRet Tryz.prog 200 [.tree 1 (a.map cx),.tree 1 (b.map cx)] (fun q=>q=.tree 1 ((miD a b).map cx)):=by
 refine ovT [11,21,25,27,31,32,34,100032] [10] Tryz.func200 rfl rfl (LenG.of ?_)
 refine OpG.nw (pf (len:=a.length) bz 0 Tryz.underlying46 dz lw uj rfl rfl rfl rfl rfl (by omega) (by omega)) rfl (LenG.of ?_)
 refine LpG.on (fun k0:KDc=>(⟨fL [(0,.tree 1 (a.map cx)),(1,.tree 1 (b.map cx)),(5,.sl 0 0 0 a.length),(6,.v (.int .u64 k0.c)),(13,.v (.int .i64 ((a.length:Nat):Int))),(14,.v (.int .i64 ((k0.k:Nat):Int)))],hLz [(0,⟨0,rF cx k0.L,1,false⟩)],1⟩:St)) (fun k0=>(a.length-k0.k)) (fun k0=>(k0.k<=a.length/\(k0.L=(miN a b k0.k).1++List.replicate (a.length-k0.k) 0/\k0.c=(miN a b k0.k).2))) (⟨0,List.replicate a.length 0,0⟩:KDc) (cO (.cons rfl rfl (.cons rfl rfl (.cons rfl rfl (.cons rfl rfl (.cons rfl rfl (.cons rfl rfl .nil)))))) (.cons rfl rfl (aa bz _ _) .nil)) ⟨ag5 _,⟨by simp[miN],rfl⟩⟩ ?_
 rintro k0 he
 have hgr_k0:a.length<=140737488355328:=ha.1
 obtain⟨hle_k0,hc⟩:=he
 refine cL (fun hd=>?_) (fun hge15=>?_)
 ·have hh:=hf _ (ags hd)
  have hgb:=Ef hg k0.k
  have hi:=aef (a:=a) (b:=b) k0.k
  rw[<-hc.2]at hi
  have h64:=Yd (x:=(a[k0.k]-b.getD k0.k 0-k0.c)) (by omega) (by omega)
  have hA:a.getD k0.k 0=a[k0.k]:=by simp[List.getD,hd]
  refine IdxG.of ‹_› (OpG.lk (j5 Tryz.underlying192 Tryz.underlying12 rfl hh.1 (by omega)) ?_)
  refine ArgG.mk (Ed b hb ‹_› k0.k) rfl ?_
  rintro _ rfl
  refine OpG.lk (pd (r:=IntKind.u64.wrap (a[k0.k]-b.getD k0.k 0)) rfl rfl rfl) (OpG.lk (pd (r:=IntKind.u64.wrap (a[k0.k]-b.getD k0.k 0-k0.c)) rfl rfl (by rw[IntKind.wrap_u64,IntKind.wrap_u64,IntKind.wrap_u64];omega)) ?_)
  refine⟨by kernel_rfl,OpG.lk (bn (r:=(a[k0.k]-b.getD k0.k 0-k0.c)%4294967296) Tryz.underlying12 Tryz.underlying192 rfl h64.2) ?_⟩
  refine OpG.lk (de (i:=k0.k) Tryz.underlying46 dz rfl rfl rfl (by omega) rfl) (OpG.wr (er bz dz rfl rfl rfl rfl rfl rfl (by rw[hc.1];simp[wg];omega)) rfl ?_)
  refine OpG.lk (rr (q:=63) (r:=if(a[k0.k]-b.getD k0.k 0-k0.c)<0 then 1 else 0) rfl rfl (by decide) h64.1) ⟨by omega,⟨(⟨k0.k+1,k0.L.set k0.k ((a[k0.k]-b.getD k0.k 0-k0.c)%4294967296),if(a[k0.k]-b.getD k0.k 0-k0.c)<0 then 1 else 0⟩:KDc),(by show a.length-(k0.k+1)<a.length-k0.k;omega),(cO (.cons rfl rfl (.cons rfl rfl (.cons rfl rfl (.cons rfl rfl (.cons rfl rfl (.cons rfl rfl .nil)))))) (.cons rfl rfl (aa bz _ _) .nil)),?_⟩⟩
  refine⟨by show k0.k+1<=_;omega,⟨?_,by rw[<-hA,hc.2];rfl⟩⟩
  show k0.L.set k0.k _=_
  rw[hc.1,J0 wg hd,<-hA,hc.2];rfl
 refine RegG.via (fun _ h=>bm [0] 5 (.tree 1 (k0.L.map cx)) (b7 bz (agx.2 rfl) rfl (by rw[hc.1];simp[wg];omega)) rfl h) (aw ?_)
 refine rV rfl rfl ?_
 have e:k0.k=a.length:=by omega
 unfold miD
 rw[hc.1,e,Nat.sub_self,List.replicate_zero,List.append_nil];rfl
theorem Un(a:List Int)(ha:ip a (fun y=>True))(b:List Int)(hb:ip b (fun y=>True))(hn:Dg a)(hj:Dg b)(hsa:a.length<=1000)(hsb:b.length<=1000):PRet Tryz.prog 201 [.tree 1 (a.map cx),.tree 1 (b.map cx)] (fun q=>q=.tree 1 ((tiD a b).map cx)):=by
 refine ovT [16,33,35,36,41,42,43,44,45,51,52,54,62,63,100052,100063] [15] Tryz.func201 rfl rfl (LenG.of ?_)
 refine LenG.of ⟨by omega,OpG.nw (pf (len:=(a.length+b.length)) bz 0 Tryz.underlying46 dz lw uj rfl rfl rfl rfl (by omega) (by omega) (by omega)) rfl ?_⟩
 refine LenG.of (LpG.on (fun k0:KL Int=>(⟨fL [(1,.tree 1 (b.map cx)),(5,.sl 0 0 0 (a.length+b.length)),(17,.tree 1 (a.map cx)),(18,.v (.int .i64 ((a.length:Nat):Int))),(19,.v (.int .i64 ((k0.k:Nat):Int)))],hLz [(0,⟨0,rF cx k0.L,1,false⟩)],1⟩:St)) (fun k0=>(a.length-k0.k)) (fun k0=>(k0.k<=a.length/\(k0.L=ouR a b k0.k))) (⟨0,List.replicate (a.length+b.length) 0⟩:KL Int) (cO (.cons rfl rfl (.cons rfl rfl (.cons rfl rfl (.cons rfl rfl (.cons rfl rfl .nil))))) (.cons rfl rfl (aa bz _ _) .nil)) ⟨ag5 _,rfl⟩ ?_)
 rintro k0 hi
 have hgr_k0:a.length<=140737488355328:=ha.1
 obtain⟨hle_k0,he⟩:=hi
 refine cL (fun hg=>?_) (fun hge20=>?_)
 ·have hx:=hn _ (ags hg)
  have hk:Dg k0.L:=by rw[he];exact Sq
  have hl:k0.L.length=a.length+b.length:=by rw[he];exact zk
  refine IdxG.of ‹_› (LenG.of ?_)
  refine LpG.on (fun k2:KDc=>(⟨fL [(1,.tree 1 (b.map cx)),(5,.sl 0 0 0 (a.length+b.length)),(6,.v (.int .i64 ((k0.k:Nat):Int))),(7,.v (.int .u32 a[k0.k])),(8,.v (.int .u64 k2.c)),(17,.tree 1 (a.map cx)),(18,.v (.int .i64 ((a.length:Nat):Int))),(19,.v (.int .i64 ((k0.k:Nat):Int))),(24,.tree 1 (b.map cx)),(25,.v (.int .i64 ((b.length:Nat):Int))),(26,.v (.int .i64 ((k2.k:Nat):Int)))],hLz [(0,⟨0,rF cx k2.L,1,false⟩)],1⟩:St)) (fun k2=>(b.length-k2.k)) (fun k2=>(k2.k<=b.length/\(k2.L=(inR a[k0.k] b k0.k k0.L k2.k).1/\k2.c=(inR a[k0.k] b k0.k k0.L k2.k).2))) (⟨0,k0.L,0⟩:KDc) (cO (.cons rfl rfl (.cons rfl rfl (.cons rfl rfl (.cons rfl rfl (.cons rfl rfl (.cons rfl rfl (.cons rfl rfl (.cons rfl rfl (.cons rfl rfl (.cons rfl rfl (.cons rfl rfl .nil))))))))))) (.cons rfl rfl (aa bz _ _) .nil)) ⟨ag5 _,⟨rfl,rfl⟩⟩ ?_
  rintro k2 hi
  have hgr_k2:b.length<=140737488355328:=hb.1
  obtain⟨hle_k2,hd⟩:=hi
  refine cL (fun hh=>?_) (fun hge27=>?_)
  ·have hy:=hj _ (ags hh)
   have hm:k2.L.length=a.length+b.length:=by rw[hd.1,zx,hl]
   have hf:k0.k+k2.k<k2.L.length:=by omega
   have hxy:=Sx hx hy
   have hz:=(show Dg k2.L by rw[hd.1];exact Gq hk) _ (ags hf)
   have hc:=Zy hx hj hk (i:=k0.k) (k:=k2.k)
   rw[<-hd.2]at hc
   refine IdxG.of ‹_› (OpG.lk (j5 Tryz.underlying192 Tryz.underlying12 rfl hx.1 (by omega)) ?_)
   refine OpG.lk (j5 Tryz.underlying192 Tryz.underlying12 rfl hy.1 (by omega)) (OpG.lk (m4 (r:=(a[k0.k]*b[k2.k])) rfl rfl (by rw[IntKind.wrap_u64];omega)) ?_)
   refine⟨by omega,OpG.lk (de (i:=k0.k+k2.k) Tryz.underlying46 dz rfl rfl (by omega) (by omega) rfl) ?_⟩
   refine OpG.lk (te bz (L:=k2.L) (i:=k0.k+k2.k) Ys rfl rfl hf rfl) (OpG.lk (j5 Tryz.underlying192 Tryz.underlying12 rfl hz.1 (by omega)) ?_)
   refine OpG.lk (pg (r:=((a[k0.k]*b[k2.k])+(k2.L[k0.k+k2.k]'hf))) rfl rfl (by rw[IntKind.wrap_u64];omega)) (OpG.lk (pg (r:=(k2.c+((a[k0.k]*b[k2.k])+(k2.L[k0.k+k2.k]'hf)))) rfl rfl (by rw[IntKind.wrap_u64];omega)) ?_)
   refine⟨by omega,OpG.lk (bn (r:=(k2.c+((a[k0.k]*b[k2.k])+(k2.L[k0.k+k2.k]'hf)))%4294967296) Tryz.underlying12 Tryz.underlying192 rfl (by rw[IntKind.wrap_u32])) ?_⟩
   refine OpG.lk (de (i:=k0.k+k2.k) Tryz.underlying46 dz rfl rfl (by omega) (by omega) rfl) (OpG.wr (er bz dz rfl rfl rfl rfl rfl rfl hf) rfl ?_)
   refine OpG.lk (rr (q:=32) (r:=(k2.c+((a[k0.k]*b[k2.k])+(k2.L[k0.k+k2.k]'hf)))/4294967296) rfl rfl (by decide) (Int.fdiv_eq_ediv_of_nonneg _ (by decide))) ⟨by omega,⟨(⟨k2.k+1,k2.L.set (k0.k+k2.k) ((k2.c+((a[k0.k]*b[k2.k])+(k2.L[k0.k+k2.k]'hf)))%4294967296),(k2.c+((a[k0.k]*b[k2.k])+(k2.L[k0.k+k2.k]'hf)))/4294967296⟩:KDc),(by show b.length-(k2.k+1)<b.length-k2.k;omega),(cO (.cons rfl rfl (.cons rfl rfl (.cons rfl rfl (.cons rfl rfl (.cons rfl rfl (.cons rfl rfl (.cons rfl rfl (.cons rfl rfl (.cons rfl rfl (.cons rfl rfl (.cons rfl rfl .nil))))))))))) (.cons rfl rfl (aa bz _ _) .nil)),?_⟩⟩
   exact⟨by show k2.k+1<=_;omega,Zx hd hh hf⟩
  have hm:k2.L.length=a.length+b.length:=by rw[hd.1,zx,hl]
  have ho:k2.k=b.length:=by omega
  refine LenG.of ⟨by omega,OpG.lk (bn (r:=k2.c%4294967296) Tryz.underlying12 Tryz.underlying192 rfl (by rw[IntKind.wrap_u32])) ?_⟩
  refine OpG.lk (de (i:=k0.k+b.length) Tryz.underlying46 dz rfl rfl (by omega) (by omega) rfl) (OpG.wr (er bz dz rfl rfl rfl rfl rfl rfl (by rw[hm];omega)) rfl ?_)
  refine⟨by omega,⟨(⟨k0.k+1,k2.L.set (k0.k+b.length) (k2.c%4294967296)⟩:KL Int),(by show a.length-(k0.k+1)<a.length-k0.k;omega),(cO (.cons rfl rfl (.cons rfl rfl (.cons rfl rfl (.cons rfl rfl (.cons rfl rfl .nil))))) (.cons rfl rfl (aa bz _ _) .nil)),?_⟩⟩
  refine⟨by show k0.k+1<=_;omega,?_⟩
  show k2.L.set _ _=ouR a b (k0.k+1)
  rw[ouR,Aa hg,<-he,<-ho,<-hd.1,<-hd.2]
 refine RegG.via (fun _ h=>bm [0] 5 (.tree 1 (k0.L.map cx)) (b7 bz (agx.2 rfl) rfl (by rw[he,zk])) rfl h) (aw ?_)
 refine rV rfl rfl ?_
 have e:k0.k=a.length:=by omega
 unfold tiD
 rw[he,e];rfl
theorem Jz(a:List Int)(ha:ip a (fun y=>True))(y:Int)(hy:1<=y/\y<=4294967295)(hh:Dg a)(hsa:a.length<=1000):PRet Tryz.prog 230 [.tree 1 (a.map cx),.v (.int .u32 y)] (fun q=>q=.tup [.tree 1 ((shN y a a.length).1.map cx),.v (.int .u32 (shN y a a.length).2)]):=by
 refine ovT [12,21,24,26,27,32,33,34,35,38,39,42,100035] [9] Tryz.func230 rfl rfl (LenG.of ?_)
 refine OpG.nw (pf (len:=a.length) bz 0 Tryz.underlying46 dz lw uj rfl rfl rfl rfl rfl (by omega) (by omega)) rfl (LenG.of ?_)
 refine⟨by omega,LpG.on (fun k0:KDc=>(⟨fL [(0,.tree 1 (a.map cx)),(1,.v (.int .u32 y)),(6,.sl 0 0 0 a.length),(7,.v (.int .u64 k0.c)),(8,.v (.int .i64 ((a.length:Int)-1-((k0.k:Nat):Int))))],hLz [(0,⟨0,rF cx k0.L,1,false⟩)],1⟩:St)) (fun k0=>(a.length-k0.k)) (fun k0=>(k0.k<=a.length/\(k0.L=(shN y a k0.k).1/\k0.c=(shN y a k0.k).2))) (⟨0,List.replicate a.length 0,0⟩:KDc) (cO (.cons rfl rfl (.cons rfl rfl (.cons rfl rfl (.cons rfl rfl (.cons (congrArg (fun z=>AV.v (.int .i64 z)) (by(show(a.length:Int)-1=(a.length:Int)-1-((0:Nat):Int);omega))) rfl .nil))))) (.cons rfl rfl (aa bz _ _) .nil)) ⟨ag5 _,⟨rfl,rfl⟩⟩ ?_⟩
 rintro k0 he
 have hgr_k0:a.length<=140737488355328:=ha.1
 obtain⟨hle_k0,hb⟩:=he
 refine cD (fun hf=>?_) (fun hf=>?_)
 ·have hc:a.length-1-k0.k<a.length:=by omega
  have hg:=hh _ (ags hc)
  have hd:=Yo (a:=a) hy (k:=k0.k)
  rw[<-hb.2]at hd
  refine OpG.lk (Rd (q:=32) (r:=k0.c*4294967296) rfl rfl (by decide) (by rw[IntKind.wrap_u64];show _*(4294967296:Int)%_=_;omega)) (OpG.lk (cp Tryz.underlying46 dz rfl rfl (show((a.length:Int)-1-((k0.k:Nat):Int))=(((a.length-1-k0.k):Nat):Int)by omega) hc) ?_)
  refine OpG.lk (j5 Tryz.underlying192 Tryz.underlying12 rfl hg.1 (by omega)) (OpG.lk (Rf rfl rfl hd.1 (by omega) hg.1 hg.2) ?_)
  refine OpG.lk (j5 Tryz.underlying192 Tryz.underlying12 rfl (by omega) (by omega)) (OpG.lk (Re rfl rfl (by omega) (by omega) hy.1) ?_)
  refine OpG.lk (bn (r:=(k0.c*4294967296+(a[a.length-1-k0.k]'hc))/y%4294967296) Tryz.underlying12 Tryz.underlying192 rfl (by rw[IntKind.wrap_u32])) (OpG.lk (de (i:=(a.length-1-k0.k)) Tryz.underlying46 dz rfl rfl (show((a.length:Int)-1-((k0.k:Nat):Int))=(((a.length-1-k0.k):Nat):Int)by omega) hc rfl) ?_)
  refine OpG.wr (er bz dz rfl rfl rfl rfl rfl rfl (by rw[hb.1,vi];exact hc)) rfl (OpG.lk (j5 Tryz.underlying192 Tryz.underlying12 rfl (by omega) (by omega)) ?_)
  refine OpG.lk (fm rfl rfl (by omega) hy.1) ⟨by omega,⟨(⟨k0.k+1,k0.L.set (a.length-1-k0.k) ((k0.c*4294967296+(a[a.length-1-k0.k]'hc))/y%4294967296),(k0.c*4294967296+(a[a.length-1-k0.k]'hc))%y⟩:KDc),(by show a.length-(k0.k+1)<a.length-k0.k;omega),(cO (.cons rfl rfl (.cons rfl rfl (.cons rfl rfl (.cons rfl rfl (.cons (congrArg (fun z=>AV.v (.int .i64 z)) (by(show _=(a.length:Int)-1-(((k0.k+1:Nat)):Int);omega))) rfl .nil))))) (.cons rfl rfl (aa bz _ _) .nil)),?_⟩⟩
  exact⟨by show k0.k+1<=_;omega,Yn hb hc⟩
 have hd:=Yo (a:=a) hy (k:=k0.k)
 rw[<-hb.2]at hd
 refine RegG.via (fun _ h=>bm [0] 6 (.tree 1 (k0.L.map cx)) (b7 bz (agx.2 rfl) rfl (by rw[hb.1,vi])) rfl h) (aw ?_)
 refine OpG.lk (bn (r:=k0.c) Tryz.underlying12 Tryz.underlying192 rfl (by rw[IntKind.wrap_u32];omega)) ⟨.inr rfl,_,Ng.two rfl (Uc.tmp ⟨[],FzP.pure rfl⟩) (Uc.tmp ⟨[],FzP.pure rfl⟩),?_⟩
 have e:k0.k=a.length:=by omega
 rw[hb.1,hb.2,e];rfl
theorem Ge{b:Bool}{d:List Int}(h:Dg d):Dg (nmB b d).a_:=by
 unfold nmB;split
 ·intro x hx;simp at hx
 exact fun x hx=>h x (L6 hx)
theorem zm{b:Bool}{d:List Int}:(nmB b d).a_.length<=d.length:=by
 unfold nmB;split
 ·exact ag5 _
 exact Ec d
theorem pq{x:GBig}(h:FitBig x):FitBig (nmB x.b_ x.a_):=⟨aff h.a_⟩
theorem dw{l:List Int}(h:l.length<=5000):ip l (fun _=>True):=⟨by omega,fun _ _=>trivial⟩
theorem lm{a b:List Int}:(plD a b).length=max a.length b.length+1:=vy
theorem lp{a b:List Int}:(miD a b).length=a.length:=wg
theorem nz{a b:List Int}:(tiD a b).length=a.length+b.length:=zk
def nrB(x:GBig):GBig:=nmB x.b_ x.a_
def ngB(x:GBig):GBig:=nmB (!x.b_) x.a_
def coB(x y:GBig):Int:=
 if(nrB x).b_=(nrB y).b_ then(if(nrB x).b_ then cmD (nrB y).a_ (nrB x).a_ else cmD (nrB x).a_ (nrB y).a_)
 else if(nrB x).b_ then -1 else 1
def adB(x y:GBig):GBig:=
 if(nrB x).b_=(nrB y).b_ then nmB (nrB x).b_ (plD (nrB x).a_ (nrB y).a_)
 else if cmD (nrB x).a_ (nrB y).a_<0 then nmB (nrB y).b_ (miD (nrB y).a_ (nrB x).a_)else nmB (nrB x).b_ (miD (nrB x).a_ (nrB y).a_)
def muB(x y:GBig):GBig:=nmB (x.b_ !=y.b_) (tiD x.a_ y.a_)
def ofD(n:Int):List Int:=[(if n<0 then -n else n)%4294967296,(if n<0 then -n else n)/4294967296]
theorem agp(x:GBig)(hx:FitBig x)(y:GBig)(hy:FitBig y)(hc:Dg x.a_)(hd:Dg y.a_)(he:x.a_.length<=400)(hf:y.a_.length<=400):PRet Tryz.prog 165 [.agg (bgA x),.agg (bgA y)] (fun q=>q=.agg (bgA (adB x y))):=by
 have hdx:Dg (nrB x).a_:=Ge hc
 have hdy:Dg (nrB y).a_:=Ge hd
 have hlx:(nrB x).a_.length<=400:=aha zm he
 have hly:(nrB y).a_.length<=400:=aha zm hf
 refine ovT [] [] Tryz.func165 rfl rfl (ArgG.mk ((show PRet Tryz.prog 83 [.agg (bgA x)] (fun q=>q=.agg (bgA (nrB x)))from wa x hx (by omega))) rfl ?_)
 rintro _ rfl
 refine ArgG.mk ((show PRet Tryz.prog 83 [.agg (bgA y)] (fun q=>q=.agg (bgA (nrB y)))from wa y hy (by omega))) rfl ?_
 rintro _ rfl
 refine⟨by kernel_rfl,cB (fun ha=>?_) (fun ha=>?_)⟩
 ·refine ArgG.mk (Si ((nrB x).a_) (pq hx).a_ ((nrB y).a_) (pq hy).a_ ‹_› ‹_› (by omega) (by omega)) rfl ?_
  rintro _ rfl
  refine ArgG.mk (el ((nrB x).b_) ((plD ((nrB x).a_) ((nrB y).a_))) (dw (by(simp only[lm,lp,nz];omega))) (by(simp only[lm,lp,nz];omega))) rfl ?_
  rintro _ rfl
  refine⟨by kernel_rfl,⟨.inr rfl,_,Ng.cell rfl db rfl rfl rfl rfl rfl ⟨[],FzP.pure rfl⟩,?_⟩⟩
  unfold adB;rw[ag1 (by simpa using ha)]
 refine ArgG.mk (ma ((nrB x).a_) (pq hx).a_ ((nrB y).a_) (pq hy).a_ (by omega)) rfl ?_
 rintro _ rfl
 refine cD (fun hb=>?_) (fun hb=>?_)
 ·refine ArgG.mk (Dx ((nrB y).a_) (pq hy).a_ ((nrB x).a_) (pq hx).a_ ‹_› ‹_› (by omega) (by omega)) rfl ?_
  rintro _ rfl
  refine ArgG.mk (el ((nrB y).b_) ((miD ((nrB y).a_) ((nrB x).a_))) (dw (by(simp only[lm,lp,nz];omega))) (by(simp only[lm,lp,nz];omega))) rfl ?_
  rintro _ rfl
  refine⟨by kernel_rfl,⟨.inr rfl,_,Ng.cell rfl db rfl rfl rfl rfl rfl ⟨[],FzP.pure rfl⟩,?_⟩⟩
  unfold adB;rw[ag0 (by simpa using ha),ag1 hb]
 refine ArgG.mk (Dx ((nrB x).a_) (pq hx).a_ ((nrB y).a_) (pq hy).a_ ‹_› ‹_› (by omega) (by omega)) rfl ?_
 rintro _ rfl
 refine ArgG.mk (el ((nrB x).b_) ((miD ((nrB x).a_) ((nrB y).a_))) (dw (by(simp only[lm,lp,nz];omega))) (by(simp only[lm,lp,nz];omega))) rfl ?_
 rintro _ rfl
 refine⟨by kernel_rfl,⟨.inr rfl,_,Ng.cell rfl db rfl rfl rfl rfl rfl ⟨[],FzP.pure rfl⟩,?_⟩⟩
 unfold adB;rw[ag0 (by simpa using ha),ag0 hb]
theorem aeb(x:GBig)(hx:FitBig x)(y:GBig)(hy:FitBig y)(hDx:Dg x.a_)(hDy:Dg y.a_)(hsx:x.a_.length<=400)(hsy:y.a_.length<=400):PRet Tryz.prog 166 [.agg (bgA x),.agg (bgA y)] (fun q=>q=.agg (bgA (muB x y))):=by
 refine ovT [] [] Tryz.func166 rfl rfl (ArgG.mk (Un x.a_ hx.a_ y.a_ hy.a_ ‹_› ‹_› (by omega) (by omega)) rfl ?_)
 rintro _ rfl
 refine ArgG.mk (el ((x.b_ !=y.b_)) ((tiD x.a_ y.a_)) (dw (by(simp only[lm,lp,nz];omega))) (by(simp only[lm,lp,nz];omega))) rfl ?_
 rintro _ rfl
 refine⟨by kernel_rfl,⟨.inr rfl,_,Ng.cell rfl db rfl rfl rfl rfl rfl ⟨[],FzP.pure rfl⟩,?_⟩⟩
 rfl
theorem af3(x:GBig)(hx:FitBig x)(y:GBig)(hy:FitBig y)(hd:Dg x.a_)(he:Dg y.a_)(hf:x.a_.length<=400)(hg:y.a_.length<=400):PRet Tryz.prog 85 [.agg (bgA x),.agg (bgA y)] (fun q=>q=.v (.int .i64 (coB x y))):=by
 have hdx:Dg (nrB x).a_:=Ge hd
 have hdy:Dg (nrB y).a_:=Ge he
 have hlx:(nrB x).a_.length<=400:=aha zm hf
 have hly:(nrB y).a_.length<=400:=aha zm hg
 refine ovT [] [] Tryz.func85 rfl rfl (ArgG.mk ((show PRet Tryz.prog 83 [.agg (bgA x)] (fun q=>q=.agg (bgA (nrB x)))from wa x hx (by omega))) rfl ?_)
 rintro _ rfl
 refine ArgG.mk ((show PRet Tryz.prog 83 [.agg (bgA y)] (fun q=>q=.agg (bgA (nrB y)))from wa y hy (by omega))) rfl ?_
 rintro _ rfl
 refine⟨by kernel_rfl,cB (fun hc=>?_) (fun hc=>?_)⟩
 ·refine cB (fun hh=>?_) (fun hh=>?_)
  ·refine rV rfl rfl (congrArg (fun z=>AV.v (.int .i64 z)) ?_)
   unfold coB
   cases hn:(nrB x).b_<;>cases hm:(nrB y).b_<;>simp_all
  refine cB (fun ha=>?_) (fun ha=>?_)
  ·refine rV rfl rfl (congrArg (fun z=>AV.v (.int .i64 z)) ?_)
   unfold coB
   cases hn:(nrB x).b_<;>cases hm:(nrB y).b_<;>simp_all
  refine cB (fun hb=>?_) (fun hb=>?_)
  ·refine ArgG.mk (ma ((nrB y).a_) (pq hy).a_ ((nrB x).a_) (pq hx).a_ (by omega)) rfl ?_
   rintro _ rfl
   refine rV rfl rfl (congrArg (fun z=>AV.v (.int .i64 z)) ?_)
   unfold coB
   cases hn:(nrB x).b_<;>cases hm:(nrB y).b_<;>simp_all
  refine ArgG.mk (ma ((nrB x).a_) (pq hx).a_ ((nrB y).a_) (pq hy).a_ (by omega)) rfl ?_
  rintro _ rfl
  refine rV rfl rfl (congrArg (fun z=>AV.v (.int .i64 z)) ?_)
  unfold coB
  cases hn:(nrB x).b_<;>cases hm:(nrB y).b_<;>simp_all
 refine cF (cB (fun ha=>?_) (fun ha=>?_))
 ·refine rV rfl rfl (congrArg (fun z=>AV.v (.int .i64 z)) ?_)
  unfold coB
  cases hn:(nrB x).b_<;>cases hm:(nrB y).b_<;>simp_all
 refine cB (fun hb=>?_) (fun hb=>?_)
 ·refine ArgG.mk (ma ((nrB y).a_) (pq hy).a_ ((nrB x).a_) (pq hx).a_ (by omega)) rfl ?_
  rintro _ rfl
  refine rV rfl rfl (congrArg (fun z=>AV.v (.int .i64 z)) ?_)
  unfold coB
  cases hn:(nrB x).b_<;>cases hm:(nrB y).b_<;>simp_all
 refine ArgG.mk (ma ((nrB x).a_) (pq hx).a_ ((nrB y).a_) (pq hy).a_ (by omega)) rfl ?_
 rintro _ rfl
 refine rV rfl rfl (congrArg (fun z=>AV.v (.int .i64 z)) ?_)
 unfold coB
 cases hn:(nrB x).b_<;>cases hm:(nrB y).b_<;>simp_all
theorem of_p(n:Int)(h1:-9223372036854775808<=n)(h2:n<=9223372036854775807):PRet Tryz.prog 139 [.v (.int .i64 n)] (fun q=>q=.agg (bgA (nmB (decide (n<0)) (ofD n)))):=by
 have hlo:(ofD n).length<=2:=ag7 _
 have hfo:ip (ofD n) (fun _=>True):=dw (by omega)
 refine ovT [5,9,13,15,16,17] [] Tryz.func139 rfl rfl (OpG.lk (Hw Tryz.underlying2 Tryz.underlying12 rfl) ?_)
 refine cD (fun ha=>?_) (fun ha=>?_)
 ·refine OpG.lk (Rg rfl (Vf h1 ha)) (OpG.lk (bn (r:=(if n<0 then -n else n)%4294967296) Tryz.underlying12 Tryz.underlying192 rfl (by rw[IntKind.wrap_u32];(rw[ag1 ha]))) ?_)
  refine OpG.lk (rr (q:=32) (r:=(if n<0 then -n else n)/4294967296) rfl rfl (by decide) (by rw[Int.fdiv_eq_ediv_of_nonneg _ (by decide)];show _/(4294967296:Int)=_;(rw[ag1 ha]))) (OpG.lk (bn (r:=(if n<0 then -n else n)/4294967296) Tryz.underlying12 Tryz.underlying192 rfl (by rw[IntKind.wrap_u32];split<;>omega)) ?_)
  refine OpG.nw (bq (cj Tryz.underlying46 dz lw rfl rfl rfl rfl) (fun η' h=>bc (f:=cx) (l:=(ofD n)) (agx.2 rfl) h rfl rfl rfl rfl rfl (fun a _=>⟨rfl,rfl⟩))) rfl (ArgG.mk (el ((decide (n<0))) ((ofD n)) ‹_› (by omega)) rfl ?_)
  rintro _ rfl
  refine⟨.inr rfl,_,Ng.cell rfl db rfl rfl rfl rfl rfl ⟨[],FzP.pure rfl⟩,?_⟩
  rfl
 refine OpG.lk (bn (r:=(if n<0 then -n else n)%4294967296) Tryz.underlying12 Tryz.underlying192 rfl (by rw[IntKind.wrap_u32];(rw[ag0 ha,IntKind.wrap_u64];omega))) (OpG.lk (rr (q:=32) (r:=(if n<0 then -n else n)/4294967296) rfl rfl (by decide) (by rw[Int.fdiv_eq_ediv_of_nonneg _ (by decide)];show _/(4294967296:Int)=_;(rw[ag0 ha,IntKind.wrap_u64];omega))) ?_)
 refine OpG.lk (bn (r:=(if n<0 then -n else n)/4294967296) Tryz.underlying12 Tryz.underlying192 rfl (by rw[IntKind.wrap_u32];split<;>omega)) (OpG.nw (bq (cj Tryz.underlying46 dz lw rfl rfl rfl rfl) (fun η' h=>bc (f:=cx) (l:=(ofD n)) (agx.2 rfl) h rfl rfl rfl rfl rfl (fun a _=>⟨rfl,rfl⟩))) rfl ?_)
 refine ArgG.mk (el ((decide (n<0))) ((ofD n)) ‹_› (by omega)) rfl ?_
 rintro _ rfl
 refine⟨.inr rfl,_,Ng.cell rfl db rfl rfl rfl rfl rfl ⟨[],FzP.pure rfl⟩,?_⟩
 rfl
abbrev B1(x:Int):Prop:=-4294967295<=x/\x<=4294967295
def dgN(n:Int):List Int:=if n=0 then[]else[n]
def aZ(x:Int):Int:=if x<0 then -x else x
def bgS(b:Bool)(n:Int):GBig:=if n=0 then⟨false,[]⟩else⟨b,[n]⟩
def bgI(x:Int):GBig:=bgS (decide (x<0)) (aZ x)
def sgZ(x:Int):Int:=if x=0 then 0 else if x<0 then -1 else 1
theorem kx(n:Int):dtr (dgN n)=dgN n:=by unfold dgN;split<;>simp[dtr, *]
theorem Ql(n:Int):dtr [n]=dgN n:=by unfold dgN;split<;>simp[dtr, *]
theorem Ir(n:Int):dtr [n,0]=dgN n:=by unfold dgN;split<;>simp[dtr, *]
theorem n7{b:Bool}{d:List Int}{n:Int}(h:dtr d=dgN n):nmB b d=bgS b n:=by
 unfold nmB bgS;rw[h];unfold dgN
 by_cases e:n=0
 ·rw[ag1 e,ag1 rfl,ag1 e]
 ·rw[ag0 e,ag0 (by simp),ag0 e]
theorem W9{b:Bool}{n:Int}:(bgS b n).b_=(if n=0 then false else b):=by unfold bgS;split<;>rfl
theorem Xa{b:Bool}{n:Int}:(bgS b n).a_=dgN n:=by unfold bgS dgN;split<;>rfl
theorem im(x:Int):0<=aZ x:=by unfold aZ;split<;>omega
theorem aZ_0{x:Int}:aZ x=0↔x=0:=by unfold aZ;split<;>omega
theorem b6(x:Int):(bgI x).b_=decide (x<0):=by
 unfold bgI;rw[W9];split
 ·next h=>have:=aZ_0.1 h;simp[this]
 ·rfl
theorem ed(x:Int):(bgI x).a_=dgN (aZ x):=Xa
theorem jj{x:Int}(h:B1 x):aZ x<=4294967295:=by unfold aZ;split<;>omega
theorem Hc{n:Int}(h0:0<=n)(h1:n<=4294967295):Dg (dgN n):=fun x hx=>by
 unfold dgN at hx;split at hx
 ·simp at hx
 ·rw[agx.1 hx];exact⟨h0,h1⟩
theorem da{n:Int}:(dgN n).length<=1:=by unfold dgN;split<;>simp
theorem t7{x:Int}(h:B1 x):Dg (bgI x).a_:=by rw[ed];exact Hc (im x) (jj h)
theorem lq{x:Int}:(bgI x).a_.length<=1:=by rw[ed];exact da
theorem I6(x:Int):FitBig (bgI x):=⟨dw (aha lq (by decide))⟩
theorem nq{b:Bool}{n x:Int}(h1:n=aZ x)(h2:x≠0->b=decide (x<0)):bgS b n=bgI x:=by
 unfold bgI;rw[h1]
 by_cases e:x=0
 ·have:aZ x=0:=aZ_0.2 e
  rw[this];rfl
 ·rw[h2 e]
theorem nrI(x:Int):nrB (bgI x)=bgI x:=by
 unfold nrB;rw[n7 (n:=aZ x) (by rw[ed,kx]),b6];rfl
theorem ngI(x:Int):ngB (bgI x)=bgI (-x):=by
 unfold ngB;rw[n7 (n:=aZ x) (by rw[ed,kx]),b6]
 refine nq (by unfold aZ;split<;>split<;>omega) fun h=>?_
 rw[<-decide_not];exact decide_eq_decide.2 (by omega)
theorem sgI'(x:Int):sgB (bgI x)=sgZ x:=by
 unfold sgB sgZ;rw[ed,kx,b6]
 have e:dgN (aZ x)=[]↔x=0:=by unfold dgN;split<;>simp_all [aZ_0]
 by_cases h:x=0
 ·rw[ag1 (e.2 h),ag1 h]
 ·rw[ag0 (fun g=>h (e.1 g)),ag0 h]
  by_cases g:x<0<;>simp[g]
theorem ofI{n:Int}(h:B1 n):nmB (decide (n<0)) (ofD n)=bgI n:=by
 have e:dtr (ofD n)=dgN (aZ n):=by
  have h1:=jj h
  have h2:=im n
  show dtr [aZ n%4294967296,aZ n/4294967296]=_
  rw[show aZ n%4294967296=aZ n by omega,show aZ n/4294967296=0 by omega,Ir]
 rw[n7 e];rfl
theorem Me{m n:Int}(h0:0<=m)(h1:0<=n):cmD (dgN m) (dgN n)=sgZ (m-n):=by
 unfold cmD dgN sgZ
 by_cases e1:m=0<;>by_cases e2:n=0
 ·subst e1;subst e2;rfl
 ·subst e1;rw[ag1 rfl,ag0 e2,ag0 (by simp),ag0 (by omega),ag1 (by omega)];rfl
 ·subst e2;rw[ag0 e1,ag1 rfl,ag0 (by simp),ag0 (by omega),ag0 (by omega)];rfl
 ·rw[ag0 e1,ag0 e2,ag1 (by simp)]
  show cmA [m] [n] 1=_
  simp only[cmA,List.getD_cons_zero]
  by_cases g1:m<n
  ·rw[ag1 g1,ag0 (by omega),ag1 (by omega)]
  ·rw[ag0 g1]
   by_cases g2:m>n
   ·rw[ag1 g2,ag0 (by omega),ag0 (by omega)]
   ·rw[ag0 g2,ag1 (by omega)]
theorem coI(x y:Int):coB (bgI x) (bgI y)=sgZ (x-y):=by
 unfold coB;rw[nrI,nrI,b6,b6,ed,ed]
 have ax:=im x
 have ay:=im y
 by_cases hx:x<0<;>by_cases hy:y<0<;>simp only[hx,hy,decide_true,decide_false,if_true,Bool.false_eq_true,if_false,reduceCtorEq]
 ·rw[Me ay ax];congr 1;unfold aZ;rw[ag1 hx,ag1 hy];omega
 ·unfold sgZ;rw[ag0 (by omega),ag1 (by omega)]
 ·unfold sgZ;rw[ag0 (by omega),ag0 (by omega)]
 ·rw[Me ax ay];congr 1;unfold aZ;rw[ag0 hx,ag0 hy]
theorem ads{m n:Int}(h0:0<=m)(h1:0<=n)(h2:m+n<=4294967295):dtr (plD (dgN m) (dgN n))=dgN (m+n):=by
 have a1:(m+n)%4294967296=m+n:=by omega
 have a2:(m+n)/4294967296=0:=by omega
 have a3:m%4294967296=m:=by omega
 have a4:m/4294967296=0:=by omega
 have a5:n%4294967296=n:=by omega
 have a6:n/4294967296=0:=by omega
 by_cases e1:m=0<;>by_cases e2:n=0
 ·subst e1;subst e2;decide
 ·subst e1
  have:plD (dgN 0) (dgN n)=[n,0]:=by simp[plD,plN,dgN,e2,a5,a6]
  rw[this,Ir,Int.zero_add]
 ·subst e2
  have:plD (dgN m) (dgN 0)=[m,0]:=by simp[plD,plN,dgN,e1,a3,a4]
  rw[this,Ir,Int.add_zero]
 ·have:plD (dgN m) (dgN n)=[m+n,0]:=by simp[plD,plN,dgN,e1,e2,a1,a2]
  rw[this,Ir]
theorem Zm{m n:Int}(h1:0<=n)(h0:n<=m)(h2:m<=4294967295):dtr (miD (dgN m) (dgN n))=dgN (m-n):=by
 have a1:(m-n)%4294967296=m-n:=by omega
 have a3:m%4294967296=m:=by omega
 by_cases e1:m=0
 ·have e2:n=0:=by omega
  subst e1;subst e2;decide
 ·by_cases e2:n=0
  ·subst e2
   have:miD (dgN m) (dgN 0)=[m]:=by simp[miD,miN,dgN,e1,a3]
   rw[this,Ql,Int.sub_zero]
  ·have:miD (dgN m) (dgN n)=[m-n]:=by simp[miD,miN,dgN,e1,e2,a1]
   rw[this,Ql]
theorem ti_N{m n:Int}(h0:0<=m)(h1:0<=n)(h2:m*n<=4294967295):dtr (tiD (dgN m) (dgN n))=dgN (m*n):=by
 have h3:0<=m*n:=Int.mul_nonneg h0 h1
 have a1:(m*n)%4294967296=m*n:=by omega
 have a2:(m*n)/4294967296=0:=by omega
 by_cases e1:m=0<;>by_cases e2:n=0
 ·subst e1;subst e2;decide
 ·subst e1
  have:tiD (dgN 0) (dgN n)=[0]:=by simp[tiD,ouR,inR,dgN,e2]
  rw[this,Int.zero_mul];decide
 ·subst e2
  have:tiD (dgN m) (dgN 0)=[0]:=by simp[tiD,ouR,inR,dgN,e1]
  rw[this,Int.mul_zero];decide
 ·have:tiD (dgN m) (dgN n)=[m*n,0]:=by simp[tiD,ouR,inR,dgN,e1,e2,a1,a2]
  rw[this,Ir]
theorem adI{x y:Int}(hx:B1 x)(hy:B1 y)(h:B1 (x+y)):adB (bgI x) (bgI y)=bgI (x+y):=by
 unfold adB;rw[nrI,nrI,b6,b6,ed,ed]
 have ax:=im x
 have ay:=im y
 by_cases gx:x<0<;>by_cases gy:y<0<;>simp only[gx,gy,decide_true,decide_false,if_true,Bool.false_eq_true,if_false,reduceCtorEq]
 ·rw[n7 (ads ax ay (by unfold aZ;rw[ag1 gx,ag1 gy];omega))]
  exact nq (by unfold aZ;rw[ag1 gx,ag1 gy,ag1 (by omega)];omega) fun _=>by simp;omega
 ·rw[Me ax ay]
  have e1:aZ x=-x:=by unfold aZ;rw[ag1 gx]
  have e2:aZ y=y:=by unfold aZ;rw[ag0 gy]
  rw[e1,e2]
  by_cases g:-x<y
  ·rw[ag1 (by unfold sgZ;rw[ag0 (by omega),ag1 (by omega)];decide),n7 (Zm (by omega) (by omega) (by omega))]
   exact nq (by unfold aZ;rw[ag0 (by omega)];omega) fun _=>by simp;omega
  ·rw[ag0 (by unfold sgZ;split<;>(try split)<;>omega),n7 (Zm (by omega) (by omega) (by omega))]
   exact nq (by unfold aZ;split<;>omega) fun _=>by simp;omega
 ·rw[Me ax ay]
  have e1:aZ x=x:=by unfold aZ;rw[ag0 gx]
  have e2:aZ y=-y:=by unfold aZ;rw[ag1 gy]
  rw[e1,e2]
  by_cases g:x< -y
  ·rw[ag1 (by unfold sgZ;rw[ag0 (by omega),ag1 (by omega)];decide),n7 (Zm (by omega) (by omega) (by omega))]
   exact nq (by unfold aZ;rw[ag1 (by omega)];omega) fun _=>by simp;omega
  ·rw[ag0 (by unfold sgZ;split<;>(try split)<;>omega),n7 (Zm (by omega) (by omega) (by omega))]
   exact nq (by unfold aZ;split<;>omega) fun _=>by simp;omega
 ·rw[n7 (ads ax ay (by unfold aZ;rw[ag0 gx,ag0 gy];omega))]
  exact nq (by unfold aZ;rw[ag0 gx,ag0 gy,ag0 (by omega)]) fun _=>by simp;omega
theorem Ht(x y:Int):aZ x*aZ y=aZ (x*y):=by
 have e:∀z:Int,aZ z=(z.natAbs:Int):=fun z=>by unfold aZ;split<;>omega
 rw[e,e,e,Int.natAbs_mul];simp
theorem muI{x y:Int}(h:B1 (x*y)):muB (bgI x) (bgI y)=bgI (x*y):=by
 unfold muB;rw[b6,b6,ed,ed,n7 (ti_N (im x) (im y) (by rw[Ht];exact jj h))]
 refine nq (Ht x y) fun ha=>?_
 have hx:x≠0:=fun e=>ha (by rw[e,Int.zero_mul])
 have hy:y≠0:=fun e=>ha (by rw[e,Int.mul_zero])
 by_cases gx:x<0<;>by_cases gy:y<0
 ·have:0<x*y:=Int.mul_pos_of_neg_of_neg gx gy
  simp[gx,gy];omega
 ·have:x*y<0:=Int.mul_neg_of_neg_of_pos gx (by omega)
  simp[gx,gy,this]
 ·have:x*y<0:=Int.mul_neg_of_pos_of_neg (by omega) gy
  simp[gx,gy,this]
 ·have:0<x*y:=Int.mul_pos (by omega) (by omega)
  simp[gx,gy];omega
theorem pm{n:Int}(h:B1 n):PRet Tryz.prog 139 [.v (.int .i64 n)] (fun q=>q=.agg (bgA (bgI n))):=by
 have:=of_p n (by omega) (by omega)
 rwa [ofI h]at this
section
variable{x y:Int}
theorem Xy{x:Int}:(bgI x).a_.length<=400:=aha lq (by decide)
theorem wb(h:B1 x):PRet Tryz.prog 83 [.agg (bgA (bgI x))] (fun q=>q=.agg (bgA (bgI x))):=by
 have:=wa (bgI x) (I6 x) (aha lq (by decide))
 rwa [show nmB (bgI x).b_ (bgI x).a_=bgI x from nrI x]at this
theorem wc(h:B1 x):PRet Tryz.prog 138 [.agg (bgA (bgI x))] (fun q=>q=.agg (bgA (bgI (-x)))):=by
 have:=aea (bgI x) (I6 x) (aha lq (by decide))
 rwa [show nmB (!(bgI x).b_) (bgI x).a_=bgI (-x)from ngI x]at this
theorem j8(h:B1 x):PRet Tryz.prog 164 [.agg (bgA (bgI x))] (fun q=>q=.v (.int .i64 (sgZ x))):=by
 have:=ac8 (bgI x) (I6 x) (aha lq (by decide))
 rwa [sgI']at this
theorem nk(hx:B1 x)(hy:B1 y):PRet Tryz.prog 85 [.agg (bgA (bgI x)),.agg (bgA (bgI y))] (fun q=>q=.v (.int .i64 (sgZ (x-y)))):=by
 have:=af3 (bgI x) (I6 x) (bgI y) (I6 y) (t7 hx) (t7 hy) Xy Xy
 rwa [coI]at this
theorem wz(hx:B1 x)(hy:B1 y)(h:B1 (x+y)):PRet Tryz.prog 165 [.agg (bgA (bgI x)),.agg (bgA (bgI y))] (fun q=>q=.agg (bgA (bgI (x+y)))):=by
 have:=agp (bgI x) (I6 x) (bgI y) (I6 y) (t7 hx) (t7 hy) Xy Xy
 rwa [adI hx hy h]at this
theorem yf(hx:B1 x)(hy:B1 y)(h:B1 (x*y)):PRet Tryz.prog 166 [.agg (bgA (bgI x)),.agg (bgA (bgI y))] (fun q=>q=.agg (bgA (bgI (x*y)))):=by
 have:=aeb (bgI x) (I6 x) (bgI y) (I6 y) (t7 hx) (t7 hy) Xy Xy
 rwa [muI h]at this
end
theorem qm{n:Int}(h:1<=n):dgN n=[n]:=by unfold dgN;rw[ag0 (by omega)]
theorem cm_1{m n:Int}(h0:0<=m)(h1:1<=n):cmD (dgN m) [n]=sgZ (m-n):=by rw[<-qm h1];exact Me h0 (by omega)
theorem R9{x:Int}:sgZ x<0↔x<0:=by unfold sgZ;split<;>(try split)<;>omega
theorem sh_1{m n:Int}(h1:1<=n)(h2:n<=m)(h3:m<=4294967295):shN n (dgN m) (dgN m).length=([m/n],m%n):=by
 rw[qm (by omega)]
 have e:m/n%4294967296=m/n:=by
  have a:=Int.ediv_nonneg (show 0<=m by omega) (show 0<=n by omega)
  have b:=Int.ediv_le_self n (show 0<=m by omega)
  omega
 simp[shN,e]
def flD(x y:Int):Int:=if(decide (x<0) !=decide (y<0))then(if aZ x%aZ y=0 then -(aZ x/aZ y)else -(aZ x/aZ y+1))else aZ x/aZ y
def flM(x y:Int):Int:=if(decide (x<0) !=decide (y<0))then(if aZ x%aZ y=0 then 0 else if y<0 then -(aZ y-aZ x%aZ y)else aZ y-aZ x%aZ y)else(if y<0 then -(aZ x%aZ y)else aZ x%aZ y)
theorem Lr{x y:Int}(h:0<y):flD x y=x/y/\flM x y=x%y:=by
 have hy:aZ y=y:=by unfold aZ;rw[ag0 (by omega)]
 unfold flD flM
 rw[hy]
 have gy:¬y<0:=by omega
 by_cases gx:x<0
 ·have hx:aZ x=-x:=by unfold aZ;rw[ag1 gx]
  rw[hx]
  have e1:=Int.mul_ediv_add_emod (-x) y
  have e2:=Int.emod_nonneg (-x) (show y≠0 by omega)
  have e3:=Int.emod_lt_of_pos (-x) h
  simp only[gx,gy,decide_true,decide_false,bne_self_eq_false,Bool.true_bne,Bool.not_false,if_true,if_false]
  by_cases r:-x%y=0
  ·rw[ag1 r,ag1 r]
   have:x=y*(-(-x/y))+0:=by rw[Int.mul_neg];omega
   exact⟨((Int.ediv_emod_unique h).2 ⟨by rw[Int.add_comm]at this;exact this.symm,by omega,h⟩).1.symm,((Int.ediv_emod_unique h).2 ⟨by rw[Int.add_comm]at this;exact this.symm,by omega,h⟩).2.symm⟩
  rw[ag0 r,ag0 r]
  have:y- -x%y+y*(-(-x/y+1))=x:=by rw[Int.mul_neg,Int.mul_add,Int.mul_one];omega
  exact⟨((Int.ediv_emod_unique h).2 ⟨this,by omega,by omega⟩).1.symm,((Int.ediv_emod_unique h).2 ⟨this,by omega,by omega⟩).2.symm⟩
 have hx:aZ x=x:=by unfold aZ;rw[ag0 gx]
 rw[hx];simp[gx,gy]
theorem Uc.cellN{P:Program}{N:Nat}{s:St}{ret:AV}(fn:Func){t ty n id ver:Nat}{b:Blk}(ht:ej P ty=some (some n))(hx:s.τ t=.ptr id ver 0)(hb:s.η id=some b)(hv:b.ver=ver)(hn:b.nilp=false)(hl:b.cs.length=n)
 (h:∃fp,FzP fp s.η (.agg b.cs) ret):Uc P N s (.cell t ty) ret:=
 Ct (fn:={fn with results:=#[.cell t ty]}) rfl (Ng.cell rfl ht hx hb hv hn hl h)
section
variable{x y:Int}
theorem U9{b:Bool}{d:List Int}{n z:Int}(h:dtr d=dgN n)(h1:n=aZ z)(h2:z≠0->b=decide (z<0)):nmB b d=bgI z:=by rw[n7 h];exact nq h1 h2
theorem Nb(x:Int):aZ x=(x.natAbs:Int):=by unfold aZ;split<;>omega
theorem V4{n m:Int}(hn:0<=n)(hm:0<=m):Int.gcd n (m%n)=Int.gcd n m:=by
 obtain⟨a,rfl⟩:=Int.eq_ofNat_of_zero_le hn
 obtain⟨b,rfl⟩:=Int.eq_ofNat_of_zero_le hm
 rw[<-Int.natCast_emod,Int.gcd_natCast_natCast,Int.gcd_natCast_natCast,Nat.gcd_comm a (b%a)]
 exact(Nat.gcd_rec a b).symm
theorem aan{n:Int}(h:0<=n)(hq:(((dgN n).length:Nat):Int)>0):1<=n:=by
 have:n≠0:=fun e=>by rw[e]at hq;exact absurd hq (by decide)
 omega
theorem aam{n:Int}(hq:¬(((dgN n).length:Nat):Int)>0):n=0:=by
 by_cases e:n=0
 ·exact e
 exact absurd (show(((dgN n).length:Nat):Int)>0 by unfold dgN;rw[ag0 e];show((1:Nat):Int)>0;decide) hq
structure KG where
 k:Nat
 m:Int
 n:Int
theorem flq1(hx:B1 x)(hy1:1<=aZ y)(h:((bgI x).b_ !=(bgI y).b_)=true)(hr:(((dgN (aZ x%aZ y)).length:Nat):Int)>0):nmB true (plD (dgN (aZ x/aZ y)) [1])=bgI (flD x y):=by
 rw[b6,b6]at h
 have r0:aZ x%aZ y≠0:=fun e=>by rw[e]at hr;exact absurd hr (by decide)
 have ha:=im x
 have hlx:=jj hx
 have q0:=Int.ediv_nonneg ha (show 0<=aZ y by omega)
 have e1:=Int.mul_ediv_add_emod (aZ x) (aZ y)
 have e2:=Int.emod_nonneg (aZ x) (show aZ y≠0 by omega)
 have hb:2<=aZ y:=by
  rcases Int.lt_or_le 1 (aZ y)with g|g
  ·omega
  ·have e:aZ y=1:=by omega
   rw[e]at r0;exact absurd (Int.emod_one _) r0
 have e3:2*(aZ x/aZ y)<=aZ y*(aZ x/aZ y):=Int.mul_le_mul_of_nonneg_right hb q0
 have hf:flD x y=-(aZ x/aZ y+1):=by unfold flD;rw[ag1 h,ag0 r0]
 rw[hf]
 refine U9 (n:=aZ x/aZ y+1) (by rw[show([1]:List Int)=dgN 1 from rfl,ads q0 (by decide) (by omega)]) ?_ fun _=>?_
 ·generalize aZ x/aZ y=Q at q0 ⊢
  unfold aZ;rw[ag1 (by omega)];omega
 simp;omega
theorem flr1(hy:B1 y)(hy1:1<=aZ y)(h:((bgI x).b_ !=(bgI y).b_)=true)(hr:(((dgN (aZ x%aZ y)).length:Nat):Int)>0):nmB (bgI y).b_ (miD (bgI y).a_ (dgN (aZ x%aZ y)))=bgI (flM x y):=by
 rw[b6,b6]at h
 have r0:aZ x%aZ y≠0:=fun e=>by rw[e]at hr;exact absurd hr (by decide)
 have e2:=Int.emod_nonneg (aZ x) (show aZ y≠0 by omega)
 have e3:=Int.emod_lt_of_pos (aZ x) (show 0<aZ y by omega)
 have hly:=jj hy
 have hf:flM x y=if y<0 then -(aZ y-aZ x%aZ y)else aZ y-aZ x%aZ y:=by unfold flM;rw[ag1 h,ag0 r0]
 rw[hf,b6,ed]
 generalize aZ x%aZ y=R at*
 refine U9 (Zm e2 (by omega) (by omega)) ?_ fun _=>?_
 ·split
  ·generalize aZ y=Y at *;unfold aZ;rw[ag1 (by omega)];omega
  generalize aZ y=Y at *;unfold aZ;rw[ag0 (by omega)]
 split<;>simp<;>omega
theorem flq2(hy1:1<=aZ y)(h:((bgI x).b_ !=(bgI y).b_)=true)(hr:¬(((dgN (aZ x%aZ y)).length:Nat):Int)>0):nmB true (dgN (aZ x/aZ y))=bgI (flD x y)/\nmB (bgI y).b_ (dgN (aZ x%aZ y))=bgI (flM x y):=by
 rw[b6,b6]at h
 have r0:aZ x%aZ y=0:=by
  by_cases e:aZ x%aZ y=0
  ·exact e
  ·exact absurd (show(((dgN (aZ x%aZ y)).length:Nat):Int)>0 by unfold dgN;rw[ag0 e];show((1:Nat):Int)>0;decide) hr
 have q0:=Int.ediv_nonneg (im x) (show 0<=aZ y by omega)
 have hf:flD x y=-(aZ x/aZ y):=by unfold flD;rw[ag1 h,ag1 r0]
 have hm:flM x y=0:=by unfold flM;rw[ag1 h,ag1 r0]
 rw[hf,hm,r0]
 generalize aZ x/aZ y=Q at*
 exact⟨U9 (kx _) (by unfold aZ;split<;>omega) (fun g=>by simp;omega),U9 (kx _) rfl fun g=>absurd rfl g⟩
theorem flq3(hy1:1<=aZ y)(h:((bgI x).b_ !=(bgI y).b_)=false):nmB false (dgN (aZ x/aZ y))=bgI (flD x y)/\nmB (bgI y).b_ (dgN (aZ x%aZ y))=bgI (flM x y):=by
 rw[b6,b6]at h
 have e2:=Int.emod_nonneg (aZ x) (show aZ y≠0 by omega)
 have q0:=Int.ediv_nonneg (im x) (show 0<=aZ y by omega)
 have hf:flD x y=aZ x/aZ y:=by unfold flD;rw[ag0 (by rw[h];simp)]
 have hm:flM x y=if y<0 then -(aZ x%aZ y)else aZ x%aZ y:=by unfold flM;rw[ag0 (by rw[h];simp)]
 rw[hf,hm,b6]
 generalize aZ x/aZ y=Q at*
 generalize aZ x%aZ y=R at*
 refine⟨U9 (kx _) (by unfold aZ;split<;>omega) (fun g=>by simp;omega),U9 (kx R) ?_ fun g=>?_⟩
 ·split
  ·unfold aZ;split<;>omega
  unfold aZ;split<;>omega
 split at g<;>split<;>simp<;>omega
end
theorem Ha{m n:Int}(hb:0<=m)(hd:m<=4294967295)(hc:1<=n)(hf:n<=4294967295):PRet Tryz.prog 202 [.tree 1 (((dgN m)).map cx),.tree 1 (([n]).map cx)] (fun q=>q=.tup [.tree 1 ((dgN (m/n)).map cx),.tree 1 ((dgN (m%n)).map cx)]):=by
 refine ovT [41] [] Tryz.func202 rfl rfl (ArgG.mk (ma (dgN m) (dw (aha da (by decide))) [n] (dw (show 1<=5000 by decide)) (aha da (by decide))) rfl ?_)
 rintro _ rfl
 refine cD (fun ha=>?_) (fun ha=>?_)
 ·have he:m<n:=by rw[cm_1 hb hc,R9]at ha;omega
  refine ArgG.mk (xy ((dgN m)) (dw (by exact aha da (by decide))) (by exact aha da (by decide))) rfl ?_
  rintro _ rfl
  refine⟨.inr rfl,_,Ng.two rfl (Uc.tmp ⟨[],FzP.nil (n:=1)⟩) (Uc.tmp ⟨[],FzP.pure rfl⟩),?_⟩
  rw[Int.ediv_eq_zero_of_lt hb he,Int.emod_eq_of_lt hb he,kx];rfl
 have hg:n<=m:=by rw[cm_1 hb hc,R9]at ha;omega
 refine LenG.of (cT ?_)
 refine IdxG.of (j:=0) (by exact Nat.zero_lt_one) (ArgG.mk (Jz (dgN m) (dw (aha da (by decide))) n ⟨hc,hf⟩ (Hc hb hd) (aha da (by decide))) rfl ?_)
 rintro _ rfl
 refine ArgG.mk (xy ((shN n (dgN m) (dgN m).length).1) (dw (by(rw[vi];exact aha da (by decide)))) (by(rw[vi];exact aha da (by decide)))) rfl ?_
 rintro _ rfl
 refine OpG.nw (bq (cj Tryz.underlying46 dz lw rfl rfl rfl rfl) (fun η' h=>bc (f:=cx) (l:=[(shN n (dgN m) (dgN m).length).2]) (agx.2 rfl) h rfl rfl rfl rfl rfl (fun a _=>⟨rfl,rfl⟩))) rfl (ArgG.mk (xy ([(shN n (dgN m) (dgN m).length).2]) (dw (by(show 1<=_;decide))) (by(show 1<=_;decide))) rfl ?_)
 rintro _ rfl
 refine⟨.inr rfl,_,Ng.two rfl (Uc.tmp ⟨[],FzP.pure rfl⟩) (Uc.tmp ⟨[],FzP.pure rfl⟩),?_⟩
 rw[sh_1 hc hg hd,Ql,Ql];rfl
theorem R3{x y:Int}(hx:B1 x)(hy:B1 y)(h:B1 (x-y)):PRet Tryz.prog 137 [.agg (bgA (bgI x)),.agg (bgA (bgI y))] (fun q=>q=.agg (bgA (bgI (x-y)))):=by
 refine ovT [] [] Tryz.func137 rfl rfl (ArgG.mk (wc (x:=y) (by constructor<;>omega)) rfl ?_)
 rintro _ rfl
 refine ArgG.mk (wz (x:=x) (y:=(-y)) (by constructor<;>omega) (by constructor<;>omega) (by constructor<;>omega)) rfl ?_
 rintro _ rfl
 refine⟨by kernel_rfl,⟨.inr rfl,_,Ng.cell rfl db rfl rfl rfl rfl rfl ⟨[],FzP.pure rfl⟩,?_⟩⟩
 rw[show x+-y=x-y by omega]
theorem divI{x y:Int}(hx:B1 x)(hy:B1 y)(hb:y≠0):PRet Tryz.prog 202 [.tree 1 (((bgI x).a_).map cx),.tree 1 (((bgI y).a_).map cx)] (fun q=>q=.tup [.tree 1 ((dgN (aZ x/aZ y)).map cx),.tree 1 ((dgN (aZ x%aZ y)).map cx)]):=by
 have hay:=im y
 have ha:1<=aZ y:=by have:aZ y≠0:=fun e=>hb (aZ_0.1 e);omega
 rw[ed,ed,qm ha]
 exact Ha (im x) (jj hx) ha (jj hy)
theorem nj{x y:Int}(hx:B1 x)(hy:B1 y)(he:y≠0):PRet Tryz.prog 167 [.agg (bgA (bgI x)),.agg (bgA (bgI y))] (fun q=>q=.tup [.agg (bgA (bgI (flD x y))),.agg (bgA (bgI (flM x y))),.v (.bool true)]):=by
 have hf:=im x
 have hg:=im y
 have hh:=jj hx
 have hly:=jj hy
 have hc:1<=aZ y:=by have:aZ y≠0:=fun e=>he (aZ_0.1 e);omega
 have hq:0<=aZ x/aZ y/\aZ x/aZ y<=4294967295:=⟨Int.ediv_nonneg hf hg,Int.le_trans (Int.ediv_le_self _ hf) hh⟩
 have hr:0<=aZ x%aZ y/\aZ x%aZ y<=4294967295:=⟨Int.emod_nonneg _ (by omega),by have:=Int.emod_lt_of_pos (aZ x) (show 0<aZ y by omega);omega⟩
 refine ovT [36] [] Tryz.func167 rfl rfl (ArgG.mk (wb (x:=x) (by constructor<;>omega)) rfl ?_)
 rintro _ rfl
 refine ArgG.mk (wb (x:=y) (by constructor<;>omega)) rfl ?_
 rintro _ rfl
 refine⟨by kernel_rfl,LenG.of ?_⟩
 refine cB (fun hd=>?_) (fun hd=>?_)
 ·exact absurd hd (by rw[ed,qm hc];exact ahp)
 have hq16:¬(((((bgI y).a_).length:Nat):Int)=(0:Int)):=by simpa using hd
 refine ArgG.mk ((show PRet Tryz.prog 202 [.tree 1 (((bgI x).a_).map cx),.tree 1 (((bgI y).a_).map cx)] _ from divI hx hy he)) rfl ?_
 rintro _ rfl
 refine cB (fun ha=>?_) (fun ha=>?_)
 ·refine LenG.of (cD (fun hb=>?_) (fun hb=>?_))
  ·refine OpG.nw (bq (cj Tryz.underlying46 dz lw rfl rfl rfl rfl) (fun η' h=>bc (f:=cx) (l:=([1]:List Int)) (agx.2 rfl) h rfl rfl rfl rfl rfl (fun a _=>⟨rfl,rfl⟩))) rfl (ArgG.mk (Si (dgN (aZ x/aZ y)) (dw (aha da (by decide))) [1] (dw (show 1<=5000 by decide)) (Hc hq.1 hq.2) (fun z hz=>by rw[agx.1 hz];exact⟨by decide,by decide⟩) (aha da (by decide)) (show 1<=1000 by decide)) rfl ?_)
   rintro _ rfl
   refine ArgG.mk (Dx (bgI y).a_ (I6 y).a_ (dgN (aZ x%aZ y)) (dw (aha da (by decide))) (t7 hy) (Hc hr.1 hr.2) (aha lq (by decide)) (aha da (by decide))) rfl ?_
   rintro _ rfl
   refine ArgG.mk (el true ((plD (dgN (aZ x/aZ y)) [1])) (dw (by(rw[lm];have:=@da (aZ x/aZ y);show max _ 1+1<=_;omega))) (by(rw[lm];have:=@da (aZ x/aZ y);show max _ 1+1<=_;omega))) rfl ?_
   rintro _ rfl
   refine ArgG.mk (el ((bgI y).b_) ((miD (bgI y).a_ (dgN (aZ x%aZ y)))) (dw (by(rw[lp];exact aha lq (by decide)))) (by(rw[lp];exact aha lq (by decide)))) rfl ?_
   rintro _ rfl
   refine⟨by kernel_rfl,⟨.inr rfl,_,ib rfl (Uc.cellN Tryz.f167 db rfl rfl rfl rfl rfl ⟨[],FzP.pure rfl⟩) (Uc.cellN Tryz.f167 db rfl rfl rfl rfl rfl ⟨[],FzP.pure rfl⟩) (Uc.tmp ⟨[],FzP.pure rfl⟩),?_⟩⟩
   rw[flq1 hx hc ha hb,flr1 hy hc ha hb];rfl
  refine ArgG.mk (el true ((dgN (aZ x/aZ y))) (dw (by exact aha da (by decide))) (by exact aha da (by decide))) rfl ?_
  rintro _ rfl
  refine ArgG.mk (el ((bgI y).b_) ((dgN (aZ x%aZ y))) (dw (by exact aha da (by decide))) (by exact aha da (by decide))) rfl ?_
  rintro _ rfl
  refine⟨by kernel_rfl,⟨.inr rfl,_,ib rfl (Uc.cellN Tryz.f167 db rfl rfl rfl rfl rfl ⟨[],FzP.pure rfl⟩) (Uc.cellN Tryz.f167 db rfl rfl rfl rfl rfl ⟨[],FzP.pure rfl⟩) (Uc.tmp ⟨[],FzP.pure rfl⟩),?_⟩⟩
  rw[(flq2 hc ha hb).1,(flq2 hc ha hb).2];rfl
 refine ArgG.mk (el false ((dgN (aZ x/aZ y))) (dw (by exact aha da (by decide))) (by exact aha da (by decide))) rfl ?_
 rintro _ rfl
 refine ArgG.mk (el ((bgI y).b_) ((dgN (aZ x%aZ y))) (dw (by exact aha da (by decide))) (by exact aha da (by decide))) rfl ?_
 rintro _ rfl
 refine⟨by kernel_rfl,⟨.inr rfl,_,ib rfl (Uc.cellN Tryz.f167 db rfl rfl rfl rfl rfl ⟨[],FzP.pure rfl⟩) (Uc.cellN Tryz.f167 db rfl rfl rfl rfl rfl ⟨[],FzP.pure rfl⟩) (Uc.tmp ⟨[],FzP.pure rfl⟩),?_⟩⟩
 rw[(flq3 hc ha).1,(flq3 hc ha).2];rfl
theorem X8(x:Int):PRet Tryz.prog 158 [.tree 1 (((bgI x).a_).map cx)] (fun q=>q=.tree 1 ((dgN (aZ x)).map cx)):=by
 have:=xy (bgI x).a_ (I6 x).a_ (aha lq (by decide))
 rw[ed]at this ⊢;rwa [kx]at this
theorem divN{m n:Int}(hb:0<=m)(hc:m<=4294967295)(ha:1<=n)(hd:n<=4294967295):PRet Tryz.prog 202 [.tree 1 ((dgN m).map cx),.tree 1 ((dgN n).map cx)] (fun q=>q=.tup [.tree 1 ((dgN (m/n)).map cx),.tree 1 ((dgN (m%n)).map cx)]):=by
 rw[qm ha];exact Ha hb hc ha hd
theorem S9{x y:Int}(hx:B1 x)(hy:B1 y):PRet Tryz.prog 236 [.agg (bgA (bgI x)),.agg (bgA (bgI y))] (fun q=>q=.agg (bgA (bgI ((Int.gcd x y:Nat):Int)))):=by
 have hj:=jj hx
 have hk:=jj hy
 refine ovT [] [] Tryz.func236 rfl rfl (ArgG.mk (X8 x) rfl ?_)
 rintro _ rfl
 refine ArgG.mk (X8 y) rfl ?_
 rintro _ rfl
 refine⟨by kernel_rfl,LpG.on (fun k0:KG=>(⟨fL [(4,.ptr 2 0 0),(5,.tree 1 (((dgN k0.m)).map cx)),(6,.tree 1 (((dgN k0.n)).map cx))],hLz [(2,⟨0,[.v (.bool false),.v (.slice none 0 0)],0,false⟩)],3⟩:St)) (fun k0=>(((aZ y).toNat+1)-k0.k)) (fun k0=>(k0.k<=((aZ y).toNat+1)/\((0<=k0.m/\k0.m<=4294967295)/\(0<=k0.n/\k0.n<=4294967295)/\k0.n.toNat+k0.k<=(aZ y).toNat/\Int.gcd k0.m k0.n=Int.gcd x y))) (⟨0,aZ x,aZ y⟩:KG) (cO (.cons rfl rfl (.cons rfl rfl (.cons rfl rfl .nil))) (.cons rfl rfl rfl .nil)) ⟨ag5 _,⟨⟨im x,hj⟩,⟨im y,hk⟩,ag7 _,by show Int.gcd (aZ x) (aZ y)=_;rw[Nb,Nb];simp[Int.gcd]⟩⟩ ?_⟩
 rintro k0 he
 obtain⟨hle_k0,ha⟩:=he
 refine LenG.of (cD (fun hb=>?_) (fun hb=>?_))
 ·obtain⟨⟨hf,hi⟩,⟨hc,hg⟩,hl,hd⟩:=ha
  have hh:=aan hc hb
  refine ArgG.mk (divN hf hi hh hg) rfl ?_
  rintro _ rfl
  refine⟨(⟨k0.k+1,k0.n,k0.m%k0.n⟩:KG),(by show((aZ y).toNat+1)-(k0.k+1)<((aZ y).toNat+1)-k0.k;omega),(cO (.cons rfl rfl (.cons rfl rfl (.cons rfl rfl .nil))) (.cons rfl rfl rfl .nil)),⟨by show k0.k+1<=_;omega,?_⟩⟩
  have e0:=Int.emod_nonneg k0.m (show k0.n≠0 by omega)
  have e1:=Int.emod_lt_of_pos k0.m (show 0<k0.n by omega)
  refine⟨⟨by show 0<=k0.n;omega,hg⟩,⟨e0,by show k0.m%k0.n<=_;omega⟩,by show(k0.m%k0.n).toNat+(k0.k+1)<=_;omega,?_⟩
  show Int.gcd k0.n (k0.m%k0.n)=_
  rw[<-hd,Int.gcd_comm k0.m k0.n];exact V4 hc hf
 obtain⟨⟨hf,hi⟩,⟨hc,hg⟩,hl,hd⟩:=ha
 have hh:=aam hb
 refine ArgG.mk (el false (dgN k0.m) (dw (aha da (by decide))) (aha da (by decide))) rfl ?_
 rintro _ rfl
 refine⟨.inr rfl,_,Ng.cell rfl db rfl rfl rfl rfl rfl ⟨[],FzP.pure rfl⟩,?_⟩
 rw[hh]at hd
 have e:k0.m=((Int.gcd x y:Nat):Int):=by rw[<-hd];simp;omega
 rw[U9 (z:=k0.m) (kx k0.m) (by unfold aZ;split<;>omega) (fun _=>by simp;omega),e]
end Go.Proofs.YtbhhmbchdponjaaGreatDoor
