/- Texts of the claim. -/
import Derived.Shelf.SlicesE.Clone
import Derived.Test.YtmbmbhkemgmhfaaGreatDoorF1
import Derived.Test.YtmbmbhkemgmhfaaGreatDoorQ2
import Derived.Test.YtmbmbhkemgmhfaaGreatDoorInf
namespace Go.Proofs
open Go.Shelf
def Tryz.cloU_ren:Go.Shelf.Ren:=⟨fun|41=>144|n=>n,fun|22=>67|23=>177|4=>4|n=>n,fun|n=>n⟩
theorem Tryz.cloU:Go.Proofs.SlLaysE0.n41 Tryz.prog Tryz.cloU_ren:={
 mixed:=by kernel_rfl
 f41:=⟨Tryz.f144.name,by decide,Tryz.func144.trans (congrArg some (by kernel_rfl))⟩
 t4:=Tryz.underlying4
 a4:=Tryz.isAgg4
 z4:=Tryz.sizeOf4
 v4:=Tryz.zeroValue4
 t22:=Tryz.underlying67
 a22:=Tryz.isAgg67
 z22:=Tryz.sizeOf67
 v22:=Tryz.zeroValue67}
end Go.Proofs
namespace Go.Proofs.YtmbmbhkemgmhfaaGreatDoor
set_option maxRecDepth 1000000
set_option maxHeartbeats 0
open Go.Shelf in
theorem cl_U:CloneL Tryz.prog 144 1:=⟨⟨Tryz.cloU_ren,Tryz.t177,_,_,rfl,Tryz.cloU,by kernel_rfl,rfl,rfl,rfl,rfl,Tryz.sizeOf177,by decide⟩,by decide⟩
set_option linter.unusedVariables false
set_option linter.unusedSimpArgs false
open Go.RowKit
structure GBig where
 b_:Bool
 a_:List Int
abbrev bgA(x:GBig):List AV:=[.v (.bool x.b_),.tree 1 (x.a_.map ct)]
structure FitBig(x:GBig):Prop where
 a_:fy x.a_ (fun y=>True)
instance:Inhabited GBig:=⟨⟨false,[]⟩⟩
def dtr:List Int->List Int
 |[]=>[]
 |a::l=>match dtr l with
  |[]=>if a=0 then[]else[a]
  |b::r=>a::b::r
theorem G9:∀{d:List Int},(∀j (h:j<d.length),d[j]=0)->dtr d=[]
 |[],_=>rfl
 |a::l,h=>by
  have h0:a=0:=h 0 (by simp)
  have h1:dtr l=[]:=G9 fun j hj=>h (j+1) (by simpa using hj)
  simp[dtr,h1,h0]
theorem Tl:∀{d:List Int} {n:Nat} (hn:n<=d.length),(∀j (h:j<d.length),n<=j->d[j]=0)->(∀m (h:m<d.length),n=m+1->d[m]≠0)->dtr d=d.take n
 |d,0,_,h,_=>by rw[List.take_zero];exact G9 fun j hj=>h j hj (ag6 j)
 |[],n+1,hn,_,_=>absurd hn (by simp)
 |a::l,n+1,hn,h,g=>by
  have ih:=Tl (d:=l) (n:=n) (by simpa using hn) (fun j hj hle=>h (j+1) (by simpa using hj) (by omega)) (fun m hm e=>g (m+1) (by simpa using hm) (by omega))
  rw[List.take_succ_cons]
  unfold dtr;rw[ih]
  cases hh:l.take n with
  |nil=>
   have hn0:n=0:=by
    rcases Nat.eq_zero_or_pos n with h0|h0
    ·exact h0
    ·have:(l.take n).length=n:=List.length_take_of_le (by simpa using hn)
     rw[hh]at this;simp at this;omega
   have ha:a≠0:=g 0 (by simp) (by omega)
   simp[ha]
  |cons b r=>rfl
theorem F0{d:List Int}{k0:Nat}(hk:k0<=d.length)(hj:∀j (hl:d.length-1-j<d.length),j<k0->d[d.length-1-j]=0)(h:∀(hl:d.length-1-k0<d.length),k0<d.length->d[d.length-1-k0]≠0):AV.tree 1 ((d.take (d.length-k0)).map ct)=.tree 1 ((dtr d).map ct):=by
 rw[Tl (n:=d.length-k0) (by omega) ?_ ?_]
 ·intro j h1 h2
  have e:d.length-1-(d.length-1-j)=j:=by omega
  have:=hj (d.length-1-j) (by omega) (by omega)
  simp only[e]at this;exact this
 intro m h1 h2
 have e:m=d.length-1-k0:=by omega
 subst e;exact h h1 (by omega)
theorem Nd(d:List Int):(dtr d).length<=d.length:=by
 induction d with
 |nil=>exact ag8 _
 |cons a l ih=>
  unfold dtr;split
  ·split<;>simp
  ·next e=>rw[e]at ih;simpa using ih
theorem W0{d:List Int}{x:Int}(h:x∈dtr d):x∈d:=by
 induction d with
 |nil=>exact h
 |cons a l ih=>
  unfold dtr at h;split at h
  ·split at h
   ·simp at h
   ·rw[agy.1 h];simp
  ·next e=>
   rw[e]at ih
   rcases ahk.1 h with rfl|h
   ·simp
   ·exact List.mem_cons_of_mem _ (ih h)
def nmB(b:Bool)(d:List Int):GBig:=if dtr d=[]then⟨false,[]⟩else⟨b,dtr d⟩
def sgI(n:Int):Int:=min (max n (-1)) 1
def cmA(a b:List Int):Nat->Int
 |0=>0
 |k+1=>if a.getD k 0<b.getD k 0 then -1 else if a.getD k 0>b.getD k 0 then 1 else cmA a b k
def cmD(a b:List Int):Int:=if a.length=b.length then cmA a b a.length else sgI ((a.length:Int)-(b.length:Int))
def sgB(x:GBig):Int:=if dtr x.a_=[]then 0 else if x.b_ then -1 else 1
abbrev Dg(d:List Int):Prop:=∀x∈d,0<=x/\x<=4294967295
structure KN where
 k:Nat
theorem adx{x:GBig}(h:((((nmB x.b_ x.a_).a_).length:Nat):Int)=(0:Int)):AV.v (.int .i64 0)=.v (.int .i64 (sgB x)):=by
 have e:dtr x.a_=[]:=by
  by_cases hz:dtr x.a_=[]
  ·exact hz
  ·unfold nmB at h;rw[ag1 hz]at h;exact List.length_eq_zero_iff.1 (by simpa using h)
 unfold sgB;rw[ag2 e]
theorem adw{x:GBig}(h:¬((((nmB x.b_ x.a_).a_).length:Nat):Int)=(0:Int)):dtr x.a_≠[]/\(nmB x.b_ x.a_).b_=x.b_:=by
 by_cases hz:dtr x.a_=[]
 ·exact absurd (by unfold nmB;rw[ag2 hz];rfl) h
 exact⟨hz,by unfold nmB;rw[ag1 hz]⟩
theorem Yv{x:GBig}{b:Bool}(h:¬((((nmB x.b_ x.a_).a_).length:Nat):Int)=(0:Int))(hb:(nmB x.b_ x.a_).b_=b):AV.v (.int .i64 (if b then -1 else 1))=.v (.int .i64 (sgB x)):=by
 obtain⟨h1,h2⟩:=adw h
 unfold sgB;rw[ag1 h1,<-h2,hb]
theorem abu{a b:List Int}{n:Nat}(hn:n<a.length)(hm:n<b.length)(h1:¬a[n]<b[n])(h2:¬a[n]>b[n]):cmA a b (n+1)=cmA a b n:=by
 simp only[cmA,List.getD,agu hn,agu hm,Option.getD_some];rw[ag1 h1,ag1 h2]
theorem abr{a b:List Int}{n:Nat}(hn:n<a.length)(hm:n<b.length)(h1:a[n]<b[n]):cmA a b (n+1)=-1:=by
 simp only[cmA,List.getD,agu hn,agu hm,Option.getD_some];rw[ag2 h1]
theorem abt{a b:List Int}{n:Nat}(hn:n<a.length)(hm:n<b.length)(h1:¬a[n]<b[n])(h2:a[n]>b[n]):cmA a b (n+1)=1:=by
 simp only[cmA,List.getD,agu hn,agu hm,Option.getD_some];rw[ag1 h1,ag2 h2]
theorem afo{b:Bool}{d:List Int}(h:fy d (fun _=>True)):fy (nmB b d).a_ (fun _=>True):=by
 refine⟨?_,fun _ _=>trivial⟩
 unfold nmB;split
 ·exact ag6 _
 exact ahb (Nd d) h.1
theorem fe:c9 Tryz.prog 69=some (some 2):=by kernel_rfl
theorem fa:ap Tryz.prog 177=some 1:=by kernel_rfl
theorem xw(d:List Int)(hd:fy d (fun y=>True))(hs:d.length<=1000):PRet Tryz.prog 107 [.tree 1 (d.map ct)] (fun q=>q=.tree 1 ((dtr d).map ct)):=by
 refine ovT [12,20] [] Tryz.func107 rfl rfl (LenG.of ?_)
 refine LpG.on (fun k0:Nat=>(⟨fL [(0,.tree 1 (d.map ct)),(3,.v (.int .i64 (((d.length-k0):Nat):Int)))],hLz [],0⟩:St)) (fun k0=>(d.length-k0)) (fun k0=>(k0<=d.length/\∀j (hl:d.length-1-j<d.length),j<k0->d[d.length-1-j]=0)) 0 (cO (.cons rfl rfl (.cons (congrArg (fun z=>AV.v (.int .i64 z)) (by omega)) rfl .nil)) .nil) ⟨ag6 _,fun j _ h=>absurd h (ag7 j)⟩ ?_
 rintro k0 h3
 have hgr_k0:d.length<=140737488355328:=hd.1
 obtain⟨h0,h1⟩:=h3
 refine cD (fun h4=>?_) (fun h4=>?_)
 ·refine⟨by omega,OpG.lk (cn Tryz.underlying67 fa rfl rfl (show(((d.length-k0):Nat):Int)-1=((d.length-1-k0:Nat):Int)by omega) (by omega)) ?_⟩
  refine OpG.lk (lP rfl (fun _ _=>nofun) (fun _=>rfl)) (cE (fun h2=>?_) (fun h2=>?_))
  ·refine⟨by omega,⟨(k0+1),by omega,(cO (.cons rfl rfl (.cons (congrArg (fun z=>AV.v (.int .i64 z)) (by omega)) rfl .nil)) .nil),?_⟩⟩
   refine⟨by omega,fun j hl h=>?_⟩
   rcases ag9.1 h with h|rfl
   ·exact h1 j hl h
   simp_all
  refine OpG.lk (Hx (b:=d.length-k0) (l:=d) (f:=ct) Tryz.underlying67 fa rfl rfl rfl (by omega)) (ArgG.mk (PRet.of_call (CloneL.tree cl_U (fun _=>rfl) (d.take (d.length-k0)) (by rw[List.length_take];omega))) rfl ?_)
  rintro _ rfl
  exact rV rfl rfl (F0 h0 h1 fun _ _=>h2)
 refine cF (OpG.lk (Hx (b:=d.length-k0) (l:=d) (f:=ct) Tryz.underlying67 fa rfl rfl rfl (by omega)) ?_)
 refine ArgG.mk (PRet.of_call (CloneL.tree cl_U (fun _=>rfl) (d.take (d.length-k0)) (by rw[List.length_take];omega))) rfl ?_
 rintro _ rfl
 exact rV rfl rfl (F0 h0 h1 fun _ h=>absurd h (by omega))
theorem ed(b:Bool)(d:List Int)(hd:fy d (fun y=>True))(hs:d.length<=1000):PRet Tryz.prog 77 [.v (.bool b),.tree 1 (d.map ct)] (fun q=>q=.agg (bgA (nmB b d))):=by
 refine ovT [] [] Tryz.func77 rfl rfl (ArgG.mk (xw d hd ‹_›) rfl ?_)
 rintro _ rfl
 refine LenG.of (cE (fun h0=>?_) (fun h0=>?_))
 ·refine⟨.inr rfl,_,Og.cell rfl fe rfl rfl rfl rfl rfl ⟨[],ky (.cons (.pure rfl) (.cons (FzP.nil (n:=1)) .nil))⟩,?_⟩
  have e:dtr d=[]:=List.length_eq_zero_iff.1 (by omega)
  unfold nmB;rw[ag2 e];rfl
 refine⟨.inr rfl,_,Og.cell rfl fe rfl rfl rfl rfl rfl ⟨[],FzP.pure rfl⟩,?_⟩
 have e:¬dtr d=[]:=fun h=>by rw[h]at h0;exact h0 rfl
 unfold nmB;rw[ag1 e]
theorem v6(x:GBig)(hx:FitBig x)(hs:x.a_.length<=1000):PRet Tryz.prog 51 [.agg (bgA x)] (fun q=>q=.agg (bgA (nmB x.b_ x.a_))):=by
 refine ovT [] [] Tryz.func51 rfl rfl (ArgG.mk (ed x.b_ x.a_ hx.a_ ‹_›) rfl ?_)
 rintro _ rfl
 refine⟨.inr rfl,_,Og.cell rfl fe rfl rfl rfl rfl rfl ⟨[],FzP.pure rfl⟩,?_⟩
 rfl
theorem aew(x:GBig)(hx:FitBig x)(hs:x.a_.length<=1000):PRet Tryz.prog 105 [.agg (bgA x)] (fun q=>q=.agg (bgA (nmB (!x.b_) x.a_))):=by
 refine ovT [] [] Tryz.func105 rfl rfl (ArgG.mk (ed ((!x.b_)) x.a_ hx.a_ ‹_›) rfl ?_)
 rintro _ rfl
 refine⟨.inr rfl,_,Og.cell rfl fe rfl rfl rfl rfl rfl ⟨[],FzP.pure rfl⟩,?_⟩
 rfl
theorem Ys(n:Int):PRet Tryz.prog 108 [.v (.int .i64 n)] (fun q=>q=.v (.int .i64 (sgI n))):=by
 refine ovT [4,5] [] Tryz.func108 rfl rfl (OpG.lk (Ay rfl rfl) ?_)
 exact OpG.lk (rl rfl rfl) (rV rfl rfl rfl)
theorem adv(x:GBig)(hx:FitBig x)(hs:x.a_.length<=1000):PRet Tryz.prog 121 [.agg (bgA x)] (fun q=>q=.v (.int .i64 (sgB x))):=by
 refine ovT [] [] Tryz.func121 rfl rfl (ArgG.mk (v6 x hx ‹_›) rfl ?_)
 rintro _ rfl
 refine LenG.of (cE (fun h1=>?_) (fun h1=>?_))
 ·exact rV rfl rfl (adx h1)
 refine cB (fun h0=>?_) (fun h0=>?_)
 ·exact rV rfl rfl (Yv h1 h0)
 exact rV rfl rfl (Yv h1 h0)
theorem wl(d:List Int)(hd:fy d (fun y=>True))(hD:Dg d)(i:Nat):PRet Tryz.prog 52 [.tree 1 (d.map ct),.v (.int .i64 ((i:Nat):Int))] (fun q=>q=.v (.int .u64 (d.getD i 0))):=by
 refine ovT [13] [] Tryz.func52 rfl rfl (LenG.of ?_)
 refine cL (fun h0=>?_) (fun hge8=>?_)
 ·refine IdxG.of ‹_› (OpG.lk (j8 Tryz.underlying177 Tryz.underlying12 rfl (hD _ (agt h0)).1 (by have:=(hD _ (agt h0)).2;omega)) ?_)
  refine rV rfl rfl ?_
  simp only[List.getD,agu h0,Option.getD_some];rfl
 refine rV rfl rfl ?_
 rw[List.getD,List.getElem?_eq_none (by omega)];rfl
theorem l8(a:List Int)(ha:fy a (fun y=>True))(b:List Int)(hb:fy b (fun y=>True))(hs:a.length<=1000):PRet Tryz.prog 78 [.tree 1 (a.map ct),.tree 1 (b.map ct)] (fun q=>q=.v (.int .i64 (cmD a b))):=by
 refine ovT [26,30,35,39] [] Tryz.func78 rfl rfl ?_
 refine LenG.of (LenG.of ?_)
 refine cN (fun h2=>?_) (fun h2=>?_)
 ·have h7:¬a.length=b.length:=by have:=h2;omega
  refine LenG.of (LenG.of ?_)
  refine⟨by omega,?_⟩
  refine ArgG.mk (Ys (((a.length:Int)-(b.length:Int)))) rfl ?_
  rintro _ rfl
  refine rV rfl rfl ?_
  unfold cmD;rw[ag1 h7];rfl
 have h4:a.length=b.length:=by have:=h2;omega
 refine LenG.of ⟨by omega,LpG.on (fun k0:KN=>(⟨fL [(0,.tree 1 (a.map ct)),(1,.tree 1 (b.map ct)),(5,.v (.int .i64 ((a.length:Int)-1-((k0.k:Nat):Int))))],hLz [],0⟩:St)) (fun k0=>(a.length-k0.k)) (fun k0=>(k0.k<=a.length/\(cmA a b a.length=cmA a b (a.length-k0.k)))) (⟨0⟩:KN) (cO (.cons rfl rfl (.cons rfl rfl (.cons (congrArg (fun z=>AV.v (.int .i64 z)) (by(show(a.length:Int)-1=(a.length:Int)-1-((0:Nat):Int);omega))) rfl .nil))) .nil) ⟨ag6 _,rfl⟩ ?_⟩
 rintro k0 h5
 have hgr_k0:a.length<=140737488355328:=ha.1
 obtain⟨hle_k0,h0⟩:=h5
 refine cD (fun h6=>?_) (fun h6=>?_)
 ·refine OpG.lk (cn Tryz.underlying67 fa rfl rfl (show(a.length:Int)-1-((k0.k:Nat):Int)=(((a.length-1-k0.k):Nat):Int)by omega) (by omega)) ?_
  refine OpG.lk (cn Tryz.underlying67 fa rfl rfl (show(a.length:Int)-1-((k0.k:Nat):Int)=(((a.length-1-k0.k):Nat):Int)by omega) (by omega)) ?_
  refine OpG.lk (lP rfl (fun _ _=>nofun) (fun _=>rfl)) ?_
  refine⟨by kernel_rfl,?_⟩
  refine cD (fun h1=>?_) (fun h1=>?_)
  ·refine rV rfl rfl ?_
   have e:a.length-k0.k=a.length-1-k0.k+1:=by omega
   unfold cmD;rw[ag2 h4,h0,e,abr (by omega) (by omega) h1];rfl
  refine OpG.lk (cn Tryz.underlying67 fa rfl rfl (show(a.length:Int)-1-((k0.k:Nat):Int)=(((a.length-1-k0.k):Nat):Int)by omega) (by omega)) ?_
  refine OpG.lk (cn Tryz.underlying67 fa rfl rfl (show(a.length:Int)-1-((k0.k:Nat):Int)=(((a.length-1-k0.k):Nat):Int)by omega) (by omega)) ?_
  refine OpG.lk (lP rfl (fun _ _=>nofun) (fun _=>rfl)) ?_
  refine⟨by kernel_rfl,?_⟩
  refine cD (fun h3=>?_) (fun h3=>?_)
  ·refine rV rfl rfl ?_
   have e:a.length-k0.k=a.length-1-k0.k+1:=by omega
   unfold cmD;rw[ag2 h4,h0,e,abt (by omega) (by omega) h1 h3];rfl
  refine⟨by omega,?_⟩
  refine⟨(⟨k0.k+1⟩:KN),(by show a.length-(k0.k+1)<a.length-k0.k;omega),(cO (.cons rfl rfl (.cons rfl rfl (.cons (congrArg (fun z=>AV.v (.int .i64 z)) (by(show _=(a.length:Int)-1-(((k0.k+1:Nat)):Int);omega))) rfl .nil))) .nil),?_⟩
  refine⟨by show k0.k+1<=_;omega,?_⟩
  have e:a.length-k0.k=a.length-1-k0.k+1:=by omega
  show cmA a b a.length=cmA a b (a.length-(k0.k+1))
  rw[h0,e,abu (by omega) (by omega) h1 h3,show a.length-1-k0.k=a.length-(k0.k+1)by omega]
 refine rV rfl rfl ?_
 have e:a.length-k0.k=0:=by omega
 unfold cmD;rw[ag2 h4,h0,e];rfl
theorem bn{α:Type}{f:α->List AV}{q:Nat}(h:RowF f q){fp:List Nat}{η:bf}{id v n:Nat}{l:List α}(h0:id∈fp)(hb:η id=some ⟨v,rF f l,q,false⟩)(hn:n=l.length):FzP fp η (.sl id v 0 n) (.tree q (l.map f)):=by subst hn;exact FzP.rowsF h h0 hb
theorem Ey{d:List Int}(h:Dg d)(k:Nat):0<=d.getD k 0/\d.getD k 0<=4294967295:=by
 by_cases hk:k<d.length
 ·simp only[List.getD,agu hk,Option.getD_some];exact h _ (agt hk)
 rw[List.getD,List.getElem?_eq_none (by omega)];exact⟨by decide,by decide⟩
def plN(a b:List Int):Nat->List Int×Int
 |0=>([],0)
 |k+1=>((plN a b k).1++[((plN a b k).2+(a.getD k 0+b.getD k 0))%4294967296],((plN a b k).2+(a.getD k 0+b.getD k 0))/4294967296)
def plD(a b:List Int):List Int:=(plN a b (max a.length b.length+1)).1
theorem vq{a b:List Int}:∀{k:Nat},(plN a b k).1.length=k
 |0=>rfl
 |k+1=>by simp[plN,vq (k:=k)]
theorem Zo{a b:List Int}(ha:Dg a)(hb:Dg b):∀k,0<=(plN a b k).2/\(plN a b k).2<=1
 |0=>⟨by show(0:Int)<=0;decide,by show(0:Int)<=1;decide⟩
 |k+1=>by
  have:=Zo ha hb k
  have:=Ey ha k
  have:=Ey hb k
  show 0<=_/_/\_/_<=(1:Int)
  omega
theorem Kl{l:List Int}{k n:Nat}{v:Int}(hl:l.length=k)(h:k<n):(l++List.replicate (n-k) 0).set k v=(l++[v])++List.replicate (n-(k+1)) 0:=by
 rw[List.set_append_right _ _ (by omega),show n-k=(n-(k+1))+1 by omega,List.replicate_succ,hl]
 simp
structure KDc where
 k:Nat
 L:List Int
 c:Int
def miN(a b:List Int):Nat->List Int×Int
 |0=>([],0)
 |k+1=>((miN a b k).1++[(a.getD k 0-b.getD k 0-(miN a b k).2)%4294967296],if a.getD k 0-b.getD k 0-(miN a b k).2<0 then 1 else 0)
def miD(a b:List Int):List Int:=(miN a b a.length).1
theorem we{a b:List Int}:∀{k:Nat},(miN a b k).1.length=k
 |0=>rfl
 |k+1=>by simp[miN,we (k:=k)]
theorem ae1{a b:List Int}:∀k,0<=(miN a b k).2/\(miN a b k).2<=1
 |0=>⟨by show(0:Int)<=0;decide,by show(0:Int)<=1;decide⟩
 |k+1=>by
  show 0<=ite _ _ _/\ite _ _ _<=(1:Int)
  split<;>exact⟨by decide,by decide⟩
theorem Yq{x:Int}(h1:-4294967296<=x)(h2:x<=4294967295):(IntKind.u64.wrap x).fdiv (2^63)=(if x<0 then 1 else 0)/\IntKind.u32.wrap (IntKind.u64.wrap x)=x%4294967296:=by
 rw[IntKind.wrap_u32,IntKind.wrap_u64,Int.fdiv_eq_ediv_of_nonneg _ (by decide)]
 refine⟨?_,by omega⟩
 show _/(9223372036854775808:Int)=_
 split<;>omega
theorem S6{x y:Int}(hx:0<=x/\x<=4294967295)(hy:0<=y/\y<=4294967295):0<=x*y/\x*y<=18446744065119617025:=
 ⟨Int.mul_nonneg hx.1 hy.1,Int.le_trans (Int.mul_le_mul hx.2 hy.2 hy.1 (by decide)) (by decide)⟩
def inR(x:Int)(b:List Int)(i:Nat)(o:List Int):Nat->List Int×Int
 |0=>(o,0)
 |k+1=>((inR x b i o k).1.set (i+k) (((inR x b i o k).2+(x*b.getD k 0+(inR x b i o k).1.getD (i+k) 0))%4294967296),((inR x b i o k).2+(x*b.getD k 0+(inR x b i o k).1.getD (i+k) 0))/4294967296)
def ouR(a b:List Int):Nat->List Int
 |0=>List.replicate (a.length+b.length) 0
 |i+1=>(inR (a.getD i 0) b i (ouR a b i) b.length).1.set (i+b.length) ((inR (a.getD i 0) b i (ouR a b i) b.length).2%4294967296)
def tiD(a b:List Int):List Int:=ouR a b a.length
theorem To{l:List Int}{i:Nat}{v:Int}(h:Dg l):Dg (l.set i (v%4294967296)):=fun x hx=>by
 rcases List.mem_or_eq_of_mem_set hx with hx|rfl
 ·exact h x hx
 omega
section
variable{x:Int}{a b o:List Int}{i k:Nat}
theorem Ad:∀{k:Nat},(inR x b i o k).1.length=o.length
 |0=>rfl
 |k+1=>by rw[inR,List.length_set,Ad (k:=k)]
theorem Gw(h:Dg o):∀{k:Nat},Dg (inR x b i o k).1
 |0=>h
 |k+1=>by rw[inR];exact To (Gw h (k:=k))
theorem aau(hx:0<=x/\x<=4294967295)(hb:Dg b)(ho:Dg o):∀{k:Nat},0<=(inR x b i o k).2/\(inR x b i o k).2<=4294967295
 |0=>⟨by show(0:Int)<=0;decide,by show(0:Int)<=4294967295;decide⟩
 |k+1=>by
  have h1:=aau hx hb ho (k:=k)
  have h2:=S6 hx (Ey hb k)
  have h3:=Ey (Gw ho (x:=x) (b:=b) (i:=i) (k:=k)) (i+k)
  rw[inR]
  show 0<=_/_/\_/_<=(4294967295:Int)
  omega
theorem zp:∀{k:Nat},(ouR a b k).length=a.length+b.length
 |0=>by simp[ouR]
 |k+1=>by rw[ouR,List.length_set,Ad,zp (k:=k)]
theorem S0:∀{k:Nat},Dg (ouR a b k)
 |0=>fun x hx=>by rw[ouR]at hx;rw[(List.mem_replicate.1 hx).2];exact⟨by decide,by decide⟩
 |k+1=>by rw[ouR];exact To (Gw (S0 (k:=k)))
theorem ac3{d:List Int}{k:Nat}(h:k<d.length):d.getD k 0=d[k]:=by simp[List.getD,h]
theorem aat{L:List Int}{c:Int}(h:L=(inR x b i o k).1/\c=(inR x b i o k).2)(hk:k<b.length)(hl:i+k<L.length):L.set (i+k) ((c+(x*b[k]+L[i+k]))%4294967296)=(inR x b i o (k+1)).1/\(c+(x*b[k]+L[i+k]))/4294967296=(inR x b i o (k+1)).2:=by
 obtain⟨rfl,rfl⟩:=h
 rw[inR,ac3 hk,ac3 hl];exact⟨rfl,rfl⟩
end
def shN(y:Int)(a:List Int):Nat->List Int×Int
 |0=>(List.replicate a.length 0,0)
 |k+1=>((shN y a k).1.set (a.length-1-k) (((shN y a k).2*4294967296+a.getD (a.length-1-k) 0)/y%4294967296),((shN y a k).2*4294967296+a.getD (a.length-1-k) 0)%y)
section
variable{y:Int}{a:List Int}
theorem vf:∀{k:Nat},(shN y a k).1.length=a.length
 |0=>by simp[shN]
 |k+1=>by rw[shN,List.length_set,vf (k:=k)]
theorem Yu(hy:1<=y/\y<=4294967295):∀{k:Nat},0<=(shN y a k).2/\(shN y a k).2<=4294967294
 |0=>⟨by show(0:Int)<=0;decide,by show(0:Int)<=4294967294;decide⟩
 |k+1=>by
  rw[shN]
  have h1:=Int.emod_nonneg ((shN y a k).2*4294967296+a.getD (a.length-1-k) 0) (show y≠0 by omega)
  have h2:=Int.emod_lt_of_pos ((shN y a k).2*4294967296+a.getD (a.length-1-k) 0) (show 0<y by omega)
  show 0<=_%_/\_%_<=(4294967294:Int)
  omega
theorem Yt{k:Nat}{L:List Int}{c:Int}(h:L=(shN y a k).1/\c=(shN y a k).2)(hk:a.length-1-k<a.length):L.set (a.length-1-k) ((c*4294967296+a[a.length-1-k])/y%4294967296)=(shN y a (k+1)).1/\(c*4294967296+a[a.length-1-k])%y=(shN y a (k+1)).2:=by
 obtain⟨rfl,rfl⟩:=h
 rw[shN,ac3 hk];exact⟨rfl,rfl⟩
end
theorem Ct:(Tryz.prog.info? 177).map (·.bytes)=some 4:=by kernel_rfl
theorem Y9:c9 Tryz.prog 177=some none:=by kernel_rfl
theorem tt:bi Tryz.prog 177=some (.int .u32 0):=by kernel_rfl
theorem Sw(a:List Int)(ha:fy a (fun y=>True))(b:List Int)(hb:fy b (fun y=>True))(h3:Dg a)(h4:Dg b)(hsa:a.length<=1000)(hsb:b.length<=1000):PRet Tryz.prog 158 [.tree 1 (a.map ct),.tree 1 (b.map ct)] (fun q=>q=.tree 1 ((plD a b).map ct)):=by
 refine ovT [12,14,27,28,32,33,35,100033] [10] Tryz.func158 rfl rfl (LenG.of ?_)
 refine LenG.of (OpG.lk (Ay rfl rfl) ?_)
 refine⟨by omega,OpG.nw (oc (len:=(max a.length b.length+1)) bz 0 Tryz.underlying67 fa tt Ct rfl rfl rfl rfl (by omega) (by omega) (by omega) (by omega)) rfl ?_⟩
 refine LpG.on (fun k0:KDc=>(⟨fL [(0,.tree 1 (a.map ct)),(1,.tree 1 (b.map ct)),(5,.sl 0 0 0 (max a.length b.length+1)),(6,.v (.int .u64 k0.c)),(16,.v (.int .i64 (((max a.length b.length+1):Nat):Int))),(17,.v (.int .i64 ((k0.k:Nat):Int)))],hLz [(0,⟨0,rF ct k0.L,1,false⟩)],1⟩:St)) (fun k0=>((max a.length b.length+1)-k0.k)) (fun k0=>(k0.k<=(max a.length b.length+1)/\(k0.L=(plN a b k0.k).1++List.replicate ((max a.length b.length+1)-k0.k) 0/\k0.c=(plN a b k0.k).2))) (⟨0,List.replicate (max a.length b.length+1) 0,0⟩:KDc) (cO (.cons rfl rfl (.cons rfl rfl (.cons rfl rfl (.cons rfl rfl (.cons rfl rfl (.cons rfl rfl .nil)))))) (.cons rfl rfl (aa bz _ _) .nil)) ⟨ag6 _,⟨by simp[plN],rfl⟩⟩ ?_
 rintro k0 h2
 obtain⟨hle_k0,h0⟩:=h2
 refine cL (fun h1=>?_) (fun hge18=>?_)
 ·have hga:=Ey h3 k0.k
  have hgb:=Ey h4 k0.k
  have h5:=Zo h3 h4 k0.k
  rw[<-h0.2]at h5
  refine ArgG.mk (wl a ha ‹_› k0.k) rfl ?_
  rintro _ rfl
  refine ArgG.mk (wl b hb ‹_› k0.k) rfl ?_
  rintro _ rfl
  refine OpG.lk (uv (r:=a.getD k0.k 0+b.getD k0.k 0) rfl rfl (by rw[IntKind.wrap_u64];omega)) (OpG.lk (uv (r:=(k0.c+(a.getD k0.k 0+b.getD k0.k 0))) rfl rfl (by rw[IntKind.wrap_u64];omega)) ?_)
  refine OpG.lk (jt (r:=(k0.c+(a.getD k0.k 0+b.getD k0.k 0))%4294967296) Tryz.underlying12 Tryz.underlying177 rfl (by rw[IntKind.wrap_u32])) (OpG.lk (fh (i:=k0.k) Tryz.underlying67 fa rfl rfl rfl (by omega) rfl) ?_)
  refine OpG.wr (iq bz fa rfl rfl rfl rfl rfl rfl (by rw[h0.1];simp[vq];omega)) rfl (OpG.lk (rf (q:=32) (r:=(k0.c+(a.getD k0.k 0+b.getD k0.k 0))/4294967296) rfl rfl (by decide) (Int.fdiv_eq_ediv_of_nonneg _ (by decide))) ?_)
  refine⟨by omega,⟨(⟨k0.k+1,k0.L.set k0.k ((k0.c+(a.getD k0.k 0+b.getD k0.k 0))%4294967296),(k0.c+(a.getD k0.k 0+b.getD k0.k 0))/4294967296⟩:KDc),(by show(max a.length b.length+1)-(k0.k+1)<(max a.length b.length+1)-k0.k;omega),(cO (.cons rfl rfl (.cons rfl rfl (.cons rfl rfl (.cons rfl rfl (.cons rfl rfl (.cons rfl rfl .nil)))))) (.cons rfl rfl (aa bz _ _) .nil)),?_⟩⟩
  refine⟨by show k0.k+1<=_;omega,⟨?_,by rw[h0.2];rfl⟩⟩
  show k0.L.set k0.k _=_
  rw[h0.1,Kl vq h1,h0.2];rfl
 refine RegG.via (fun _ h=>br [0] 5 (.tree 1 (k0.L.map ct)) (bn bz (agy.2 rfl) rfl (by rw[h0.1];simp[vq];omega)) rfl h) (ba ?_)
 refine rV rfl rfl ?_
 have e:k0.k=(max a.length b.length+1):=by omega
 unfold plD
 rw[h0.1,e,Nat.sub_self,List.replicate_zero,List.append_nil];rfl
theorem Ef(a:List Int)(ha:fy a (fun y=>True))(b:List Int)(hb:fy b (fun y=>True))(h4:Dg a)(h5:Dg b)(hsa:a.length<=1000)(hsb:b.length<=1000):PRet Tryz.prog 159 [.tree 1 (a.map ct),.tree 1 (b.map ct)] (fun q=>q=.tree 1 ((miD a b).map ct)):=by
 refine ovT [11,21,25,27,31,32,34,100032] [10] Tryz.func159 rfl rfl (LenG.of ?_)
 refine OpG.nw (s9 (len:=a.length) bz 0 Tryz.underlying67 fa tt Ct rfl rfl rfl rfl rfl (by omega) (by omega)) rfl (LenG.of ?_)
 refine LpG.on (fun k0:KDc=>(⟨fL [(0,.tree 1 (a.map ct)),(1,.tree 1 (b.map ct)),(5,.sl 0 0 0 a.length),(6,.v (.int .u64 k0.c)),(13,.v (.int .i64 ((a.length:Nat):Int))),(14,.v (.int .i64 ((k0.k:Nat):Int)))],hLz [(0,⟨0,rF ct k0.L,1,false⟩)],1⟩:St)) (fun k0=>(a.length-k0.k)) (fun k0=>(k0.k<=a.length/\(k0.L=(miN a b k0.k).1++List.replicate (a.length-k0.k) 0/\k0.c=(miN a b k0.k).2))) (⟨0,List.replicate a.length 0,0⟩:KDc) (cO (.cons rfl rfl (.cons rfl rfl (.cons rfl rfl (.cons rfl rfl (.cons rfl rfl (.cons rfl rfl .nil)))))) (.cons rfl rfl (aa bz _ _) .nil)) ⟨ag6 _,⟨by simp[miN],rfl⟩⟩ ?_
 rintro k0 h2
 have hgr_k0:a.length<=140737488355328:=ha.1
 obtain⟨hle_k0,h0⟩:=h2
 refine cL (fun h1=>?_) (fun hge15=>?_)
 ·have h6:=h4 _ (agt h1)
  have hgb:=Ey h5 k0.k
  have h7:=ae1 (a:=a) (b:=b) k0.k
  rw[<-h0.2]at h7
  have h3:=Yq (x:=(a[k0.k]-b.getD k0.k 0-k0.c)) (by omega) (by omega)
  have hA:a.getD k0.k 0=a[k0.k]:=by simp[List.getD,h1]
  refine IdxG.of ‹_› (OpG.lk (j8 Tryz.underlying177 Tryz.underlying12 rfl h6.1 (by omega)) ?_)
  refine ArgG.mk (wl b hb ‹_› k0.k) rfl ?_
  rintro _ rfl
  refine OpG.lk (mu (r:=IntKind.u64.wrap (a[k0.k]-b.getD k0.k 0)) rfl rfl rfl) (OpG.lk (mu (r:=IntKind.u64.wrap (a[k0.k]-b.getD k0.k 0-k0.c)) rfl rfl (by rw[IntKind.wrap_u64,IntKind.wrap_u64,IntKind.wrap_u64];omega)) ?_)
  refine⟨by kernel_rfl,OpG.lk (jt (r:=(a[k0.k]-b.getD k0.k 0-k0.c)%4294967296) Tryz.underlying12 Tryz.underlying177 rfl h3.2) ?_⟩
  refine OpG.lk (fh (i:=k0.k) Tryz.underlying67 fa rfl rfl rfl (by omega) rfl) (OpG.wr (iq bz fa rfl rfl rfl rfl rfl rfl (by rw[h0.1];simp[we];omega)) rfl ?_)
  refine OpG.lk (rf (q:=63) (r:=if(a[k0.k]-b.getD k0.k 0-k0.c)<0 then 1 else 0) rfl rfl (by decide) h3.1) ⟨by omega,⟨(⟨k0.k+1,k0.L.set k0.k ((a[k0.k]-b.getD k0.k 0-k0.c)%4294967296),if(a[k0.k]-b.getD k0.k 0-k0.c)<0 then 1 else 0⟩:KDc),(by show a.length-(k0.k+1)<a.length-k0.k;omega),(cO (.cons rfl rfl (.cons rfl rfl (.cons rfl rfl (.cons rfl rfl (.cons rfl rfl (.cons rfl rfl .nil)))))) (.cons rfl rfl (aa bz _ _) .nil)),?_⟩⟩
  refine⟨by show k0.k+1<=_;omega,⟨?_,by rw[<-hA,h0.2];rfl⟩⟩
  show k0.L.set k0.k _=_
  rw[h0.1,Kl we h1,<-hA,h0.2];rfl
 refine RegG.via (fun _ h=>br [0] 5 (.tree 1 (k0.L.map ct)) (bn bz (agy.2 rfl) rfl (by rw[h0.1];simp[we];omega)) rfl h) (ba ?_)
 refine rV rfl rfl ?_
 have e:k0.k=a.length:=by omega
 unfold miD
 rw[h0.1,e,Nat.sub_self,List.replicate_zero,List.append_nil];rfl
theorem Uo(a:List Int)(ha:fy a (fun y=>True))(b:List Int)(hb:fy b (fun y=>True))(hd:Dg a)(h6:Dg b)(hsa:a.length<=1000)(hsb:b.length<=1000):PRet Tryz.prog 177 [.tree 1 (a.map ct),.tree 1 (b.map ct)] (fun q=>q=.tree 1 ((tiD a b).map ct)):=by
 refine ovT [16,33,35,36,41,42,43,44,45,51,52,54,62,63,100052,100063] [15] Tryz.func177 rfl rfl (LenG.of ?_)
 refine LenG.of ⟨by omega,OpG.nw (s9 (len:=(a.length+b.length)) bz 0 Tryz.underlying67 fa tt Ct rfl rfl rfl rfl (by omega) (by omega) (by omega)) rfl ?_⟩
 refine LenG.of (LpG.on (fun k0:KL Int=>(⟨fL [(1,.tree 1 (b.map ct)),(5,.sl 0 0 0 (a.length+b.length)),(17,.tree 1 (a.map ct)),(18,.v (.int .i64 ((a.length:Nat):Int))),(19,.v (.int .i64 ((k0.k:Nat):Int)))],hLz [(0,⟨0,rF ct k0.L,1,false⟩)],1⟩:St)) (fun k0=>(a.length-k0.k)) (fun k0=>(k0.k<=a.length/\(k0.L=ouR a b k0.k))) (⟨0,List.replicate (a.length+b.length) 0⟩:KL Int) (cO (.cons rfl rfl (.cons rfl rfl (.cons rfl rfl (.cons rfl rfl (.cons rfl rfl .nil))))) (.cons rfl rfl (aa bz _ _) .nil)) ⟨ag6 _,rfl⟩ ?_)
 rintro k0 h5
 have hgr_k0:a.length<=140737488355328:=ha.1
 obtain⟨hle_k0,h1⟩:=h5
 refine cL (fun h3=>?_) (fun hge20=>?_)
 ·have hx:=hd _ (agt h3)
  have h7:Dg k0.L:=by rw[h1];exact S0
  have h8:k0.L.length=a.length+b.length:=by rw[h1];exact zp
  refine IdxG.of ‹_› (LenG.of ?_)
  refine LpG.on (fun k2:KDc=>(⟨fL [(1,.tree 1 (b.map ct)),(5,.sl 0 0 0 (a.length+b.length)),(6,.v (.int .i64 ((k0.k:Nat):Int))),(7,.v (.int .u32 a[k0.k])),(8,.v (.int .u64 k2.c)),(17,.tree 1 (a.map ct)),(18,.v (.int .i64 ((a.length:Nat):Int))),(19,.v (.int .i64 ((k0.k:Nat):Int))),(24,.tree 1 (b.map ct)),(25,.v (.int .i64 ((b.length:Nat):Int))),(26,.v (.int .i64 ((k2.k:Nat):Int)))],hLz [(0,⟨0,rF ct k2.L,1,false⟩)],1⟩:St)) (fun k2=>(b.length-k2.k)) (fun k2=>(k2.k<=b.length/\(k2.L=(inR a[k0.k] b k0.k k0.L k2.k).1/\k2.c=(inR a[k0.k] b k0.k k0.L k2.k).2))) (⟨0,k0.L,0⟩:KDc) (cO (.cons rfl rfl (.cons rfl rfl (.cons rfl rfl (.cons rfl rfl (.cons rfl rfl (.cons rfl rfl (.cons rfl rfl (.cons rfl rfl (.cons rfl rfl (.cons rfl rfl (.cons rfl rfl .nil))))))))))) (.cons rfl rfl (aa bz _ _) .nil)) ⟨ag6 _,⟨rfl,rfl⟩⟩ ?_
  rintro k2 h5
  have hgr_k2:b.length<=140737488355328:=hb.1
  obtain⟨hle_k2,h0⟩:=h5
  refine cL (fun h4=>?_) (fun hge27=>?_)
  ·have hy:=h6 _ (agt h4)
   have h9:k2.L.length=a.length+b.length:=by rw[h0.1,Ad,h8]
   have h2:k0.k+k2.k<k2.L.length:=by omega
   have hxy:=S6 hx hy
   have hz:=(show Dg k2.L by rw[h0.1];exact Gw h7) _ (agt h2)
   have hc:=aau hx h6 h7 (i:=k0.k) (k:=k2.k)
   rw[<-h0.2]at hc
   refine IdxG.of ‹_› (OpG.lk (j8 Tryz.underlying177 Tryz.underlying12 rfl hx.1 (by omega)) ?_)
   refine OpG.lk (j8 Tryz.underlying177 Tryz.underlying12 rfl hy.1 (by omega)) (OpG.lk (Hy (r:=(a[k0.k]*b[k2.k])) rfl rfl (by rw[IntKind.wrap_u64];omega)) ?_)
   refine⟨by omega,OpG.lk (fh (i:=k0.k+k2.k) Tryz.underlying67 fa rfl rfl (by omega) (by omega) rfl) ?_⟩
   refine OpG.lk (Je bz (L:=k2.L) (i:=k0.k+k2.k) Y9 rfl rfl h2 rfl) (OpG.lk (j8 Tryz.underlying177 Tryz.underlying12 rfl hz.1 (by omega)) ?_)
   refine OpG.lk (uv (r:=((a[k0.k]*b[k2.k])+(k2.L[k0.k+k2.k]'h2))) rfl rfl (by rw[IntKind.wrap_u64];omega)) (OpG.lk (uv (r:=(k2.c+((a[k0.k]*b[k2.k])+(k2.L[k0.k+k2.k]'h2)))) rfl rfl (by rw[IntKind.wrap_u64];omega)) ?_)
   refine⟨by omega,OpG.lk (jt (r:=(k2.c+((a[k0.k]*b[k2.k])+(k2.L[k0.k+k2.k]'h2)))%4294967296) Tryz.underlying12 Tryz.underlying177 rfl (by rw[IntKind.wrap_u32])) ?_⟩
   refine OpG.lk (fh (i:=k0.k+k2.k) Tryz.underlying67 fa rfl rfl (by omega) (by omega) rfl) (OpG.wr (iq bz fa rfl rfl rfl rfl rfl rfl h2) rfl ?_)
   refine OpG.lk (rf (q:=32) (r:=(k2.c+((a[k0.k]*b[k2.k])+(k2.L[k0.k+k2.k]'h2)))/4294967296) rfl rfl (by decide) (Int.fdiv_eq_ediv_of_nonneg _ (by decide))) ⟨by omega,⟨(⟨k2.k+1,k2.L.set (k0.k+k2.k) ((k2.c+((a[k0.k]*b[k2.k])+(k2.L[k0.k+k2.k]'h2)))%4294967296),(k2.c+((a[k0.k]*b[k2.k])+(k2.L[k0.k+k2.k]'h2)))/4294967296⟩:KDc),(by show b.length-(k2.k+1)<b.length-k2.k;omega),(cO (.cons rfl rfl (.cons rfl rfl (.cons rfl rfl (.cons rfl rfl (.cons rfl rfl (.cons rfl rfl (.cons rfl rfl (.cons rfl rfl (.cons rfl rfl (.cons rfl rfl (.cons rfl rfl .nil))))))))))) (.cons rfl rfl (aa bz _ _) .nil)),?_⟩⟩
   exact⟨by show k2.k+1<=_;omega,aat h0 h4 h2⟩
  have h9:k2.L.length=a.length+b.length:=by rw[h0.1,Ad,h8]
  have he:k2.k=b.length:=by omega
  refine LenG.of ⟨by omega,OpG.lk (jt (r:=k2.c%4294967296) Tryz.underlying12 Tryz.underlying177 rfl (by rw[IntKind.wrap_u32])) ?_⟩
  refine OpG.lk (fh (i:=k0.k+b.length) Tryz.underlying67 fa rfl rfl (by omega) (by omega) rfl) (OpG.wr (iq bz fa rfl rfl rfl rfl rfl rfl (by rw[h9];omega)) rfl ?_)
  refine⟨by omega,⟨(⟨k0.k+1,k2.L.set (k0.k+b.length) (k2.c%4294967296)⟩:KL Int),(by show a.length-(k0.k+1)<a.length-k0.k;omega),(cO (.cons rfl rfl (.cons rfl rfl (.cons rfl rfl (.cons rfl rfl (.cons rfl rfl .nil))))) (.cons rfl rfl (aa bz _ _) .nil)),?_⟩⟩
  refine⟨by show k0.k+1<=_;omega,?_⟩
  show k2.L.set _ _=ouR a b (k0.k+1)
  rw[ouR,ac3 h3,<-h1,<-he,<-h0.1,<-h0.2]
 refine RegG.via (fun _ h=>br [0] 5 (.tree 1 (k0.L.map ct)) (bn bz (agy.2 rfl) rfl (by rw[h1,zp])) rfl h) (ba ?_)
 refine rV rfl rfl ?_
 have e:k0.k=a.length:=by omega
 unfold tiD
 rw[h1,e];rfl
theorem Kk(a:List Int)(ha:fy a (fun y=>True))(y:Int)(hy:1<=y/\y<=4294967295)(h6:Dg a)(hsa:a.length<=1000):PRet Tryz.prog 182 [.tree 1 (a.map ct),.v (.int .u32 y)] (fun q=>q=.tup [.tree 1 ((shN y a a.length).1.map ct),.v (.int .u32 (shN y a a.length).2)]):=by
 refine ovT [12,21,24,26,27,32,33,34,35,38,39,42,100035] [9] Tryz.func182 rfl rfl (LenG.of ?_)
 refine OpG.nw (s9 (len:=a.length) bz 0 Tryz.underlying67 fa tt Ct rfl rfl rfl rfl rfl (by omega) (by omega)) rfl (LenG.of ?_)
 refine⟨by omega,LpG.on (fun k0:KDc=>(⟨fL [(0,.tree 1 (a.map ct)),(1,.v (.int .u32 y)),(6,.sl 0 0 0 a.length),(7,.v (.int .u64 k0.c)),(8,.v (.int .i64 ((a.length:Int)-1-((k0.k:Nat):Int))))],hLz [(0,⟨0,rF ct k0.L,1,false⟩)],1⟩:St)) (fun k0=>(a.length-k0.k)) (fun k0=>(k0.k<=a.length/\(k0.L=(shN y a k0.k).1/\k0.c=(shN y a k0.k).2))) (⟨0,List.replicate a.length 0,0⟩:KDc) (cO (.cons rfl rfl (.cons rfl rfl (.cons rfl rfl (.cons rfl rfl (.cons (congrArg (fun z=>AV.v (.int .i64 z)) (by(show(a.length:Int)-1=(a.length:Int)-1-((0:Nat):Int);omega))) rfl .nil))))) (.cons rfl rfl (aa bz _ _) .nil)) ⟨ag6 _,⟨rfl,rfl⟩⟩ ?_⟩
 rintro k0 h3
 have hgr_k0:a.length<=140737488355328:=ha.1
 obtain⟨hle_k0,h0⟩:=h3
 refine cD (fun h4=>?_) (fun h4=>?_)
 ·have h1:a.length-1-k0.k<a.length:=by omega
  have h5:=h6 _ (agt h1)
  have h2:=Yu (a:=a) hy (k:=k0.k)
  rw[<-h0.2]at h2
  refine OpG.lk (Rr (q:=32) (r:=k0.c*4294967296) rfl rfl (by decide) (by rw[IntKind.wrap_u64];show _*(4294967296:Int)%_=_;omega)) (OpG.lk (cn Tryz.underlying67 fa rfl rfl (show((a.length:Int)-1-((k0.k:Nat):Int))=(((a.length-1-k0.k):Nat):Int)by omega) h1) ?_)
  refine OpG.lk (j8 Tryz.underlying177 Tryz.underlying12 rfl h5.1 (by omega)) (OpG.lk (Ru rfl rfl h2.1 (by omega) h5.1 h5.2) ?_)
  refine OpG.lk (j8 Tryz.underlying177 Tryz.underlying12 rfl (by omega) (by omega)) (OpG.lk (Rt rfl rfl (by omega) (by omega) hy.1) ?_)
  refine OpG.lk (jt (r:=(k0.c*4294967296+(a[a.length-1-k0.k]'h1))/y%4294967296) Tryz.underlying12 Tryz.underlying177 rfl (by rw[IntKind.wrap_u32])) (OpG.lk (fh (i:=(a.length-1-k0.k)) Tryz.underlying67 fa rfl rfl (show((a.length:Int)-1-((k0.k:Nat):Int))=(((a.length-1-k0.k):Nat):Int)by omega) h1 rfl) ?_)
  refine OpG.wr (iq bz fa rfl rfl rfl rfl rfl rfl (by rw[h0.1,vf];exact h1)) rfl (OpG.lk (j8 Tryz.underlying177 Tryz.underlying12 rfl (by omega) (by omega)) ?_)
  refine OpG.lk (Rs rfl rfl (by omega) hy.1) ⟨by omega,⟨(⟨k0.k+1,k0.L.set (a.length-1-k0.k) ((k0.c*4294967296+(a[a.length-1-k0.k]'h1))/y%4294967296),(k0.c*4294967296+(a[a.length-1-k0.k]'h1))%y⟩:KDc),(by show a.length-(k0.k+1)<a.length-k0.k;omega),(cO (.cons rfl rfl (.cons rfl rfl (.cons rfl rfl (.cons rfl rfl (.cons (congrArg (fun z=>AV.v (.int .i64 z)) (by(show _=(a.length:Int)-1-(((k0.k+1:Nat)):Int);omega))) rfl .nil))))) (.cons rfl rfl (aa bz _ _) .nil)),?_⟩⟩
  exact⟨by show k0.k+1<=_;omega,Yt h0 h1⟩
 have h2:=Yu (a:=a) hy (k:=k0.k)
 rw[<-h0.2]at h2
 refine RegG.via (fun _ h=>br [0] 6 (.tree 1 (k0.L.map ct)) (bn bz (agy.2 rfl) rfl (by rw[h0.1,vf])) rfl h) (ba ?_)
 refine OpG.lk (jt (r:=k0.c) Tryz.underlying12 Tryz.underlying177 rfl (by rw[IntKind.wrap_u32];omega)) ⟨.inr rfl,_,Og.two rfl (T7.tmp ⟨[],FzP.pure rfl⟩) (T7.tmp ⟨[],FzP.pure rfl⟩),?_⟩
 have e:k0.k=a.length:=by omega
 rw[h0.1,h0.2,e];rfl
theorem Gh{b:Bool}{d:List Int}(h:Dg d):Dg (nmB b d).a_:=by
 unfold nmB;split
 ·intro x hx;simp at hx
 exact fun x hx=>h x (W0 hx)
theorem zs{b:Bool}{d:List Int}:(nmB b d).a_.length<=d.length:=by
 unfold nmB;split
 ·exact ag6 _
 exact Nd d
theorem pf{x:GBig}(h:FitBig x):FitBig (nmB x.b_ x.a_):=⟨afo h.a_⟩
theorem jj{l:List Int}(h:l.length<=5000):fy l (fun _=>True):=⟨by omega,fun _ _=>trivial⟩
theorem k9{a b:List Int}:(plD a b).length=max a.length b.length+1:=vq
theorem la{a b:List Int}:(miD a b).length=a.length:=we
theorem nh{a b:List Int}:(tiD a b).length=a.length+b.length:=zp
def nrB(x:GBig):GBig:=nmB x.b_ x.a_
def ngB(x:GBig):GBig:=nmB (!x.b_) x.a_
def coB(x y:GBig):Int:=
 if(nrB x).b_=(nrB y).b_ then(if(nrB x).b_ then cmD (nrB y).a_ (nrB x).a_ else cmD (nrB x).a_ (nrB y).a_)
 else if(nrB x).b_ then -1 else 1
def adB(x y:GBig):GBig:=
 if(nrB x).b_=(nrB y).b_ then nmB (nrB x).b_ (plD (nrB x).a_ (nrB y).a_)
 else if cmD (nrB x).a_ (nrB y).a_<0 then nmB (nrB y).b_ (miD (nrB y).a_ (nrB x).a_)else nmB (nrB x).b_ (miD (nrB x).a_ (nrB y).a_)
def muB(x y:GBig):GBig:=nmB (x.b_ !=y.b_) (tiD x.a_ y.a_)
def ofD(n:Int):List Int:=[(if n<0 then -n else n)%4294967296,(if n<0 then -n else n)/4294967296]
theorem agp(x:GBig)(hx:FitBig x)(y:GBig)(hy:FitBig y)(h2:Dg x.a_)(h3:Dg y.a_)(h4:x.a_.length<=400)(h5:y.a_.length<=400):PRet Tryz.prog 122 [.agg (bgA x),.agg (bgA y)] (fun q=>q=.agg (bgA (adB x y))):=by
 have hdx:Dg (nrB x).a_:=Gh h2
 have hdy:Dg (nrB y).a_:=Gh h3
 have hlx:(nrB x).a_.length<=400:=ahb zs h4
 have hly:(nrB y).a_.length<=400:=ahb zs h5
 refine ovT [] [] Tryz.func122 rfl rfl (ArgG.mk ((show PRet Tryz.prog 51 [.agg (bgA x)] (fun q=>q=.agg (bgA (nrB x)))from v6 x hx (by omega))) rfl ?_)
 rintro _ rfl
 refine ArgG.mk ((show PRet Tryz.prog 51 [.agg (bgA y)] (fun q=>q=.agg (bgA (nrB y)))from v6 y hy (by omega))) rfl ?_
 rintro _ rfl
 refine⟨by kernel_rfl,cB (fun h0=>?_) (fun h0=>?_)⟩
 ·refine ArgG.mk (Sw ((nrB x).a_) (pf hx).a_ ((nrB y).a_) (pf hy).a_ ‹_› ‹_› (by omega) (by omega)) rfl ?_
  rintro _ rfl
  refine ArgG.mk (ed ((nrB x).b_) ((plD ((nrB x).a_) ((nrB y).a_))) (jj (by(simp only[k9,la,nh];omega))) (by(simp only[k9,la,nh];omega))) rfl ?_
  rintro _ rfl
  refine⟨by kernel_rfl,⟨.inr rfl,_,Og.cell rfl fe rfl rfl rfl rfl rfl ⟨[],FzP.pure rfl⟩,?_⟩⟩
  unfold adB;rw[ag2 (by simpa using h0)]
 refine ArgG.mk (l8 ((nrB x).a_) (pf hx).a_ ((nrB y).a_) (pf hy).a_ (by omega)) rfl ?_
 rintro _ rfl
 refine cD (fun h1=>?_) (fun h1=>?_)
 ·refine ArgG.mk (Ef ((nrB y).a_) (pf hy).a_ ((nrB x).a_) (pf hx).a_ ‹_› ‹_› (by omega) (by omega)) rfl ?_
  rintro _ rfl
  refine ArgG.mk (ed ((nrB y).b_) ((miD ((nrB y).a_) ((nrB x).a_))) (jj (by(simp only[k9,la,nh];omega))) (by(simp only[k9,la,nh];omega))) rfl ?_
  rintro _ rfl
  refine⟨by kernel_rfl,⟨.inr rfl,_,Og.cell rfl fe rfl rfl rfl rfl rfl ⟨[],FzP.pure rfl⟩,?_⟩⟩
  unfold adB;rw[ag1 (by simpa using h0),ag2 h1]
 refine ArgG.mk (Ef ((nrB x).a_) (pf hx).a_ ((nrB y).a_) (pf hy).a_ ‹_› ‹_› (by omega) (by omega)) rfl ?_
 rintro _ rfl
 refine ArgG.mk (ed ((nrB x).b_) ((miD ((nrB x).a_) ((nrB y).a_))) (jj (by(simp only[k9,la,nh];omega))) (by(simp only[k9,la,nh];omega))) rfl ?_
 rintro _ rfl
 refine⟨by kernel_rfl,⟨.inr rfl,_,Og.cell rfl fe rfl rfl rfl rfl rfl ⟨[],FzP.pure rfl⟩,?_⟩⟩
 unfold adB;rw[ag1 (by simpa using h0),ag1 h1]
theorem aez(x:GBig)(hx:FitBig x)(y:GBig)(hy:FitBig y)(hDx:Dg x.a_)(hDy:Dg y.a_)(hsx:x.a_.length<=400)(hsy:y.a_.length<=400):PRet Tryz.prog 143 [.agg (bgA x),.agg (bgA y)] (fun q=>q=.agg (bgA (muB x y))):=by
 refine ovT [] [] Tryz.func143 rfl rfl (ArgG.mk (Uo x.a_ hx.a_ y.a_ hy.a_ ‹_› ‹_› (by omega) (by omega)) rfl ?_)
 rintro _ rfl
 refine ArgG.mk (ed ((x.b_ !=y.b_)) ((tiD x.a_ y.a_)) (jj (by(simp only[k9,la,nh];omega))) (by(simp only[k9,la,nh];omega))) rfl ?_
 rintro _ rfl
 refine⟨by kernel_rfl,⟨.inr rfl,_,Og.cell rfl fe rfl rfl rfl rfl rfl ⟨[],FzP.pure rfl⟩,?_⟩⟩
 rfl
theorem af3(x:GBig)(hx:FitBig x)(y:GBig)(hy:FitBig y)(h3:Dg x.a_)(h4:Dg y.a_)(h5:x.a_.length<=400)(h6:y.a_.length<=400):PRet Tryz.prog 53 [.agg (bgA x),.agg (bgA y)] (fun q=>q=.v (.int .i64 (coB x y))):=by
 have hdx:Dg (nrB x).a_:=Gh h3
 have hdy:Dg (nrB y).a_:=Gh h4
 have hlx:(nrB x).a_.length<=400:=ahb zs h5
 have hly:(nrB y).a_.length<=400:=ahb zs h6
 refine ovT [] [] Tryz.func53 rfl rfl (ArgG.mk ((show PRet Tryz.prog 51 [.agg (bgA x)] (fun q=>q=.agg (bgA (nrB x)))from v6 x hx (by omega))) rfl ?_)
 rintro _ rfl
 refine ArgG.mk ((show PRet Tryz.prog 51 [.agg (bgA y)] (fun q=>q=.agg (bgA (nrB y)))from v6 y hy (by omega))) rfl ?_
 rintro _ rfl
 refine⟨by kernel_rfl,cB (fun h2=>?_) (fun h2=>?_)⟩
 ·refine cB (fun h7=>?_) (fun h7=>?_)
  ·refine rV rfl rfl (congrArg (fun z=>AV.v (.int .i64 z)) ?_)
   unfold coB
   cases hn:(nrB x).b_<;>cases hm:(nrB y).b_<;>simp_all
  refine cB (fun h0=>?_) (fun h0=>?_)
  ·refine rV rfl rfl (congrArg (fun z=>AV.v (.int .i64 z)) ?_)
   unfold coB
   cases hn:(nrB x).b_<;>cases hm:(nrB y).b_<;>simp_all
  refine cB (fun h1=>?_) (fun h1=>?_)
  ·refine ArgG.mk (l8 ((nrB y).a_) (pf hy).a_ ((nrB x).a_) (pf hx).a_ (by omega)) rfl ?_
   rintro _ rfl
   refine rV rfl rfl (congrArg (fun z=>AV.v (.int .i64 z)) ?_)
   unfold coB
   cases hn:(nrB x).b_<;>cases hm:(nrB y).b_<;>simp_all
  refine ArgG.mk (l8 ((nrB x).a_) (pf hx).a_ ((nrB y).a_) (pf hy).a_ (by omega)) rfl ?_
  rintro _ rfl
  refine rV rfl rfl (congrArg (fun z=>AV.v (.int .i64 z)) ?_)
  unfold coB
  cases hn:(nrB x).b_<;>cases hm:(nrB y).b_<;>simp_all
 refine cF (cB (fun h0=>?_) (fun h0=>?_))
 ·refine rV rfl rfl (congrArg (fun z=>AV.v (.int .i64 z)) ?_)
  unfold coB
  cases hn:(nrB x).b_<;>cases hm:(nrB y).b_<;>simp_all
 refine cB (fun h1=>?_) (fun h1=>?_)
 ·refine ArgG.mk (l8 ((nrB y).a_) (pf hy).a_ ((nrB x).a_) (pf hx).a_ (by omega)) rfl ?_
  rintro _ rfl
  refine rV rfl rfl (congrArg (fun z=>AV.v (.int .i64 z)) ?_)
  unfold coB
  cases hn:(nrB x).b_<;>cases hm:(nrB y).b_<;>simp_all
 refine ArgG.mk (l8 ((nrB x).a_) (pf hx).a_ ((nrB y).a_) (pf hy).a_ (by omega)) rfl ?_
 rintro _ rfl
 refine rV rfl rfl (congrArg (fun z=>AV.v (.int .i64 z)) ?_)
 unfold coB
 cases hn:(nrB x).b_<;>cases hm:(nrB y).b_<;>simp_all
theorem of_p(n:Int)(h1:-9223372036854775808<=n)(h2:n<=9223372036854775807):PRet Tryz.prog 95 [.v (.int .i64 n)] (fun q=>q=.agg (bgA (nmB (decide (n<0)) (ofD n)))):=by
 have hlo:(ofD n).length<=2:=ag8 _
 have hfo:fy (ofD n) (fun _=>True):=jj (by omega)
 refine ovT [5,9,13,15,16,17] [] Tryz.func95 rfl rfl (OpG.lk (R1 Tryz.underlying2 Tryz.underlying12 rfl) ?_)
 refine cD (fun h0=>?_) (fun h0=>?_)
 ·refine OpG.lk (Rv rfl (Vu h1 h0)) (OpG.lk (jt (r:=(if n<0 then -n else n)%4294967296) Tryz.underlying12 Tryz.underlying177 rfl (by rw[IntKind.wrap_u32];(rw[ag2 h0]))) ?_)
  refine OpG.lk (rf (q:=32) (r:=(if n<0 then -n else n)/4294967296) rfl rfl (by decide) (by rw[Int.fdiv_eq_ediv_of_nonneg _ (by decide)];show _/(4294967296:Int)=_;(rw[ag2 h0]))) (OpG.lk (jt (r:=(if n<0 then -n else n)/4294967296) Tryz.underlying12 Tryz.underlying177 rfl (by rw[IntKind.wrap_u32];split<;>omega)) ?_)
  refine OpG.nw (fx (je Tryz.underlying67 fa tt rfl rfl rfl rfl) (fun η' h=>cx (f:=ct) (l:=(ofD n)) (agy.2 rfl) h rfl rfl rfl rfl rfl (fun a _=>⟨rfl,rfl⟩))) rfl (ArgG.mk (ed ((decide (n<0))) ((ofD n)) ‹_› (by omega)) rfl ?_)
  rintro _ rfl
  refine⟨.inr rfl,_,Og.cell rfl fe rfl rfl rfl rfl rfl ⟨[],FzP.pure rfl⟩,?_⟩
  rfl
 refine OpG.lk (jt (r:=(if n<0 then -n else n)%4294967296) Tryz.underlying12 Tryz.underlying177 rfl (by rw[IntKind.wrap_u32];(rw[ag1 h0,IntKind.wrap_u64];omega))) (OpG.lk (rf (q:=32) (r:=(if n<0 then -n else n)/4294967296) rfl rfl (by decide) (by rw[Int.fdiv_eq_ediv_of_nonneg _ (by decide)];show _/(4294967296:Int)=_;(rw[ag1 h0,IntKind.wrap_u64];omega))) ?_)
 refine OpG.lk (jt (r:=(if n<0 then -n else n)/4294967296) Tryz.underlying12 Tryz.underlying177 rfl (by rw[IntKind.wrap_u32];split<;>omega)) (OpG.nw (fx (je Tryz.underlying67 fa tt rfl rfl rfl rfl) (fun η' h=>cx (f:=ct) (l:=(ofD n)) (agy.2 rfl) h rfl rfl rfl rfl rfl (fun a _=>⟨rfl,rfl⟩))) rfl ?_)
 refine ArgG.mk (ed ((decide (n<0))) ((ofD n)) ‹_› (by omega)) rfl ?_
 rintro _ rfl
 refine⟨.inr rfl,_,Og.cell rfl fe rfl rfl rfl rfl rfl ⟨[],FzP.pure rfl⟩,?_⟩
 rfl
abbrev B1(x:Int):Prop:=-4294967295<=x/\x<=4294967295
def dgN(n:Int):List Int:=if n=0 then[]else[n]
def aZ(x:Int):Int:=if x<0 then -x else x
def bgS(b:Bool)(n:Int):GBig:=if n=0 then⟨false,[]⟩else⟨b,[n]⟩
def bgI(x:Int):GBig:=bgS (decide (x<0)) (aZ x)
def sgZ(x:Int):Int:=if x=0 then 0 else if x<0 then -1 else 1
theorem ki(n:Int):dtr (dgN n)=dgN n:=by unfold dgN;split<;>simp[dtr, *]
theorem Q2(n:Int):dtr [n]=dgN n:=by unfold dgN;split<;>simp[dtr, *]
theorem Ne(n:Int):dtr [n,0]=dgN n:=by unfold dgN;split<;>simp[dtr, *]
theorem nr{b:Bool}{d:List Int}{n:Int}(h:dtr d=dgN n):nmB b d=bgS b n:=by
 unfold nmB bgS;rw[h];unfold dgN
 by_cases e:n=0
 ·rw[ag2 e,ag2 rfl,ag2 e]
 ·rw[ag1 e,ag1 (by simp),ag1 e]
theorem Xd{b:Bool}{n:Int}:(bgS b n).b_=(if n=0 then false else b):=by unfold bgS;split<;>rfl
theorem Ny{b:Bool}{n:Int}:(bgS b n).a_=dgN n:=by unfold bgS dgN;split<;>rfl
theorem mc(x:Int):0<=aZ x:=by unfold aZ;split<;>omega
theorem aZ_0{x:Int}:aZ x=0↔x=0:=by unfold aZ;split<;>omega
theorem dw(x:Int):(bgI x).b_=decide (x<0):=by
 unfold bgI;rw[Xd];split
 ·next h=>have:=aZ_0.1 h;simp[this]
 ·rfl
theorem ef(x:Int):(bgI x).a_=dgN (aZ x):=Ny
theorem s8{x:Int}(h:B1 x):aZ x<=4294967295:=by unfold aZ;split<;>omega
theorem Hf{n:Int}(h0:0<=n)(h1:n<=4294967295):Dg (dgN n):=fun x hx=>by
 unfold dgN at hx;split at hx
 ·simp at hx
 ·rw[agy.1 hx];exact⟨h0,h1⟩
theorem c8{n:Int}:(dgN n).length<=1:=by unfold dgN;split<;>simp
theorem wq{x:Int}(h:B1 x):Dg (bgI x).a_:=by rw[ef];exact Hf (mc x) (s8 h)
theorem mt{x:Int}:(bgI x).a_.length<=1:=by rw[ef];exact c8
theorem Ms(x:Int):FitBig (bgI x):=⟨jj (ahb mt (by decide))⟩
theorem At{b:Bool}{n x:Int}(h1:n=aZ x)(h2:x≠0->b=decide (x<0)):bgS b n=bgI x:=by
 unfold bgI;rw[h1]
 by_cases e:x=0
 ·have:aZ x=0:=aZ_0.2 e
  rw[this];rfl
 ·rw[h2 e]
theorem nrI(x:Int):nrB (bgI x)=bgI x:=by
 unfold nrB;rw[nr (n:=aZ x) (by rw[ef,ki]),dw];rfl
theorem ngI(x:Int):ngB (bgI x)=bgI (-x):=by
 unfold ngB;rw[nr (n:=aZ x) (by rw[ef,ki]),dw]
 refine At (by unfold aZ;split<;>split<;>omega) fun h=>?_
 rw[<-decide_not];exact decide_eq_decide.2 (by omega)
theorem sgI'(x:Int):sgB (bgI x)=sgZ x:=by
 unfold sgB sgZ;rw[ef,ki,dw]
 have e:dgN (aZ x)=[]↔x=0:=by unfold dgN;split<;>simp_all [aZ_0]
 by_cases h:x=0
 ·rw[ag2 (e.2 h),ag2 h]
 ·rw[ag1 (fun g=>h (e.1 g)),ag1 h]
  by_cases g:x<0<;>simp[g]
theorem ofI{n:Int}(h:B1 n):nmB (decide (n<0)) (ofD n)=bgI n:=by
 have e:dtr (ofD n)=dgN (aZ n):=by
  have h1:=s8 h
  have h2:=mc n
  show dtr [aZ n%4294967296,aZ n/4294967296]=_
  rw[show aZ n%4294967296=aZ n by omega,show aZ n/4294967296=0 by omega,Ne]
 rw[nr e];rfl
theorem Nk{m n:Int}(h0:0<=m)(h1:0<=n):cmD (dgN m) (dgN n)=sgZ (m-n):=by
 unfold cmD dgN sgZ
 by_cases e1:m=0<;>by_cases e2:n=0
 ·subst e1;subst e2;rfl
 ·subst e1;rw[ag2 rfl,ag1 e2,ag1 (by simp),ag1 (by omega),ag2 (by omega)];rfl
 ·subst e2;rw[ag1 e1,ag2 rfl,ag1 (by simp),ag1 (by omega),ag1 (by omega)];rfl
 ·rw[ag1 e1,ag1 e2,ag2 (by simp)]
  show cmA [m] [n] 1=_
  simp only[cmA,List.getD_cons_zero]
  by_cases g1:m<n
  ·rw[ag2 g1,ag1 (by omega),ag2 (by omega)]
  ·rw[ag1 g1]
   by_cases g2:m>n
   ·rw[ag2 g2,ag1 (by omega),ag1 (by omega)]
   ·rw[ag1 g2,ag2 (by omega)]
theorem coI(x y:Int):coB (bgI x) (bgI y)=sgZ (x-y):=by
 unfold coB;rw[nrI,nrI,dw,dw,ef,ef]
 have ax:=mc x
 have ay:=mc y
 by_cases hx:x<0<;>by_cases hy:y<0<;>simp only[hx,hy,decide_true,decide_false,if_true,Bool.false_eq_true,if_false,reduceCtorEq]
 ·rw[Nk ay ax];congr 1;unfold aZ;rw[ag2 hx,ag2 hy];omega
 ·unfold sgZ;rw[ag1 (by omega),ag2 (by omega)]
 ·unfold sgZ;rw[ag1 (by omega),ag1 (by omega)]
 ·rw[Nk ax ay];congr 1;unfold aZ;rw[ag1 hx,ag1 hy]
theorem aee{m n:Int}(h0:0<=m)(h1:0<=n)(h2:m+n<=4294967295):dtr (plD (dgN m) (dgN n))=dgN (m+n):=by
 have a1:(m+n)%4294967296=m+n:=by omega
 have a2:(m+n)/4294967296=0:=by omega
 have a3:m%4294967296=m:=by omega
 have a4:m/4294967296=0:=by omega
 have a5:n%4294967296=n:=by omega
 have a6:n/4294967296=0:=by omega
 by_cases e1:m=0<;>by_cases e2:n=0
 ·subst e1;subst e2;decide
 ·subst e1
  have:plD (dgN 0) (dgN n)=[n,0]:=by simp[plD,plN,dgN,e2,a5,a6]
  rw[this,Ne,Int.zero_add]
 ·subst e2
  have:plD (dgN m) (dgN 0)=[m,0]:=by simp[plD,plN,dgN,e1,a3,a4]
  rw[this,Ne,Int.add_zero]
 ·have:plD (dgN m) (dgN n)=[m+n,0]:=by simp[plD,plN,dgN,e1,e2,a1,a2]
  rw[this,Ne]
theorem aad{m n:Int}(h1:0<=n)(h0:n<=m)(h2:m<=4294967295):dtr (miD (dgN m) (dgN n))=dgN (m-n):=by
 have a1:(m-n)%4294967296=m-n:=by omega
 have a3:m%4294967296=m:=by omega
 by_cases e1:m=0
 ·have e2:n=0:=by omega
  subst e1;subst e2;decide
 ·by_cases e2:n=0
  ·subst e2
   have:miD (dgN m) (dgN 0)=[m]:=by simp[miD,miN,dgN,e1,a3]
   rw[this,Q2,Int.sub_zero]
  ·have:miD (dgN m) (dgN n)=[m-n]:=by simp[miD,miN,dgN,e1,e2,a1]
   rw[this,Q2]
theorem ti_N{m n:Int}(h0:0<=m)(h1:0<=n)(h2:m*n<=4294967295):dtr (tiD (dgN m) (dgN n))=dgN (m*n):=by
 have h3:0<=m*n:=Int.mul_nonneg h0 h1
 have a1:(m*n)%4294967296=m*n:=by omega
 have a2:(m*n)/4294967296=0:=by omega
 by_cases e1:m=0<;>by_cases e2:n=0
 ·subst e1;subst e2;decide
 ·subst e1
  have:tiD (dgN 0) (dgN n)=[0]:=by simp[tiD,ouR,inR,dgN,e2]
  rw[this,Int.zero_mul];decide
 ·subst e2
  have:tiD (dgN m) (dgN 0)=[0]:=by simp[tiD,ouR,inR,dgN,e1]
  rw[this,Int.mul_zero];decide
 ·have:tiD (dgN m) (dgN n)=[m*n,0]:=by simp[tiD,ouR,inR,dgN,e1,e2,a1,a2]
  rw[this,Ne]
theorem adI{x y:Int}(hx:B1 x)(hy:B1 y)(h:B1 (x+y)):adB (bgI x) (bgI y)=bgI (x+y):=by
 unfold adB;rw[nrI,nrI,dw,dw,ef,ef]
 have ax:=mc x
 have ay:=mc y
 by_cases gx:x<0<;>by_cases gy:y<0<;>simp only[gx,gy,decide_true,decide_false,if_true,Bool.false_eq_true,if_false,reduceCtorEq]
 ·rw[nr (aee ax ay (by unfold aZ;rw[ag2 gx,ag2 gy];omega))]
  exact At (by unfold aZ;rw[ag2 gx,ag2 gy,ag2 (by omega)];omega) fun _=>by simp;omega
 ·rw[Nk ax ay]
  have e1:aZ x=-x:=by unfold aZ;rw[ag2 gx]
  have e2:aZ y=y:=by unfold aZ;rw[ag1 gy]
  rw[e1,e2]
  by_cases g:-x<y
  ·rw[ag2 (by unfold sgZ;rw[ag1 (by omega),ag2 (by omega)];decide),nr (aad (by omega) (by omega) (by omega))]
   exact At (by unfold aZ;rw[ag1 (by omega)];omega) fun _=>by simp;omega
  ·rw[ag1 (by unfold sgZ;split<;>(try split)<;>omega),nr (aad (by omega) (by omega) (by omega))]
   exact At (by unfold aZ;split<;>omega) fun _=>by simp;omega
 ·rw[Nk ax ay]
  have e1:aZ x=x:=by unfold aZ;rw[ag1 gx]
  have e2:aZ y=-y:=by unfold aZ;rw[ag2 gy]
  rw[e1,e2]
  by_cases g:x< -y
  ·rw[ag2 (by unfold sgZ;rw[ag1 (by omega),ag2 (by omega)];decide),nr (aad (by omega) (by omega) (by omega))]
   exact At (by unfold aZ;rw[ag2 (by omega)];omega) fun _=>by simp;omega
  ·rw[ag1 (by unfold sgZ;split<;>(try split)<;>omega),nr (aad (by omega) (by omega) (by omega))]
   exact At (by unfold aZ;split<;>omega) fun _=>by simp;omega
 ·rw[nr (aee ax ay (by unfold aZ;rw[ag1 gx,ag1 gy];omega))]
  exact At (by unfold aZ;rw[ag1 gx,ag1 gy,ag1 (by omega)]) fun _=>by simp;omega
theorem T4(x y:Int):aZ x*aZ y=aZ (x*y):=by
 have e:∀z:Int,aZ z=(z.natAbs:Int):=fun z=>by unfold aZ;split<;>omega
 rw[e,e,e,Int.natAbs_mul];simp
theorem muI{x y:Int}(h:B1 (x*y)):muB (bgI x) (bgI y)=bgI (x*y):=by
 unfold muB;rw[dw,dw,ef,ef,nr (ti_N (mc x) (mc y) (by rw[T4];exact s8 h))]
 refine At (T4 x y) fun h0=>?_
 have hx:x≠0:=fun e=>h0 (by rw[e,Int.zero_mul])
 have hy:y≠0:=fun e=>h0 (by rw[e,Int.mul_zero])
 by_cases gx:x<0<;>by_cases gy:y<0
 ·have:0<x*y:=Int.mul_pos_of_neg_of_neg gx gy
  simp[gx,gy];omega
 ·have:x*y<0:=Int.mul_neg_of_neg_of_pos gx (by omega)
  simp[gx,gy,this]
 ·have:x*y<0:=Int.mul_neg_of_pos_of_neg (by omega) gy
  simp[gx,gy,this]
 ·have:0<x*y:=Int.mul_pos (by omega) (by omega)
  simp[gx,gy];omega
theorem nq{n:Int}(h:B1 n):PRet Tryz.prog 95 [.v (.int .i64 n)] (fun q=>q=.agg (bgA (bgI n))):=by
 have:=of_p n (by omega) (by omega)
 rwa [ofI h]at this
section
variable{x y:Int}
theorem X7{x:Int}:(bgI x).a_.length<=400:=ahb mt (by decide)
theorem v7(h:B1 x):PRet Tryz.prog 51 [.agg (bgA (bgI x))] (fun q=>q=.agg (bgA (bgI x))):=by
 have:=v6 (bgI x) (Ms x) (ahb mt (by decide))
 rwa [show nmB (bgI x).b_ (bgI x).a_=bgI x from nrI x]at this
theorem v8(h:B1 x):PRet Tryz.prog 105 [.agg (bgA (bgI x))] (fun q=>q=.agg (bgA (bgI (-x)))):=by
 have:=aew (bgI x) (Ms x) (ahb mt (by decide))
 rwa [show nmB (!(bgI x).b_) (bgI x).a_=bgI (-x)from ngI x]at this
theorem lh(h:B1 x):PRet Tryz.prog 121 [.agg (bgA (bgI x))] (fun q=>q=.v (.int .i64 (sgZ x))):=by
 have:=adv (bgI x) (Ms x) (ahb mt (by decide))
 rwa [sgI']at this
theorem l9(hx:B1 x)(hy:B1 y):PRet Tryz.prog 53 [.agg (bgA (bgI x)),.agg (bgA (bgI y))] (fun q=>q=.v (.int .i64 (sgZ (x-y)))):=by
 have:=af3 (bgI x) (Ms x) (bgI y) (Ms y) (wq hx) (wq hy) X7 X7
 rwa [coI]at this
theorem ww(hx:B1 x)(hy:B1 y)(h:B1 (x+y)):PRet Tryz.prog 122 [.agg (bgA (bgI x)),.agg (bgA (bgI y))] (fun q=>q=.agg (bgA (bgI (x+y)))):=by
 have:=agp (bgI x) (Ms x) (bgI y) (Ms y) (wq hx) (wq hy) X7 X7
 rwa [adI hx hy h]at this
theorem wa(hx:B1 x)(hy:B1 y)(h:B1 (x*y)):PRet Tryz.prog 143 [.agg (bgA (bgI x)),.agg (bgA (bgI y))] (fun q=>q=.agg (bgA (bgI (x*y)))):=by
 have:=aez (bgI x) (Ms x) (bgI y) (Ms y) (wq hx) (wq hy) X7 X7
 rwa [muI h]at this
end
theorem qd{n:Int}(h:1<=n):dgN n=[n]:=by unfold dgN;rw[ag1 (by omega)]
theorem cm_1{m n:Int}(h0:0<=m)(h1:1<=n):cmD (dgN m) [n]=sgZ (m-n):=by rw[<-qd h1];exact Nk h0 (by omega)
theorem Sl{x:Int}:sgZ x<0↔x<0:=by unfold sgZ;split<;>(try split)<;>omega
theorem sh_1{m n:Int}(h1:1<=n)(h2:n<=m)(h3:m<=4294967295):shN n (dgN m) (dgN m).length=([m/n],m%n):=by
 rw[qd (by omega)]
 have e:m/n%4294967296=m/n:=by
  have a:=Int.ediv_nonneg (show 0<=m by omega) (show 0<=n by omega)
  have b:=Int.ediv_le_self n (show 0<=m by omega)
  omega
 simp[shN,e]
def flD(x y:Int):Int:=if(decide (x<0) !=decide (y<0))then(if aZ x%aZ y=0 then -(aZ x/aZ y)else -(aZ x/aZ y+1))else aZ x/aZ y
def flM(x y:Int):Int:=if(decide (x<0) !=decide (y<0))then(if aZ x%aZ y=0 then 0 else if y<0 then -(aZ y-aZ x%aZ y)else aZ y-aZ x%aZ y)else(if y<0 then -(aZ x%aZ y)else aZ x%aZ y)
theorem Mr{x y:Int}(h:0<y):flD x y=x/y/\flM x y=x%y:=by
 have hy:aZ y=y:=by unfold aZ;rw[ag1 (by omega)]
 unfold flD flM
 rw[hy]
 have gy:¬y<0:=by omega
 by_cases gx:x<0
 ·have hx:aZ x=-x:=by unfold aZ;rw[ag2 gx]
  rw[hx]
  have e1:=Int.mul_ediv_add_emod (-x) y
  have e2:=Int.emod_nonneg (-x) (show y≠0 by omega)
  have e3:=Int.emod_lt_of_pos (-x) h
  simp only[gx,gy,decide_true,decide_false,bne_self_eq_false,Bool.true_bne,Bool.not_false,if_true,if_false]
  by_cases r:-x%y=0
  ·rw[ag2 r,ag2 r]
   have:x=y*(-(-x/y))+0:=by rw[Int.mul_neg];omega
   exact⟨((Int.ediv_emod_unique h).2 ⟨by rw[Int.add_comm]at this;exact this.symm,by omega,h⟩).1.symm,((Int.ediv_emod_unique h).2 ⟨by rw[Int.add_comm]at this;exact this.symm,by omega,h⟩).2.symm⟩
  rw[ag1 r,ag1 r]
  have:y- -x%y+y*(-(-x/y+1))=x:=by rw[Int.mul_neg,Int.mul_add,Int.mul_one];omega
  exact⟨((Int.ediv_emod_unique h).2 ⟨this,by omega,by omega⟩).1.symm,((Int.ediv_emod_unique h).2 ⟨this,by omega,by omega⟩).2.symm⟩
 have hx:aZ x=x:=by unfold aZ;rw[ag1 gx]
 rw[hx];simp[gx,gy]
theorem T7.cellN{P:Program}{N:Nat}{s:St}{ret:AV}(fn:Func){t ty n id ver:Nat}{b:Blk}(ht:c9 P ty=some (some n))(hx:s.τ t=.ptr id ver 0)(hb:s.η id=some b)(hv:b.ver=ver)(hn:b.nilp=false)(hl:b.cs.length=n)
 (h:∃fp,FzP fp s.η (.agg b.cs) ret):T7 P N s (.cell t ty) ret:=
 Cw (fn:={fn with results:=#[.cell t ty]}) rfl (Og.cell rfl ht hx hb hv hn hl h)
section
variable{x y:Int}
theorem Vn{b:Bool}{d:List Int}{n z:Int}(h:dtr d=dgN n)(h1:n=aZ z)(h2:z≠0->b=decide (z<0)):nmB b d=bgI z:=by rw[nr h];exact At h1 h2
theorem Oa(x:Int):aZ x=(x.natAbs:Int):=by unfold aZ;split<;>omega
theorem Wh{n m:Int}(hn:0<=n)(hm:0<=m):Int.gcd n (m%n)=Int.gcd n m:=by
 obtain⟨a,rfl⟩:=Int.eq_ofNat_of_zero_le hn
 obtain⟨b,rfl⟩:=Int.eq_ofNat_of_zero_le hm
 rw[<-Int.natCast_emod,Int.gcd_natCast_natCast,Int.gcd_natCast_natCast,Nat.gcd_comm a (b%a)]
 exact(Nat.gcd_rec a b).symm
theorem abk{n:Int}(h:0<=n)(hq:(((dgN n).length:Nat):Int)>0):1<=n:=by
 have:n≠0:=fun e=>by rw[e]at hq;exact absurd hq (by decide)
 omega
theorem abj{n:Int}(hq:¬(((dgN n).length:Nat):Int)>0):n=0:=by
 by_cases e:n=0
 ·exact e
 exact absurd (show(((dgN n).length:Nat):Int)>0 by unfold dgN;rw[ag1 e];show((1:Nat):Int)>0;decide) hq
structure KG where
 k:Nat
 m:Int
 n:Int
theorem flq1(hx:B1 x)(hy1:1<=aZ y)(h:((bgI x).b_ !=(bgI y).b_)=true)(hr:(((dgN (aZ x%aZ y)).length:Nat):Int)>0):nmB true (plD (dgN (aZ x/aZ y)) [1])=bgI (flD x y):=by
 rw[dw,dw]at h
 have r0:aZ x%aZ y≠0:=fun e=>by rw[e]at hr;exact absurd hr (by decide)
 have h0:=mc x
 have hlx:=s8 hx
 have q0:=Int.ediv_nonneg h0 (show 0<=aZ y by omega)
 have e1:=Int.mul_ediv_add_emod (aZ x) (aZ y)
 have e2:=Int.emod_nonneg (aZ x) (show aZ y≠0 by omega)
 have h1:2<=aZ y:=by
  rcases Int.lt_or_le 1 (aZ y)with g|g
  ·omega
  ·have e:aZ y=1:=by omega
   rw[e]at r0;exact absurd (Int.emod_one _) r0
 have e3:2*(aZ x/aZ y)<=aZ y*(aZ x/aZ y):=Int.mul_le_mul_of_nonneg_right h1 q0
 have hf:flD x y=-(aZ x/aZ y+1):=by unfold flD;rw[ag2 h,ag1 r0]
 rw[hf]
 refine Vn (n:=aZ x/aZ y+1) (by rw[show([1]:List Int)=dgN 1 from rfl,aee q0 (by decide) (by omega)]) ?_ fun _=>?_
 ·generalize aZ x/aZ y=Q at q0 ⊢
  unfold aZ;rw[ag2 (by omega)];omega
 simp;omega
theorem flr1(hy:B1 y)(hy1:1<=aZ y)(h:((bgI x).b_ !=(bgI y).b_)=true)(hr:(((dgN (aZ x%aZ y)).length:Nat):Int)>0):nmB (bgI y).b_ (miD (bgI y).a_ (dgN (aZ x%aZ y)))=bgI (flM x y):=by
 rw[dw,dw]at h
 have r0:aZ x%aZ y≠0:=fun e=>by rw[e]at hr;exact absurd hr (by decide)
 have e2:=Int.emod_nonneg (aZ x) (show aZ y≠0 by omega)
 have e3:=Int.emod_lt_of_pos (aZ x) (show 0<aZ y by omega)
 have hly:=s8 hy
 have hf:flM x y=if y<0 then -(aZ y-aZ x%aZ y)else aZ y-aZ x%aZ y:=by unfold flM;rw[ag2 h,ag1 r0]
 rw[hf,dw,ef]
 generalize aZ x%aZ y=R at*
 refine Vn (aad e2 (by omega) (by omega)) ?_ fun _=>?_
 ·split
  ·generalize aZ y=Y at *;unfold aZ;rw[ag2 (by omega)];omega
  generalize aZ y=Y at *;unfold aZ;rw[ag1 (by omega)]
 split<;>simp<;>omega
theorem flq2(hy1:1<=aZ y)(h:((bgI x).b_ !=(bgI y).b_)=true)(hr:¬(((dgN (aZ x%aZ y)).length:Nat):Int)>0):nmB true (dgN (aZ x/aZ y))=bgI (flD x y)/\nmB (bgI y).b_ (dgN (aZ x%aZ y))=bgI (flM x y):=by
 rw[dw,dw]at h
 have r0:aZ x%aZ y=0:=by
  by_cases e:aZ x%aZ y=0
  ·exact e
  ·exact absurd (show(((dgN (aZ x%aZ y)).length:Nat):Int)>0 by unfold dgN;rw[ag1 e];show((1:Nat):Int)>0;decide) hr
 have q0:=Int.ediv_nonneg (mc x) (show 0<=aZ y by omega)
 have hf:flD x y=-(aZ x/aZ y):=by unfold flD;rw[ag2 h,ag2 r0]
 have hm:flM x y=0:=by unfold flM;rw[ag2 h,ag2 r0]
 rw[hf,hm,r0]
 generalize aZ x/aZ y=Q at*
 exact⟨Vn (ki _) (by unfold aZ;split<;>omega) (fun g=>by simp;omega),Vn (ki _) rfl fun g=>absurd rfl g⟩
theorem flq3(hy1:1<=aZ y)(h:((bgI x).b_ !=(bgI y).b_)=false):nmB false (dgN (aZ x/aZ y))=bgI (flD x y)/\nmB (bgI y).b_ (dgN (aZ x%aZ y))=bgI (flM x y):=by
 rw[dw,dw]at h
 have e2:=Int.emod_nonneg (aZ x) (show aZ y≠0 by omega)
 have q0:=Int.ediv_nonneg (mc x) (show 0<=aZ y by omega)
 have hf:flD x y=aZ x/aZ y:=by unfold flD;rw[ag1 (by rw[h];simp)]
 have hm:flM x y=if y<0 then -(aZ x%aZ y)else aZ x%aZ y:=by unfold flM;rw[ag1 (by rw[h];simp)]
 rw[hf,hm,dw]
 generalize aZ x/aZ y=Q at*
 generalize aZ x%aZ y=R at*
 refine⟨Vn (ki _) (by unfold aZ;split<;>omega) (fun g=>by simp;omega),Vn (ki R) ?_ fun g=>?_⟩
 ·split
  ·unfold aZ;split<;>omega
  unfold aZ;split<;>omega
 split at g<;>split<;>simp<;>omega
end
theorem Hd{m n:Int}(h1:0<=m)(h3:m<=4294967295)(h2:1<=n)(h5:n<=4294967295):PRet Tryz.prog 181 [.tree 1 (((dgN m)).map ct),.tree 1 (([n]).map ct)] (fun q=>q=.tup [.tree 1 ((dgN (m/n)).map ct),.tree 1 ((dgN (m%n)).map ct)]):=by
 refine ovT [41] [] Tryz.func181 rfl rfl (ArgG.mk (l8 (dgN m) (jj (ahb c8 (by decide))) [n] (jj (show 1<=5000 by decide)) (ahb c8 (by decide))) rfl ?_)
 rintro _ rfl
 refine cD (fun h0=>?_) (fun h0=>?_)
 ·have h4:m<n:=by rw[cm_1 h1 h2,Sl]at h0;omega
  refine ArgG.mk (xw ((dgN m)) (jj (by exact ahb c8 (by decide))) (by exact ahb c8 (by decide))) rfl ?_
  rintro _ rfl
  refine⟨.inr rfl,_,Og.two rfl (T7.tmp ⟨[],FzP.nil (n:=1)⟩) (T7.tmp ⟨[],FzP.pure rfl⟩),?_⟩
  rw[Int.ediv_eq_zero_of_lt h1 h4,Int.emod_eq_of_lt h1 h4,ki];rfl
 have h6:n<=m:=by rw[cm_1 h1 h2,Sl]at h0;omega
 refine LenG.of (cT ?_)
 refine IdxG.of (j:=0) (by exact Nat.zero_lt_one) (ArgG.mk (Kk (dgN m) (jj (ahb c8 (by decide))) n ⟨h2,h5⟩ (Hf h1 h3) (ahb c8 (by decide))) rfl ?_)
 rintro _ rfl
 refine ArgG.mk (xw ((shN n (dgN m) (dgN m).length).1) (jj (by(rw[vf];exact ahb c8 (by decide)))) (by(rw[vf];exact ahb c8 (by decide)))) rfl ?_
 rintro _ rfl
 refine OpG.nw (fx (je Tryz.underlying67 fa tt rfl rfl rfl rfl) (fun η' h=>cx (f:=ct) (l:=[(shN n (dgN m) (dgN m).length).2]) (agy.2 rfl) h rfl rfl rfl rfl rfl (fun a _=>⟨rfl,rfl⟩))) rfl (ArgG.mk (xw ([(shN n (dgN m) (dgN m).length).2]) (jj (by(show 1<=_;decide))) (by(show 1<=_;decide))) rfl ?_)
 rintro _ rfl
 refine⟨.inr rfl,_,Og.two rfl (T7.tmp ⟨[],FzP.pure rfl⟩) (T7.tmp ⟨[],FzP.pure rfl⟩),?_⟩
 rw[sh_1 h2 h6 h3,Q2,Q2];rfl
theorem J7{x y:Int}(hx:B1 x)(hy:B1 y)(h:B1 (x-y)):PRet Tryz.prog 134 [.agg (bgA (bgI x)),.agg (bgA (bgI y))] (fun q=>q=.agg (bgA (bgI (x-y)))):=by
 refine ovT [] [] Tryz.func134 rfl rfl (ArgG.mk (v8 (x:=y) (by constructor<;>omega)) rfl ?_)
 rintro _ rfl
 refine ArgG.mk (ww (x:=x) (y:=(-y)) (by constructor<;>omega) (by constructor<;>omega) (by constructor<;>omega)) rfl ?_
 rintro _ rfl
 refine⟨by kernel_rfl,⟨.inr rfl,_,Og.cell rfl fe rfl rfl rfl rfl rfl ⟨[],FzP.pure rfl⟩,?_⟩⟩
 rw[show x+-y=x-y by omega]
theorem divI{x y:Int}(hx:B1 x)(hy:B1 y)(h1:y≠0):PRet Tryz.prog 181 [.tree 1 (((bgI x).a_).map ct),.tree 1 (((bgI y).a_).map ct)] (fun q=>q=.tup [.tree 1 ((dgN (aZ x/aZ y)).map ct),.tree 1 ((dgN (aZ x%aZ y)).map ct)]):=by
 have hay:=mc y
 have h0:1<=aZ y:=by have:aZ y≠0:=fun e=>h1 (aZ_0.1 e);omega
 rw[ef,ef,qd h0]
 exact Hd (mc x) (s8 hx) h0 (s8 hy)
theorem pm{x y:Int}(hx:B1 x)(hy:B1 y)(h4:y≠0):PRet Tryz.prog 153 [.agg (bgA (bgI x)),.agg (bgA (bgI y))] (fun q=>q=.tup [.agg (bgA (bgI (flD x y))),.agg (bgA (bgI (flM x y))),.v (.bool true)]):=by
 have h5:=mc x
 have h6:=mc y
 have h7:=s8 hx
 have hly:=s8 hy
 have h2:1<=aZ y:=by have:aZ y≠0:=fun e=>h4 (aZ_0.1 e);omega
 have hq:0<=aZ x/aZ y/\aZ x/aZ y<=4294967295:=⟨Int.ediv_nonneg h5 h6,Int.le_trans (Int.ediv_le_self _ h5) h7⟩
 have hr:0<=aZ x%aZ y/\aZ x%aZ y<=4294967295:=⟨Int.emod_nonneg _ (by omega),by have:=Int.emod_lt_of_pos (aZ x) (show 0<aZ y by omega);omega⟩
 refine ovT [36] [] Tryz.func153 rfl rfl (ArgG.mk (v7 (x:=x) (by constructor<;>omega)) rfl ?_)
 rintro _ rfl
 refine ArgG.mk (v7 (x:=y) (by constructor<;>omega)) rfl ?_
 rintro _ rfl
 refine⟨by kernel_rfl,LenG.of ?_⟩
 refine cB (fun h3=>?_) (fun h3=>?_)
 ·exact absurd h3 (by rw[ef,qd h2];exact ahr)
 have hq16:¬(((((bgI y).a_).length:Nat):Int)=(0:Int)):=by simpa using h3
 refine ArgG.mk ((show PRet Tryz.prog 181 [.tree 1 (((bgI x).a_).map ct),.tree 1 (((bgI y).a_).map ct)] _ from divI hx hy h4)) rfl ?_
 rintro _ rfl
 refine cB (fun h0=>?_) (fun h0=>?_)
 ·refine LenG.of (cD (fun h1=>?_) (fun h1=>?_))
  ·refine OpG.nw (fx (je Tryz.underlying67 fa tt rfl rfl rfl rfl) (fun η' h=>cx (f:=ct) (l:=([1]:List Int)) (agy.2 rfl) h rfl rfl rfl rfl rfl (fun a _=>⟨rfl,rfl⟩))) rfl (ArgG.mk (Sw (dgN (aZ x/aZ y)) (jj (ahb c8 (by decide))) [1] (jj (show 1<=5000 by decide)) (Hf hq.1 hq.2) (fun z hz=>by rw[agy.1 hz];exact⟨by decide,by decide⟩) (ahb c8 (by decide)) (show 1<=1000 by decide)) rfl ?_)
   rintro _ rfl
   refine ArgG.mk (Ef (bgI y).a_ (Ms y).a_ (dgN (aZ x%aZ y)) (jj (ahb c8 (by decide))) (wq hy) (Hf hr.1 hr.2) (ahb mt (by decide)) (ahb c8 (by decide))) rfl ?_
   rintro _ rfl
   refine ArgG.mk (ed true ((plD (dgN (aZ x/aZ y)) [1])) (jj (by(rw[k9];have:=@c8 (aZ x/aZ y);show max _ 1+1<=_;omega))) (by(rw[k9];have:=@c8 (aZ x/aZ y);show max _ 1+1<=_;omega))) rfl ?_
   rintro _ rfl
   refine ArgG.mk (ed ((bgI y).b_) ((miD (bgI y).a_ (dgN (aZ x%aZ y)))) (jj (by(rw[la];exact ahb mt (by decide)))) (by(rw[la];exact ahb mt (by decide)))) rfl ?_
   rintro _ rfl
   refine⟨by kernel_rfl,⟨.inr rfl,_,kc rfl (T7.cellN Tryz.f153 fe rfl rfl rfl rfl rfl ⟨[],FzP.pure rfl⟩) (T7.cellN Tryz.f153 fe rfl rfl rfl rfl rfl ⟨[],FzP.pure rfl⟩) (T7.tmp ⟨[],FzP.pure rfl⟩),?_⟩⟩
   rw[flq1 hx h2 h0 h1,flr1 hy h2 h0 h1];rfl
  refine ArgG.mk (ed true ((dgN (aZ x/aZ y))) (jj (by exact ahb c8 (by decide))) (by exact ahb c8 (by decide))) rfl ?_
  rintro _ rfl
  refine ArgG.mk (ed ((bgI y).b_) ((dgN (aZ x%aZ y))) (jj (by exact ahb c8 (by decide))) (by exact ahb c8 (by decide))) rfl ?_
  rintro _ rfl
  refine⟨by kernel_rfl,⟨.inr rfl,_,kc rfl (T7.cellN Tryz.f153 fe rfl rfl rfl rfl rfl ⟨[],FzP.pure rfl⟩) (T7.cellN Tryz.f153 fe rfl rfl rfl rfl rfl ⟨[],FzP.pure rfl⟩) (T7.tmp ⟨[],FzP.pure rfl⟩),?_⟩⟩
  rw[(flq2 h2 h0 h1).1,(flq2 h2 h0 h1).2];rfl
 refine ArgG.mk (ed false ((dgN (aZ x/aZ y))) (jj (by exact ahb c8 (by decide))) (by exact ahb c8 (by decide))) rfl ?_
 rintro _ rfl
 refine ArgG.mk (ed ((bgI y).b_) ((dgN (aZ x%aZ y))) (jj (by exact ahb c8 (by decide))) (by exact ahb c8 (by decide))) rfl ?_
 rintro _ rfl
 refine⟨by kernel_rfl,⟨.inr rfl,_,kc rfl (T7.cellN Tryz.f153 fe rfl rfl rfl rfl rfl ⟨[],FzP.pure rfl⟩) (T7.cellN Tryz.f153 fe rfl rfl rfl rfl rfl ⟨[],FzP.pure rfl⟩) (T7.tmp ⟨[],FzP.pure rfl⟩),?_⟩⟩
 rw[(flq3 h2 h0).1,(flq3 h2 h0).2];rfl
theorem Yo(x:Int):PRet Tryz.prog 107 [.tree 1 (((bgI x).a_).map ct)] (fun q=>q=.tree 1 ((dgN (aZ x)).map ct)):=by
 have:=xw (bgI x).a_ (Ms x).a_ (ahb mt (by decide))
 rw[ef]at this ⊢;rwa [ki]at this
theorem divN{m n:Int}(h1:0<=m)(h2:m<=4294967295)(h0:1<=n)(h3:n<=4294967295):PRet Tryz.prog 181 [.tree 1 ((dgN m).map ct),.tree 1 ((dgN n).map ct)] (fun q=>q=.tup [.tree 1 ((dgN (m/n)).map ct),.tree 1 ((dgN (m%n)).map ct)]):=by
 rw[qd h0];exact Hd h1 h2 h0 h3
theorem aaz{x y:Int}(hx:B1 x)(hy:B1 y):PRet Tryz.prog 180 [.agg (bgA (bgI x)),.agg (bgA (bgI y))] (fun q=>q=.agg (bgA (bgI ((Int.gcd x y:Nat):Int)))):=by
 have h9:=s8 hx
 have ha:=s8 hy
 refine ovT [] [] Tryz.func180 rfl rfl (ArgG.mk (Yo x) rfl ?_)
 rintro _ rfl
 refine ArgG.mk (Yo y) rfl ?_
 rintro _ rfl
 refine⟨by kernel_rfl,LpG.on (fun k0:KG=>(⟨fL [(4,.ptr 2 0 0),(5,.tree 1 (((dgN k0.m)).map ct)),(6,.tree 1 (((dgN k0.n)).map ct))],hLz [(2,⟨0,[.v (.bool false),.v (.slice none 0 0)],0,false⟩)],3⟩:St)) (fun k0=>(((aZ y).toNat+1)-k0.k)) (fun k0=>(k0.k<=((aZ y).toNat+1)/\((0<=k0.m/\k0.m<=4294967295)/\(0<=k0.n/\k0.n<=4294967295)/\k0.n.toNat+k0.k<=(aZ y).toNat/\Int.gcd k0.m k0.n=Int.gcd x y))) (⟨0,aZ x,aZ y⟩:KG) (cO (.cons rfl rfl (.cons rfl rfl (.cons rfl rfl .nil))) (.cons rfl rfl rfl .nil)) ⟨ag6 _,⟨⟨mc x,h9⟩,⟨mc y,ha⟩,ag8 _,by show Int.gcd (aZ x) (aZ y)=_;rw[Oa,Oa];simp[Int.gcd]⟩⟩ ?_⟩
 rintro k0 h4
 obtain⟨hle_k0,h0⟩:=h4
 refine LenG.of (cD (fun h1=>?_) (fun h1=>?_))
 ·obtain⟨⟨h5,h8⟩,⟨h2,h6⟩,hb,h3⟩:=h0
  have h7:=abk h2 h1
  refine ArgG.mk (divN h5 h8 h7 h6) rfl ?_
  rintro _ rfl
  refine⟨(⟨k0.k+1,k0.n,k0.m%k0.n⟩:KG),(by show((aZ y).toNat+1)-(k0.k+1)<((aZ y).toNat+1)-k0.k;omega),(cO (.cons rfl rfl (.cons rfl rfl (.cons rfl rfl .nil))) (.cons rfl rfl rfl .nil)),⟨by show k0.k+1<=_;omega,?_⟩⟩
  have e0:=Int.emod_nonneg k0.m (show k0.n≠0 by omega)
  have e1:=Int.emod_lt_of_pos k0.m (show 0<k0.n by omega)
  refine⟨⟨by show 0<=k0.n;omega,h6⟩,⟨e0,by show k0.m%k0.n<=_;omega⟩,by show(k0.m%k0.n).toNat+(k0.k+1)<=_;omega,?_⟩
  show Int.gcd k0.n (k0.m%k0.n)=_
  rw[<-h3,Int.gcd_comm k0.m k0.n];exact Wh h2 h5
 obtain⟨⟨h5,h8⟩,⟨h2,h6⟩,hb,h3⟩:=h0
 have h7:=abj h1
 refine ArgG.mk (ed false (dgN k0.m) (jj (ahb c8 (by decide))) (ahb c8 (by decide))) rfl ?_
 rintro _ rfl
 refine⟨.inr rfl,_,Og.cell rfl fe rfl rfl rfl rfl rfl ⟨[],FzP.pure rfl⟩,?_⟩
 rw[h7]at h3
 have e:k0.m=((Int.gcd x y:Nat):Int):=by rw[<-h3];simp;omega
 rw[Vn (z:=k0.m) (ki k0.m) (by unfold aZ;split<;>omega) (fun _=>by simp;omega),e]
end Go.Proofs.YtmbmbhkemgmhfaaGreatDoor
