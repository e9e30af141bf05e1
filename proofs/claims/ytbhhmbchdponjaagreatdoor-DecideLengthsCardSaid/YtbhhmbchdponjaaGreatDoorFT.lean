/- Texts of the claim. -/
import Derived.Test.YtbhhmbchdponjaaGreatDoorF1
import Derived.Test.YtbhhmbchdponjaaGreatDoorQ2
import Derived.Test.YtbhhmbchdponjaaGreatDoorInf
import Derived.Test.YtbhhmbchdponjaaGreatDoorE3
namespace Go.Proofs.YtbhhmbchdponjaaGreatDoor
set_option maxRecDepth 1000000
set_option maxHeartbeats 0
set_option linter.unusedVariables false
set_option linter.unusedSimpArgs false
open Go.RowKit
structure KS where
 k:Nat
 s:ByteArray
structure Aut(t:GTst) where
 S:ByteArray->Prop
 n:ByteArray->Int->ByteArray
 f:ByteArray->Bool
 s0:ByteArray
 ok:Prop
 i0:ok->S s0
 h0:ok->PRet Tryz.prog 160 [.agg (tsA t)] (fun q=>q=.v (.string s0))
 hn:ok->∀s,S s->∀c:UInt8,32<=c->c<=126->PRet Tryz.prog 161 [.agg (tsA t),.v (.string s),.v (.int .u8 (Int.ofNat c.toNat))] (fun q=>q=.v (.string (n s (Int.ofNat c.toNat)))/\S (n s (Int.ofNat c.toNat)))
 hf:ok->∀s,S s->PRet Tryz.prog 162 [.agg (tsA t),.v (.string s)] (fun q=>q=.v (.bool (f s)))
def Aut.run{t:GTst}(A:Aut t)(l:List UInt8):ByteArray:=l.foldl (fun s c=>A.n s (Int.ofNat c.toNat)) A.s0
theorem Mz{s:ByteArray}{k:Nat}(h:k<s.size):bAt s k=s.data.toList[k]'(by simpa using h):=by
 unfold bAt
 simp[h]
theorem My{s:ByteArray}{k:Nat}(h:k<s.size):bAt s k∈s.data.toList:=by rw[Mz h];exact ags _
theorem I4{t:GTst}{A:Aut t}{s z:ByteArray}{k:Nat}(h:k<s.size)(hz:z=A.run (s.data.toList.take k)):A.n z (Int.ofNat (bAt s k).toNat)=A.run (s.data.toList.take (k+1)):=by
 rw[Mz h,ag4 (by simpa using h),hz]
 unfold Aut.run
 rw[List.foldl_append];rfl
def Aut.none(t:GTst):Aut t:=⟨fun _=>False,fun s _=>s,fun _=>false,⟨#[]⟩,False,fun h=>h.elim,fun h=>h.elim,fun h=>h.elim,fun h=>h.elim⟩
def PrB(s:ByteArray):Prop:=∀c∈s.data.toList,32<=c/\c<=126
theorem Ia(t:GTst)(ht:FitTst t)(s:ByteArray)(hs:aci s)(M:Aut t)(hd:M.ok)(hp:PrB s):PRet Tryz.prog 121 [.agg (tsA t),.v (.string s)] (fun q=>q=.v (.bool (M.f (M.run s.data.toList)))):=by
 refine ovT [] [] Tryz.func121 rfl rfl (ArgG.mk (M.h0 hd) rfl ?_)
 rintro _ rfl
 refine LpG.on (fun k0:KS=>(⟨fL [(1,.v (.string s)),(2,.ptr 0 0 0),(5,.v (.string k0.s)),(6,.v (.int .i64 ((k0.k:Nat):Int)))],hLz [(0,⟨0,tsA t,0,false⟩)],1⟩:St)) (fun k0=>(s.size-k0.k)) (fun k0=>(k0.k<=s.size/\(k0.s=M.run (s.data.toList.take k0.k)/\M.S k0.s))) (⟨0,M.s0⟩:KS) (cO (.cons rfl rfl (.cons rfl rfl (.cons rfl rfl (.cons rfl rfl .nil)))) (.cons rfl rfl rfl .nil)) ⟨ag5 _,⟨by simp[Aut.run],M.i0 hd⟩⟩ ?_
 rintro k0 he
 have hgr_k0:s.size<=140737488355328:=aha hs (by decide)
 obtain⟨hle_k0,ha⟩:=he
 refine cL (fun hb=>?_) (fun hc=>?_)
 ·refine⟨‹_›,ArgG.mk (M.hn hd k0.s ha.2 _ (hp _ (My hb)).1 (hp _ (My hb)).2) rfl ?_⟩
  rintro _ ⟨rfl,hg⟩
  refine⟨by kernel_rfl,⟨by omega,?_⟩⟩
  refine⟨(⟨k0.k+1,_⟩:KS),(by show s.size-(k0.k+1)<s.size-k0.k;omega),(cO (.cons rfl rfl (.cons rfl rfl (.cons rfl rfl (.cons rfl rfl .nil)))) (.cons rfl rfl rfl .nil)),⟨by show k0.k+1<=_;omega,?_⟩⟩
  exact⟨I4 hb ha.1,hg⟩
 refine ArgG.mk (M.hf hd k0.s ha.2) rfl ?_
 rintro _ rfl
 refine rV rfl rfl ?_
 have e:=ha.1
 rw[ahj (by simpa using Nat.le_of_not_lt hc)]at e
 rw[<-e];rfl
structure Pb where
 mn:List Int
 mx:List Int
 ts:List GTst
abbrev pbA(p:Pb):List AV:=[.tree 1 (p.mn.map iA),.tree 1 (p.mx.map iA),.tree 4 (p.ts.map tsA),.unk,.unk]
structure PbOk(p:Pb)(l:List Int):Prop where
 mn:p.mn.length=p.mx.length
 ln:p.mx.length<=128
 ts:ip p.ts (fun t=>FitTst t)
 cl:l.length<=128
 at_:∀v∈l,∃j:Nat,v=((j:Nat):Int)/\j<p.mx.length
def WOk(p:Pb)(M:(t:GTst)->Aut t)(s:ByteArray)(j:Nat):Prop:=(∀h:j<p.mn.length,p.mn[j]<=s.size)/\(∀h:j<p.mx.length,(s.size:Int)<=p.mx[j])/\∀t∈p.ts,t.g_=j->(M t).f ((M t).run s.data.toList)=true
theorem X6{p:Pb}{M:(t:GTst)->Aut t}{s:ByteArray}{v:Int}{j1 k:Nat}(hj:v=((j1:Nat):Int))(h1:∀h:j1<p.mn.length,p.mn[j1]<=s.size)(h2:∀h:j1<p.mx.length,¬((s.size:Nat):Int)>p.mx[j1])(h3:¬k<p.ts.length)
 (h4:∀i (hl:i<p.ts.length),i<k->p.ts[i].g_=v->(M p.ts[i]).f ((M p.ts[i]).run s.data.toList)=true):∀j:Nat,v=((j:Nat):Int)->WOk p M s j:=fun j h=>by
 obtain rfl:j=j1:=by omega
 refine⟨h1,fun h=>by have:=h2 h;omega,fun t ht hv=>?_⟩
 obtain⟨i,hi,rfl⟩:=ahd ht
 exact h4 i hi (by omega) (hv.trans hj.symm)
theorem Of(l:List Int)(hl:ip l (fun y=>True))(s:ByteArray)(hs:aci s)(p:Pb)(hp:PbOk p l)(M:(t:GTst)->Aut t)(hn:∀t∈p.ts,(M t).ok)(ho:PrB s):PRet Tryz.prog 87 [.agg (pbA p),.tree 1 (l.map iA),.v (.string s)] (fun q=>∃b:Bool,q=.v (.bool b)/\(b=true->∀v∈l,∀j:Nat,v=((j:Nat):Int)->WOk p M s j)):=by
 refine ovT [25,34] [] Tryz.func87 rfl rfl ?_
 refine LpG.on (fun k0:Nat=>(⟨fL [(1,.tree 1 (l.map iA)),(2,.v (.string s)),(3,.ptr 0 0 0),(7,.v (.int .i64 ((k0:Nat):Int)))],hLz [(0,⟨0,pbA p,0,false⟩)],1⟩:St)) (fun k0=>(l.length-k0)) (fun k0=>(k0<=l.length/\∀i (hl:i<l.length),i<k0->∀j:Nat,l[i]=((j:Nat):Int)->WOk p M s j)) 0 (cO (.cons rfl rfl (.cons rfl rfl (.cons rfl rfl (.cons rfl rfl .nil)))) (.cons rfl rfl rfl .nil)) ⟨ag5 _,fun j _ h=>absurd h (ag6 j)⟩ ?_
 rintro k0 hc
 have hgr_k0:l.length<=140737488355328:=hl.1
 obtain⟨hle_k0,hb⟩:=hc
 refine LenG.of (cL (fun hd=>?_) (fun hge13=>?_))
 ·obtain⟨j1,hm,hj1l⟩:=hp.at_ _ (ags hd)
  have hmn:=hp.mn
  have hgt:=hp.ts.1
  refine IdxG.of ‹_› (OpG.lk (cp Tryz.underlying27 sz3 rfl rfl hm (by omega)) ?_)
  refine cB (fun he=>?_) (fun he=>?_)
  ·exact cT (rV rfl rfl bF)
  refine OpG.lk (cp Tryz.underlying27 sz3 rfl rfl hm hj1l) ?_
  refine cD (fun hf=>?_) (fun hf=>?_)
  ·exact rV rfl rfl bF
  refine LpG.on (fun k2:Nat=>(⟨fL [(1,.tree 1 (l.map iA)),(2,.v (.string s)),(3,.ptr 0 0 0),(7,.v (.int .i64 ((k0:Nat):Int))),(8,.v (.int .i64 l[k0])),(9,.v (.int .i64 ((k2:Nat):Int)))],hLz [(0,⟨0,pbA p,0,false⟩)],1⟩:St)) (fun k2=>(p.ts.length-k2)) (fun k2=>(k2<=p.ts.length/\∀i (hl:i<p.ts.length),i<k2->p.ts[i].g_=l[k0]->(M p.ts[i]).f ((M p.ts[i]).run s.data.toList)=true)) 0 (cO (.cons rfl rfl (.cons rfl rfl (.cons rfl rfl (.cons rfl rfl (.cons rfl rfl (.cons rfl rfl .nil)))))) (.cons rfl rfl rfl .nil)) ⟨ag5 _,fun j _ h=>absurd h (ag6 j)⟩ ?_
  rintro k2 hc
  obtain⟨hle_k2,ha⟩:=hc
  refine LenG.of (cL (fun hlt42=>?_) (fun hg=>?_))
  ·refine IdxG.of ‹_› (cE (fun hh=>?_) (fun hh=>?_))
   ·refine IdxG.of ‹_› (ArgG.mk (Ia p.ts[k2] (hp.ts.2 _ (ags ‹_›)) s hs (M p.ts[k2]) (hn _ (ags ‹_›)) ho) rfl ?_)
    rintro _ rfl
    refine cB (fun hk=>?_) (fun hk=>?_)
    ·exact rV rfl rfl bF
    refine⟨by omega,?_⟩
    refine⟨(k2+1),by omega,(cO (.cons rfl rfl (.cons rfl rfl (.cons rfl rfl (.cons rfl rfl (.cons rfl rfl (.cons rfl rfl .nil)))))) (.cons rfl rfl rfl .nil)),?_⟩
    refine⟨by omega,fun j hl h=>?_⟩
    rcases ag8.1 h with h|rfl
    ·exact ha j hl h
    exact fun _=>by simpa using hk
   refine cF ⟨by omega,⟨(k2+1),by omega,(cO (.cons rfl rfl (.cons rfl rfl (.cons rfl rfl (.cons rfl rfl (.cons rfl rfl (.cons rfl rfl .nil)))))) (.cons rfl rfl rfl .nil)),?_⟩⟩
   refine⟨by omega,fun j hl h=>?_⟩
   rcases ag8.1 h with h|rfl
   ·exact ha j hl h
   exact fun h=>absurd h hh
  refine⟨by omega,?_⟩
  refine⟨(k0+1),by omega,(cO (.cons rfl rfl (.cons rfl rfl (.cons rfl rfl (.cons rfl rfl .nil)))) (.cons rfl rfl rfl .nil)),?_⟩
  refine⟨by omega,fun j hl h=>?_⟩
  rcases ag8.1 h with h|rfl
  ·exact hb j hl h
  exact X6 hm (fun h=>by simpa using he) (fun h=>hf) hg ha
 exact rV rfl rfl ⟨_,rfl,fun _ v hv j hj=>by obtain⟨i,hi,rfl⟩:=ahd hv;exact hb i hi (by omega) j hj⟩
def ch1(n:Nat):ByteArray:=⟨#[UInt8.ofNat n]⟩
theorem u8s1{n:Nat}(h:n<256):u8s [AV.v (.int .u8 ((n:Nat):Int))]=some [UInt8.ofNat n]:=by
 show u8s [AV.v (.int .u8 (.ofNat n))]=_
 unfold u8s
 have e:Nat.blt n 256=true:=by simpa[Nat.blt_eq]using h
 rw[e];rfl
theorem p100{k n:Nat}(h:((k:Nat):Int)<=2)(hn:n<=100^k):n<=10000:=aha hn (by
 have:k=0\/k=1\/k=2:=by omega
 rcases this with rfl|rfl|rfl<;>decide)
theorem in0:(∀s∈[(⟨#[]⟩:ByteArray)],PrB s/\s.size<=0)/\[(⟨#[]⟩:ByteArray)].length<=100^0:=⟨fun s hs=>by rw[agx.1 hs];exact⟨fun c hc=>by simp at hc,ag7 _⟩,ag7 _⟩
theorem Zw{k j n L:Nat}(h1:n<=100^k)(h2:L<=95*j)(h3:j<=n):L<=100^(k+1):=by rw[Nat.pow_succ];omega
theorem Wy{L:List ByteArray}{k n:Nat}{x:ByteArray}(h:∀s∈L,PrB s/\s.size<=k+1)(hx:PrB x/\x.size<=k)(hn:n<95):∀s∈L++[x++ch1 (32+n)],PrB s/\s.size<=k+1:=by
 intro s hs
 rcases agy.1 hs with hs|hs
 ·exact h s hs
 rw[agx.1 hs]
 refine⟨fun c hc=>?_,by rw[ByteArray.size_append];show _+1<=_;have:=hx.2;omega⟩
 rw[ByteArray.data_append,Array.toList_append]at hc
 rcases agy.1 hc with hc|hc
 ·exact hx.1 c hc
 have:c=UInt8.ofNat (32+n):=by simpa[ch1]using hc
 subst this
 constructor<;>(rw[UInt8.le_iff_toNat_le,UInt8.toNat_ofNat'];simp;omega)
structure KF where
 k:Nat
 F:List ByteArray
structure KW(α:Type) where
 k:Nat
 L:List α
 v:Nat
theorem Og{l:List Int}(hl:ip l (fun y=>True)){s:ByteArray}(hs:aci s){p:Pb}(hp:PbOk p l)(M:(t:GTst)->Aut t)(ha:∀t∈p.ts,(M t).ok)(hc:PrB s)(hN:¬∀v∈l,∀j:Nat,v=((j:Nat):Int)->WOk p M s j):PRet Tryz.prog 87 [.agg (pbA p),.tree 1 (l.map iA),.v (.string s)] (fun q=>q=.v (.bool false)):=
 (Of l hl s hs p hp M ha hc).mono fun q ⟨b,h,hb⟩=>by
  cases b
  ·exact h
  ·exact absurd (hb rfl) hN
theorem by9:(Tryz.prog.info? 9).map (·.bytes)=some 16:=by kernel_rfl
theorem sz5:ao Tryz.prog 5=some 1:=by kernel_rfl
theorem sz9:ao Tryz.prog 9=some 1:=by kernel_rfl
theorem zr5:bj Tryz.prog 5=some (.int .u8 0):=by kernel_rfl
theorem zr9:bj Tryz.prog 9=some (.string ⟨#[]⟩):=by kernel_rfl
theorem A5(l:List Int)(hl:ip l (fun y=>True))(m:Int)(p:Pb)(hp:PbOk p l)(M:(t:GTst)->Aut t)(ho:∀t∈p.ts,(M t).ok)(hN:∀s,PrB s->¬∀v∈l,∀j:Nat,v=((j:Nat):Int)->WOk p M s j):PRet Tryz.prog 46 [.agg (pbA p),.tree 1 (l.map iA),.v (.int .i64 m)] (fun q=>q=.tup [.tree 1 [],.tree 1 []]):=by
 refine ovT [16,17,18,55,62,63,64,65,67] [20] Tryz.func46 rfl rfl ?_
 refine OpG.nw (bq (bo 1 Tryz.underlying112 sz9) (fun η' h=>bc (f:=sA) (l:=[]) (agx.2 rfl) h rfl rfl rfl rfl rfl (fun a _=>⟨rfl,rfl⟩))) rfl ?_
 refine OpG.nw (bq (bo 2 Tryz.underlying27 sz3) (fun η' h=>bc (f:=iA) (l:=[]) (agx.2 rfl) h rfl rfl rfl rfl rfl (fun a _=>⟨rfl,rfl⟩))) rfl ?_
 refine OpG.nw (bq (cj Tryz.underlying112 sz9 zr9 rfl rfl rfl rfl) (fun η' h=>bc (f:=sA) (l:=[(⟨#[]⟩:ByteArray)]) (agx.2 rfl) h rfl rfl rfl rfl rfl (fun a _=>⟨rfl,rfl⟩))) rfl ?_
 refine LpG.on (fun k0:KF=>(⟨fL [(1,.tree 1 (l.map iA)),(2,.v (.int .i64 m)),(3,.ptr 0 0 0),(8,.tree 1 ((([]:List ByteArray)).map sA)),(9,.tree 1 ((([]:List Int)).map iA)),(10,.tree 1 (k0.F.map sA)),(11,.v (.int .i64 ((k0.k:Nat):Int)))],hLz [(0,⟨0,pbA p,0,false⟩)],4⟩:St)) (fun k0=>(3-k0.k)) (fun k0=>(k0.k<=3/\((∀s∈k0.F,PrB s/\s.size<=k0.k)/\k0.F.length<=100^k0.k))) (⟨0,[(⟨#[]⟩:ByteArray)]⟩:KF) (cO (.cons rfl rfl (.cons rfl rfl (.cons rfl rfl (.cons rfl rfl (.cons rfl rfl (.cons rfl rfl (.cons rfl rfl .nil))))))) (.cons rfl rfl rfl .nil)) ⟨ag5 _,in0⟩ ?_
 rintro k0 hd
 obtain⟨hle_k0,hb⟩:=hd
 refine cB (fun hf=>?_) (fun hf=>?_)
 ·have hk:((k0.k:Nat):Int)<=(2:Int):=ag3 hf
  have Gu:=p100 hk hb.2
  refine OpG.nw (bo 4 Tryz.underlying112 sz9) rfl ?_
  refine LpG.on (fun k2:KW ByteArray=>(⟨fL [(1,.tree 1 (l.map iA)),(2,.v (.int .i64 m)),(3,.ptr 0 0 0),(8,.tree 1 ((([]:List ByteArray)).map sA)),(9,.tree 1 ((([]:List Int)).map iA)),(10,.tree 1 (k0.F.map sA)),(11,.v (.int .i64 ((k0.k:Nat):Int))),(12,.sl 4 k2.v 0 k2.L.length),(13,.v (.bool false)),(14,.v (.int .i64 ((k2.k:Nat):Int)))],hLz [(0,⟨0,pbA p,0,false⟩),(4,⟨k2.v,rF sA k2.L,1,false⟩)],5⟩:St)) (fun k2=>(k0.F.length-k2.k)) (fun k2=>(k2.k<=k0.F.length/\((∀s∈k2.L,PrB s/\s.size<=k0.k+1)/\k2.L.length<=95*k2.k/\k2.v<=95*k2.k))) (⟨0,[],0⟩:KW ByteArray) (cO (.cons rfl rfl (.cons rfl rfl (.cons rfl rfl (.cons rfl rfl (.cons rfl rfl (.cons rfl rfl (.cons rfl rfl (.cons rfl rfl (.cons rfl rfl (.cons rfl rfl .nil)))))))))) (.cons rfl rfl rfl (.cons rfl rfl (aa cr _ _) .nil))) ⟨ag5 _,⟨by simp,by simp,by simp⟩⟩ ?_
  rintro k2 hd
  obtain⟨hg,he⟩:=hd
  refine LenG.of (cB (fun hh=>?_) (fun hh=>?_))
  ·have hc:k2.k<k0.F.length:=Int.ofNat_lt.1 (ag3 hh)
   have hFl:=hb.2
   have hs2:=(hb.1 _ (ags hc)).2
   refine IdxG.of ‹_› (ArgG.mk (Og hl (by have:=(hb.1 _ (ags hc)).2;show _<=_;omega) hp M ho (hb.1 _ (ags hc)).1 (hN _ (hb.1 _ (ags hc)).1)) rfl ?_)
   rintro _ rfl
   refine⟨by kernel_rfl,?_⟩
   refine cF (LpG.on (fun k4:KW ByteArray=>(⟨fL [(1,.tree 1 (l.map iA)),(2,.v (.int .i64 m)),(3,.ptr 0 0 0),(8,.tree 1 ((([]:List ByteArray)).map sA)),(9,.tree 1 ((([]:List Int)).map iA)),(10,.tree 1 (k0.F.map sA)),(11,.v (.int .i64 ((k0.k:Nat):Int))),(12,.sl 4 k4.v 0 k4.L.length),(13,.v (.bool false)),(14,.v (.int .i64 ((k2.k:Nat):Int))),(15,.v (.int .i64 (((32+k4.k:Nat)):Int)))],hLz [(0,⟨0,pbA p,0,false⟩),(4,⟨k4.v,rF sA k4.L,1,false⟩)],5⟩:St)) (fun k4=>(95-k4.k)) (fun k4=>(k4.k<=95/\((∀s∈k4.L,PrB s/\s.size<=k0.k+1)/\k4.L.length<=95*k2.k+k4.k/\k4.v<=95*k2.k+k4.k))) (⟨0,k2.L,k2.v⟩:KW ByteArray) (cO (.cons rfl rfl (.cons rfl rfl (.cons rfl rfl (.cons rfl rfl (.cons rfl rfl (.cons rfl rfl (.cons rfl rfl (.cons rfl rfl (.cons rfl rfl (.cons rfl rfl (.cons rfl rfl .nil))))))))))) (.cons rfl rfl rfl (.cons rfl rfl (aa cr _ _) .nil))) ⟨ag5 _,he⟩ ?_)
   rintro k4 hd
   obtain⟨hle_k4,ha⟩:=hd
   refine cB (fun hi=>?_) (fun hi=>?_)
   ·have hm:((((32+k4.k:Nat)):Int):Int)<=(126:Int):=ag3 hi
    refine cB (fun hj=>?_) (fun hj=>?_)
    ·have hlt53:k0.k<2:=Int.ofNat_lt.1 (ag3 hj)
     refine IdxG.of ‹_› (OpG.lk (rv Tryz.underlying3 Tryz.underlying5 rfl (by omega) (by omega)) ?_)
     refine OpG.nw (bq (cj Tryz.underlying160 sz5 zr5 rfl rfl rfl rfl) (fun η' h=>bc (f:=uA) (l:=[(((32+k4.k:Nat)):Int)]) (agx.2 rfl) h rfl rfl rfl rfl rfl (fun a _=>⟨rfl,rfl⟩))) rfl ?_
     refine OpG.lk (tf (l:=[UInt8.ofNat (32+k4.k)]) Tryz.underlying160 Tryz.underlying5 Tryz.underlying9 (Src.tree (n:=1)) (u8s1 (by omega)) rfl) ?_
     refine OpG.lk (yq rfl rfl (by show _+1<=_;omega)) ?_
     refine OpG.mk _ _ _ 7 (c0 cr (l:=k4.L) (a:=(k0.F[k2.k]++ch1 (32+k4.k))) Tryz.underlying112 sz9 zr9 by9 rfl rfl rfl (Src.sl rfl rfl rfl rfl rfl) rfl (by omega) (by omega) (by unfold TV;omega)) rfl rfl ?_
     refine⟨by kernel_rfl,?_⟩
     refine OpG.lk (lJ rfl rfl (by omega) (by omega)) ?_
     refine⟨(⟨k4.k+1,k4.L++[(k0.F[k2.k]++ch1 (32+k4.k))],k4.v+1⟩:KW ByteArray),(by show 95-(k4.k+1)<95-k4.k;omega),(cO (.cons rfl rfl (.cons rfl rfl (.cons rfl rfl (.cons rfl rfl (.cons rfl rfl (.cons rfl rfl (.cons rfl rfl (.cons rfl rfl (.cons rfl rfl (.cons rfl rfl (.cons rfl rfl .nil))))))))))) (.cons rfl rfl rfl (.cons rfl rfl (aa cr _ _) .nil))),?_⟩
     refine⟨by show k4.k+1<=_;omega,?_⟩
     exact⟨Wy ha.1 (hb.1 _ (ags hc)) (by omega),by show(_++[_]).length<=_;rw[agw];have:=ha.2.1;show _+1<=95*k2.k+(k4.k+1);omega,by have:=ha.2.2;show k4.v+1<=95*k2.k+(k4.k+1);omega⟩
    have hge53:¬k0.k<2:=fun h=>ag2 hj (Int.ofNat_lt.2 h)
    refine⟨by omega,?_⟩
    refine⟨(⟨k2.k+1,k4.L,k4.v⟩:KW ByteArray),(by show k0.F.length-(k2.k+1)<k0.F.length-k2.k;omega),(cO (.cons rfl rfl (.cons rfl rfl (.cons rfl rfl (.cons rfl rfl (.cons rfl rfl (.cons rfl rfl (.cons rfl rfl (.cons rfl rfl (.cons rfl rfl (.cons rfl rfl .nil)))))))))) (.cons rfl rfl rfl (.cons rfl rfl (aa cr _ _) .nil))),?_⟩
    refine⟨by show k2.k+1<=_;omega,?_⟩
    exact⟨ha.1,by have:=ha.2.1;show k4.L.length<=95*(k2.k+1);omega,by have:=ha.2.2;show k4.v<=95*(k2.k+1);omega⟩
   have hm:¬(((((32+k4.k:Nat)):Int):Int)<=(126:Int)):=ag2 hi
   refine cF ⟨by omega,⟨(⟨k2.k+1,k4.L,k4.v⟩:KW ByteArray),(by show k0.F.length-(k2.k+1)<k0.F.length-k2.k;omega),(cO (.cons rfl rfl (.cons rfl rfl (.cons rfl rfl (.cons rfl rfl (.cons rfl rfl (.cons rfl rfl (.cons rfl rfl (.cons rfl rfl (.cons rfl rfl (.cons rfl rfl .nil)))))))))) (.cons rfl rfl rfl (.cons rfl rfl (aa cr _ _) .nil))),?_⟩⟩
   refine⟨by show k2.k+1<=_;omega,?_⟩
   exact⟨ha.1,by have:=ha.2.1;show k4.L.length<=95*(k2.k+1);omega,by have:=ha.2.2;show k4.v<=95*(k2.k+1);omega⟩
  have hge27:¬k2.k<k0.F.length:=fun h=>ag2 hh (Int.ofNat_lt.2 h)
  refine cF (RegG.via (fun _ h=>bm [4] 12 (.tree 1 (k2.L.map sA)) (fx cr (agx.2 rfl) rfl) rfl h) ?_)
  generalize hn:k2.L=F1
  refine aw ?_
  refine⟨by omega,?_⟩
  refine⟨(⟨k0.k+1,F1⟩:KF),(by show 3-(k0.k+1)<3-k0.k;omega),(cO (.cons rfl rfl (.cons rfl rfl (.cons rfl rfl (.cons rfl rfl (.cons rfl rfl (.cons rfl rfl (.cons rfl rfl .nil))))))) (.cons rfl rfl rfl .nil)),?_⟩
  refine⟨by show k0.k+1<=_;omega,?_⟩
  rw[<-hn]
  exact⟨he.1,Zw hb.2 he.2.1 hg⟩
 have hk:¬(((k0.k:Nat):Int)<=(2:Int)):=ag2 hf
 refine⟨.inr rfl,_,Ng.two rfl (Uc.tmp ⟨[],FzP.pure rfl⟩) (Uc.tmp ⟨[],FzP.pure rfl⟩),?_⟩
 rfl
end Go.Proofs.YtbhhmbchdponjaaGreatDoor
