/- Texts of the claim. -/
import Derived.Test.YtbhhmbchdponjaaGreatDoorT4
import Derived.Test.YtbhhmbchdponjaaGreatDoorQ2
namespace Go.Proofs.YtbhhmbchdponjaaGreatDoor
set_option maxRecDepth 1000000
set_option maxHeartbeats 0
set_option linter.unusedVariables false
set_option linter.unusedSimpArgs false
open Go.RowKit
def N5(n:Nat)(K:List IqS)(s:StS):Option IqS:=if(B1 s.d/\0<s.d)/\∀u∈s.us,0<=u.n/\B1 u.n then match um K s.us ⟨List.replicate n 0,0⟩with
 |some Q=>if∀x∈Q.cs,flM x s.d=0 then some (N3 Q s.d)else none
 |none=>none
 else none
theorem wx{n:Nat}{K:List IqS}{s:StS}{q:IqS}(h:N5 n K s=some q):B1 s.d/\0<s.d/\(∀u∈s.us,0<=u.n/\B1 u.n)/\∃Q,um K s.us ⟨List.replicate n 0,0⟩=some Q/\(∀x∈Q.cs,flM x s.d=0)/\q=N3 Q s.d:=by
 unfold N5 at h
 split at h
 ·next hc=>
  split at h
  ·next Q e=>
   split at h
   ·next hm=>cases h;exact⟨hc.1.1,hc.1.2,hc.2,Q,e,hm,rfl⟩
   ·cases h
  ·cases h
 ·cases h
theorem M4{n:Nat}{K:List IqS}{s:StS}{q:IqS}(h:N5 n K s=some q):BQ q/\q.cs.length=n:=by
 obtain⟨_,h2,_,Q,e,_,rfl⟩:=wx h
 have hb:=sf (q:=⟨List.replicate n 0,0⟩) ⟨me n,Hm⟩ e
 exact⟨⟨Mt hb.c h2,V9 hb.b h2⟩,by show(List.map _ _).length=n;rw[agz,ox e];simp⟩
def jn(n:Nat):List StS->List IqS->Option (List IqS)
 |[],K=>some K
 |s::S,K=>match N5 n K s with
  |none=>none
  |some q=>jn n S (K++[q])
theorem Ft{n:Nat}{S:List StS}{K R:List IqS}{k:Nat}(hk:k<S.length)(h:jn n (S.drop k) K=some R):∃q,N5 n K S[k]=some q/\jn n (S.drop (k+1)) (K++[q])=some R:=by
 rw[ahm hk]at h
 unfold jn at h
 split at h
 ·cases h
 ·next q e=>exact⟨q,e,h⟩
theorem Fu{n:Nat}{S:List StS}{K R:List IqS}{k:Nat}(hk:¬k<S.length)(h:jn n (S.drop k) K=some R):K=R:=by
 rw[List.drop_of_length_le (by omega)]at h;cases h;rfl
abbrev SyN(n:Nat)(K:List IqS):Prop:=∀q∈K,BQ q/\q.cs.length=n
structure KE where
 k:Nat
 L:List IqS
 v:Nat
theorem okK{D:List Nat}{v:Nat}{K:List IqS}:Bw D ⟨v,rF iqA K,3,false⟩:=⟨aq ab _ _,.inl rfl⟩
theorem R8{x:Int}(h:0<x):sgZ x=1:=by unfold sgZ;rw[ag0 (by omega),ag0 (by omega)]
theorem Mq:bw Tryz.prog 134=true:=by kernel_rfl
theorem aa8:bw Tryz.prog 135=true:=by kernel_rfl
theorem T3:bw Tryz.prog 163=true:=by kernel_rfl
theorem Mp:bw Tryz.prog 168=true:=by kernel_rfl
theorem Fh(q:IqS)(n:Nat)(hq:q.cs.length=n):PRet Tryz.prog 163 [.agg (iqA q),.tp [.v (.int .i64 ((n:Nat):Int))] 0] (fun r=>r=.v (.bool false)):=by
 refine ovT [] [] Tryz.func163 rfl rfl (LenG.of ?_)
 refine rV rfl rfl ?_
 rw[hq];show AV.v (.bool (_ !=_))=_;simp
theorem Ld(K:List IqS)(n:Nat)(hn:∀q∈K,q.cs.length=n)(hl:K.length<=1000000):PRet Tryz.prog 168 [.tree 3 (K.map iqA),.clo 163 [.tp [.v (.int .i64 ((n:Nat):Int))] 0]] (fun r=>∃i:Int,r=.v (.int .i64 i)/\(0<=i↔(K.any fun q=>false)=true)):=by
 have hf:∀q∈K,b8 Tryz.prog 163 (.agg (iqA q)::[.tp [.v (.int .i64 ((n:Nat):Int))] 0]) (.v (.bool false)):=fun q hq=>PRet.eq (Fh q n (hn q hq))
 have hKf:ip K (fun _=>True):=⟨by omega,fun _ _=>trivial⟩
 refine ovT [16] [] Tryz.func168 rfl rfl ?_
 refine LenG.of ?_
 refine LpG.loop (fun mm_ st_=>∃k0:Nat,mm_=(K.length-k0)/\st_=⟨fL [(0,.tree 3 (K.map iqA)),(1,.clo 163 [.tp [.v (.int .i64 ((n:Nat):Int))] 0]),(7,.v (.int .i64 ((K.length:Nat):Int))),(8,.v (.int .i64 ((k0:Nat):Int)))],hLz [],0⟩/\(k0<=K.length/\∀j (hl:j<K.length),j<k0->false=false)) (n:=(K.length-0)) (s1:=⟨fL [(0,.tree 3 (K.map iqA)),(1,.clo 163 [.tp [.v (.int .i64 ((n:Nat):Int))] 0]),(7,.v (.int .i64 ((K.length:Nat):Int))),(8,.v (.int .i64 ((0:Nat):Int)))],hLz [],0⟩) (cO (.cons rfl rfl (.cons rfl rfl (.cons rfl rfl (.cons rfl rfl .nil)))) .nil) ⟨0,rfl,rfl,⟨ag5 _,fun j _ h=>absurd h (ag6 j)⟩⟩ ?_
 rintro mm_ st_ ⟨k0,rfl,rfl,hd⟩
 obtain⟨hle_k0,ha⟩:=hd
 refine cB (fun he=>?_) (fun he=>?_)
 ·have hc:k0<K.length:=Int.ofNat_lt.1 (ag3 he)
  refine IdxG.of ‹_› ?_
  refine OpG.lk (fg T3 rfl rfl rfl (hf _ (ags hc))) ?_
  refine cB (fun hb=>?_) (fun hb=>?_)
  ·refine⟨.inr rfl,_,oV rfl rfl rfl rfl,?_⟩
   exact⟨_,rfl,fun _=>List.any_eq_true.2 ⟨_,ags hc,hb⟩,fun _=>Int.natCast_nonneg _⟩
  refine⟨by omega,?_⟩
  refine⟨(K.length-(k0+1)),⟨fL [(0,.tree 3 (K.map iqA)),(1,.clo 163 [.tp [.v (.int .i64 ((n:Nat):Int))] 0]),(7,.v (.int .i64 ((K.length:Nat):Int))),(8,.v (.int .i64 (((k0+1):Nat):Int)))],hLz [],0⟩,by omega,(cO (.cons rfl rfl (.cons rfl rfl (.cons rfl rfl (.cons rfl rfl .nil)))) .nil),(k0+1),rfl,rfl,?_⟩
  refine⟨by omega,fun j hl h=>?_⟩
  rcases ag8.1 h with h|rfl
  ·exact ha j hl h
  exact hb
 have hge9:¬k0<K.length:=fun h=>ag2 he (Int.ofNat_lt.2 h)
 refine⟨.inr rfl,_,oV rfl rfl rfl rfl,?_⟩
 exact⟨_,rfl,fun h=>absurd h (by decide),fun h=>by
  obtain⟨q,hq,e⟩:=List.any_eq_true.1 h
  obtain⟨j,hj,rfl⟩:=ahd hq
  rw[ha j hj (by omega)]at e;cases e⟩
theorem Co(K:List IqS)(n:Nat)(hn:∀q∈K,q.cs.length=n)(hl:K.length<=1000000):PRet Tryz.prog 134 [.tree 3 (K.map iqA),.clo 163 [.tp [.v (.int .i64 ((n:Nat):Int))] 0]] (fun r=>r=.v (.bool (K.any fun q=>false))):=by
 obtain⟨_,⟨i7,rfl,ha⟩,hb⟩:=Ld K n hn hl
 refine ovT [7] [] Tryz.func134 rfl rfl (OpG.lk (LOp.call Mp rfl hb) ?_)
 refine rV rfl rfl ?_
 show AV.v (.bool (decide _))=_;rw[show decide (i7≥0)=(K.any fun q=>false)by rw[Bool.eq_iff_iff,decide_eq_true_iff];exact ha]
theorem Oh(K:List IqS)(n:Nat)(hc:0<K.length)(hl:K.length<=1000000)(hn:∀q∈K,q.cs.length=n):PRet Tryz.prog 131 [.tree 3 (K.map iqA)] (fun r=>r=.tup [.v (.int .i64 ((n:Nat):Int)),.v (.bool true)]):=by
 obtain⟨_,rfl,ha⟩:=Co K n hn hl
 have h0n:=hn _ (ags hc)
 rw[show(K.any fun q=>false)=false by simp]at ha
 have hKf:ip K (fun _=>True):=⟨by omega,fun _ _=>trivial⟩
 refine ovT [15,16] [4] Tryz.func131 rfl rfl (LenG.of ?_)
 refine cB (fun hb=>?_) (fun hb=>?_)
 ·exfalso;have h:=eq_of_beq hb;omega
 have hq7:¬(((K.length:Nat):Int)=(0:Int)):=by simpa using hb
 refine IdxG.of (j:=0) ‹_› (LenG.of ?_)
 refine RegG.via (fun _ h=>ck 0 ⟨0,[.v (.int .i64 ((n:Nat):Int))],0,false⟩ rfl (by rw[h0n]) h) (RegG.via (fun _ h=>bm [0] 4 (.tp [.v (.int .i64 ((n:Nat):Int))] 0) (FzP.ptr (b:=⟨0,[.v (.int .i64 ((n:Nat):Int))],0,false⟩) (agx.2 rfl) rfl rfl rfl rfl (fun i h1 h2=>match i,h1 with|0,_=>FzP.pure rfl)) rfl h) ?_)
 refine aw (OpG.lk (LOp.makeFunc) ?_)
 refine OpG.lk (LOp.call Mq rfl ha) ⟨by kernel_rfl,⟨.inr rfl,_,Ng.two rfl (Uc.tmp ⟨[],FzP.pure rfl⟩) (Uc.tmp ⟨[],FzP.pure rfl⟩),?_⟩⟩
 rfl
theorem Le(K:List IqS)(v:Nat)(n:Nat)(hn:∀q∈K,q.cs.length=n)(hl:K.length<=1000000):qa Tryz.prog 168 [.sl 1000000 v 0 K.length,.clo 163 [.tp [.v (.int .i64 ((n:Nat):Int))] 0]] [(1000000,⟨v,rF iqA K,3,false⟩)] [(1000000,some (⟨v,rF iqA K,3,false⟩))] (fun r=>∃i:Int,r=.v (.int .i64 i)/\(0<=i↔(K.any fun q=>false)=true)):=by
 have hf:∀q∈K,b8 Tryz.prog 163 (.agg (iqA q)::[.tp [.v (.int .i64 ((n:Nat):Int))] 0]) (.v (.bool false)):=fun q hq=>PRet.eq (Fh q n (hn q hq))
 refine qa.of_vc jc [7,14,15,16] [] Tryz.func168 rfl Tryz.ntmps168 rfl (by kernel_rfl) ?_
 refine OpG.lk (cd rfl Tryz.underlying85 rfl rfl rfl) ?_
 refine LpG.on (fun k0:Nat=>(⟨fL [(0,.sl 1000000 v 0 K.length),(1,.clo 163 [.tp [.v (.int .i64 ((n:Nat):Int))] 0]),(7,.v (.int .i64 ((K.length:Nat):Int))),(8,.v (.int .i64 ((k0:Nat):Int)))],hLz [(1000000,⟨v,rF iqA K,3,false⟩)],0⟩:St)) (fun k0=>(K.length-k0)) (fun k0=>(k0<=K.length/\∀j (hl:j<K.length),j<k0->false=false)) 0 (cO (.cons rfl rfl (.cons rfl rfl (.cons rfl rfl (.cons rfl rfl .nil)))) (.cons rfl rfl (aa ab _ _) .nil)) ⟨ag5 _,fun j _ h=>absurd h (ag6 j)⟩ ?_
 rintro k0 hd
 obtain⟨hle_k0,hb⟩:=hd
 refine cL (fun ha=>?_) (fun hge9=>?_)
 ·refine OpG.lk (av (k:=k0) ab Tryz.underlying85 jt rfl rfl rfl ha rfl) ?_
  refine OpG.lk (d5 (k:=k0) ab na rfl rfl ha) ?_
  refine OpG.lk (fg T3 rfl rfl rfl (hf _ (ags ha))) ?_
  refine cB (fun hc=>?_) (fun hc=>?_)
  ·refine⟨.inr rfl,_,Nf.of [] (az rfl (.cons (abn.tmp rfl) .nil)) rfl ⟨.same rfl (by decide),trivial⟩ .same,?_⟩
   exact⟨_,rfl,fun _=>List.any_eq_true.2 ⟨_,ags ha,hc⟩,fun _=>Int.natCast_nonneg _⟩
  refine⟨by omega,?_⟩
  refine⟨(k0+1),by omega,(cO (.cons rfl rfl (.cons rfl rfl (.cons rfl rfl (.cons rfl rfl .nil)))) (.cons rfl rfl (aa ab _ _) .nil)),?_⟩
  refine⟨by omega,fun j hl h=>?_⟩
  rcases ag8.1 h with h|rfl
  ·exact hb j hl h
  exact hc
 refine⟨.inr rfl,_,Nf.of [] (az rfl (.cons (abn.tmp rfl) .nil)) rfl ⟨.same rfl (by decide),trivial⟩ .same,?_⟩
 exact⟨_,rfl,fun h=>absurd h (by decide),fun h=>by
  obtain⟨q,hq,e⟩:=List.any_eq_true.1 h
  obtain⟨j,hj,rfl⟩:=ahd hq
  rw[hb j hj (by omega)]at e;cases e⟩
theorem Cp(K:List IqS)(v:Nat)(n:Nat)(hn:∀q∈K,q.cs.length=n)(hl:K.length<=1000000):qa Tryz.prog 134 [.sl 1000000 v 0 K.length,.clo 163 [.tp [.v (.int .i64 ((n:Nat):Int))] 0]] [(1000000,⟨v,rF iqA K,3,false⟩)] [(1000000,some (⟨v,rF iqA K,3,false⟩))] (fun r=>r=.v (.bool (K.any fun q=>false))):=by
 obtain⟨_,⟨i7,rfl,ha⟩,hb⟩:=Le K v n hn hl
 refine qa.of_vc jc [7] [] Tryz.func134 rfl Tryz.ntmps134 rfl (by kernel_rfl) (OpG.lk (co (a8 [(1000000,1000000)] Mp hb rfl rfl rfl rfl ⟨sX ab,trivial⟩ ⟨okK,trivial⟩ ⟨aq ab _ _,trivial⟩ rfl rfl rfl rfl (di ab rfl) rfl) ⟨⟨.head _,rfl,rfl⟩,trivial⟩) ?_)
 refine⟨.inr rfl,_,Nf.of [] (az rfl (.cons (abn.tmp rfl) .nil)) rfl ⟨.same rfl (by decide),trivial⟩ .same,?_⟩
 show AV.v (.bool (decide _))=_;rw[show decide (i7≥0)=(K.any fun q=>false)by rw[Bool.eq_iff_iff,decide_eq_true_iff];exact ha]
theorem Oi(K:List IqS)(v:Nat)(n:Nat)(hb:0<K.length)(hl:K.length<=1000000)(hn:∀q∈K,q.cs.length=n):qa Tryz.prog 131 [.sl 1000000 v 0 K.length] [(1000000,⟨v,rF iqA K,3,false⟩)] [(1000000,some (⟨v,rF iqA K,3,false⟩))] (fun r=>r=.tup [.v (.int .i64 ((n:Nat):Int)),.v (.bool true)]):=by
 obtain⟨_,rfl,ha⟩:=Cp K v n hn hl
 have h0n:=hn _ (ags hb)
 rw[show(K.any fun q=>false)=false by simp]at ha
 refine qa.of_vc jc [6,9,10,11,15,16] [4] Tryz.func131 rfl Tryz.ntmps131 rfl (by kernel_rfl) (OpG.lk (cd rfl Tryz.underlying85 rfl rfl rfl) ?_)
 refine cB (fun hc=>?_) (fun hc=>?_)
 ·exfalso;have h:=eq_of_beq hc;omega
 have hq7:¬(((K.length:Nat):Int)=(0:Int)):=by simpa using hc
 refine OpG.lk (av (k:=0) ab Tryz.underlying85 jt rfl rfl rfl hb rfl) (OpG.lk (kc (f:=iqA) (q:=3) (L:=K) wl rfl rfl rfl) ?_)
 refine OpG.lk (j0 (k:=0) (o:=0) ab vu rfl rfl hb rfl) (LenG.of ?_)
 refine RegG.via (fun _ h=>ck 0 ⟨0,[.v (.int .i64 ((n:Nat):Int))],0,false⟩ rfl (by rw[h0n]) h) (RegG.via (fun _ h=>bm [0] 4 (.tp [.v (.int .i64 ((n:Nat):Int))] 0) (FzP.ptr (b:=⟨0,[.v (.int .i64 ((n:Nat):Int))],0,false⟩) (agx.2 rfl) rfl rfl rfl rfl (fun i h1 h2=>match i,h1 with|0,_=>FzP.pure rfl)) rfl h) ?_)
 refine aw (OpG.lk (LOp.makeFunc) ?_)
 refine OpG.lk (co (a8 [(1000000,1000000)] Mq ha rfl rfl rfl rfl ⟨sX ab,trivial⟩ ⟨okK,trivial⟩ ⟨aq ab _ _,trivial⟩ rfl rfl rfl rfl (di ab rfl) rfl) ⟨⟨.head _,rfl,rfl⟩,trivial⟩) ⟨by kernel_rfl,⟨.inr rfl,_,Nf.of [] (az rfl (.cons (abn.tmp rfl) (.cons (abn.tmp rfl) .nil))) rfl ⟨.same rfl (by decide),trivial⟩ .same,?_⟩⟩
 rfl
theorem Qq(q:IqS)(hq:BQ q)(hs:q.cs.length<=1000):PRet Tryz.prog 135 [.agg (iqA q)] (fun r=>r=.v (.bool (uk q))):=by
 refine ovT [] [] Tryz.func135 rfl rfl (LenG.of ?_)
 refine LpG.on (fun k0:Nat=>(⟨fL [(1,.ptr 0 0 0),(6,.tree 2 (q.cs.map bI)),(7,.v (.int .i64 ((q.cs.length:Nat):Int))),(8,.v (.int .i64 ((k0:Nat):Int)))],hLz [(0,⟨0,iqA q,0,false⟩)],1⟩:St)) (fun k0=>(q.cs.length-k0)) (fun k0=>(k0<=q.cs.length/\∀j (hl:j<q.cs.length),j<k0->q.cs[j]=0)) 0 (cO (.cons rfl rfl (.cons rfl rfl (.cons rfl rfl (.cons rfl rfl .nil)))) (.cons rfl rfl rfl .nil)) ⟨ag5 _,fun j _ h=>absurd h (ag6 j)⟩ ?_
 rintro k0 hc
 obtain⟨hle_k0,hb⟩:=hc
 refine cL (fun hd=>?_) (fun hge9=>?_)
 ·refine IdxG.of ‹_› (ArgG.mk (j8 (x:=q.cs[k0]) (hq.c _ (ags ‹_›))) rfl ?_)
  rintro _ rfl
  refine cB (fun ha=>?_) (fun ha=>?_)
  ·have he:¬(((sgZ (q.cs[k0])):Int)=(0:Int)):=by simpa using ha
   refine rV rfl rfl ?_
   rw[T6 hd (by simpa using ha)];rfl
  have he:((sgZ (q.cs[k0])):Int)=(0:Int):=by simpa using ha
  refine⟨by omega,⟨(k0+1),by omega,(cO (.cons rfl rfl (.cons rfl rfl (.cons rfl rfl (.cons rfl rfl .nil)))) (.cons rfl rfl rfl .nil)),?_⟩⟩
  refine⟨by omega,fun j hl h=>?_⟩
  rcases ag8.1 h with h|rfl
  ·exact hb j hl h
  exact sgZ_0.1 (by simpa using ha)
 refine ArgG.mk (j8 (x:=q.b) hq.b) rfl ?_
 rintro _ rfl
 refine rV rfl rfl ?_
 rw[Mw (fun j hl=>hb j hl (by omega))];rfl
theorem P9(K:List IqS)(v:Nat)(hK:∀q∈K,BQ q/\q.cs.length<=1000)(hl:K.length<=1000000):qa Tryz.prog 168 [.sl 1000000 v 0 K.length,.clo 135 []] [(1000000,⟨v,rF iqA K,3,false⟩)] [(1000000,some (⟨v,rF iqA K,3,false⟩))] (fun r=>∃i:Int,r=.v (.int .i64 i)/\(0<=i↔(K.any fun q=>(uk q))=true)):=by
 have hf:∀q∈K,b8 Tryz.prog 135 (.agg (iqA q)::[]) (.v (.bool (uk q))):=fun q hq=>PRet.eq (Qq q (hK q hq).1 (hK q hq).2)
 refine qa.of_vc jc [7,14,15,16] [] Tryz.func168 rfl Tryz.ntmps168 rfl (by kernel_rfl) ?_
 refine OpG.lk (cd rfl Tryz.underlying85 rfl rfl rfl) ?_
 refine LpG.on (fun k0:Nat=>(⟨fL [(0,.sl 1000000 v 0 K.length),(1,.clo 135 []),(7,.v (.int .i64 ((K.length:Nat):Int))),(8,.v (.int .i64 ((k0:Nat):Int)))],hLz [(1000000,⟨v,rF iqA K,3,false⟩)],0⟩:St)) (fun k0=>(K.length-k0)) (fun k0=>(k0<=K.length/\∀j (hl:j<K.length),j<k0->(uk K[j])=false)) 0 (cO (.cons rfl rfl (.cons rfl rfl (.cons rfl rfl (.cons rfl rfl .nil)))) (.cons rfl rfl (aa ab _ _) .nil)) ⟨ag5 _,fun j _ h=>absurd h (ag6 j)⟩ ?_
 rintro k0 hd
 obtain⟨hle_k0,hb⟩:=hd
 refine cL (fun ha=>?_) (fun hge9=>?_)
 ·refine OpG.lk (av (k:=k0) ab Tryz.underlying85 jt rfl rfl rfl ha rfl) ?_
  refine OpG.lk (d5 (k:=k0) ab na rfl rfl ha) ?_
  refine OpG.lk (fg aa8 rfl rfl rfl (hf _ (ags ha))) ?_
  refine cB (fun hc=>?_) (fun hc=>?_)
  ·refine⟨.inr rfl,_,Nf.of [] (az rfl (.cons (abn.tmp rfl) .nil)) rfl ⟨.same rfl (by decide),trivial⟩ .same,?_⟩
   exact⟨_,rfl,fun _=>List.any_eq_true.2 ⟨_,ags ha,hc⟩,fun _=>Int.natCast_nonneg _⟩
  refine⟨by omega,?_⟩
  refine⟨(k0+1),by omega,(cO (.cons rfl rfl (.cons rfl rfl (.cons rfl rfl (.cons rfl rfl .nil)))) (.cons rfl rfl (aa ab _ _) .nil)),?_⟩
  refine⟨by omega,fun j hl h=>?_⟩
  rcases ag8.1 h with h|rfl
  ·exact hb j hl h
  exact hc
 refine⟨.inr rfl,_,Nf.of [] (az rfl (.cons (abn.tmp rfl) .nil)) rfl ⟨.same rfl (by decide),trivial⟩ .same,?_⟩
 exact⟨_,rfl,fun h=>absurd h (by decide),fun h=>by
  obtain⟨q,hq,e⟩:=List.any_eq_true.1 h
  obtain⟨j,hj,rfl⟩:=ahd hq
  rw[hb j hj (by omega)]at e;cases e⟩
theorem El(K:List IqS)(v:Nat)(hK:∀q∈K,BQ q/\q.cs.length<=1000)(hl:K.length<=1000000):qa Tryz.prog 134 [.sl 1000000 v 0 K.length,.clo 135 []] [(1000000,⟨v,rF iqA K,3,false⟩)] [(1000000,some (⟨v,rF iqA K,3,false⟩))] (fun r=>r=.v (.bool (K.any fun q=>(uk q)))):=by
 obtain⟨_,⟨i7,rfl,ha⟩,hb⟩:=P9 K v hK hl
 refine qa.of_vc jc [7] [] Tryz.func134 rfl Tryz.ntmps134 rfl (by kernel_rfl) (OpG.lk (co (a8 [(1000000,1000000)] Mp hb rfl rfl rfl rfl ⟨sX ab,trivial⟩ ⟨okK,trivial⟩ ⟨aq ab _ _,trivial⟩ rfl rfl rfl rfl (di ab rfl) rfl) ⟨⟨.head _,rfl,rfl⟩,trivial⟩) ?_)
 refine⟨.inr rfl,_,Nf.of [] (az rfl (.cons (abn.tmp rfl) .nil)) rfl ⟨.same rfl (by decide),trivial⟩ .same,?_⟩
 show AV.v (.bool (decide _))=_;rw[show decide (i7≥0)=(K.any fun q=>(uk q))by rw[Bool.eq_iff_iff,decide_eq_true_iff];exact ha]
theorem tupL{fp:List Nat}{η:bi}{cs ds:List AV}(h:FzPL fp η cs ds):FzP fp η (.tup cs) (.tup ds):=FzP.tup h.at.1 h.at.2
theorem aba:bw Tryz.prog 131=true:=by kernel_rfl
theorem aa9:bw Tryz.prog 133=true:=by kernel_rfl
theorem Xe(s:StS)(K:List IqS)(v n:Nat)(R:IqS)(hn1:n<=1000)(hx:0<K.length)(hl:K.length<=1000000)(hK:SyN n K)(hul:s.us.length<=100000)(h:N5 n K s=some R):qa Tryz.prog 133 [.sl 1000000 v 0 K.length,.agg (stA s)] [(1000000,⟨v,rF iqA K,3,false⟩)] [(1000000,some (⟨v,rF iqA K,3,false⟩))] (fun r=>r=.tup [.agg (iqA R),.v (.bool true)]):=by
 obtain⟨ho,hd,hu,Q,hQ,hy,rfl⟩:=wx h
 have ht:=sf (q:=⟨List.replicate n 0,0⟩) ⟨me n,Hm⟩ hQ
 have hQl:Q.cs.length=n:=by rw[ox hQ];simp
 obtain⟨_,rfl,hz⟩:=Oi K v n hx hl (fun q hq=>(hK q hq).2)
 refine qa.of_vc jc [21,34,50,63,64,79,80,86,104,105,122,100086,100122] [5,16,18,26] Tryz.func133 rfl Tryz.ntmps133 rfl (by kernel_rfl) (OpG.lk (co (a8 [(1000000,1000000)] aba hz rfl rfl rfl rfl ⟨sX ab,trivial⟩ ⟨okK,trivial⟩ ⟨aq ab _ _,trivial⟩ rfl rfl rfl rfl (di ab rfl) rfl) ⟨⟨.head _,rfl,rfl⟩,trivial⟩) ?_)
 refine cF (ArgG.mk (j8 (x:=s.d) ho) rfl ?_)
 rintro _ rfl
 refine cB (fun hi=>?_) (fun hi=>?_)
 ·exfalso;have h:=ag3 hi;rw[R8 hd]at h;exact absurd h (by decide)
 have hq31:¬(((sgZ (s.d)):Int)<(1:Int)):=ag2 hi
 refine OpG.nw (cv 2 (len:=n) Tryz.underlying45 ik A4 Db rfl rfl rfl (by omega)) rfl (RegG.via (fun _ h=>cm [] 3 0 0 [.sl 2 0 0 n,.v (.bool false),.v (.slice none 0 0)] (.sl 2 0 0 n::bI 0) rfl rfl (.keep (.keep (.fz (FzP.nil (n:=1)) (.same _)))) rfl h) ?_)
 refine aw (LenG.of ?_)
 refine LpG.on (fun k0:KQ=>(⟨fL [(0,.sl 1000000 v 0 K.length),(3,.ptr 0 0 0),(4,.ptr 1 0 0),(8,.ptr 3 0 0),(37,.tree 3 (s.us.map usA)),(38,.v (.int .i64 ((s.us.length:Nat):Int))),(39,.v (.int .i64 ((k0.k:Nat):Int)))],hLz [(0,⟨0,stA s,0,false⟩),(1,⟨0,[.v (.slice none 0 0),.v (.bool false),.v (.slice none 0 0)],0,false⟩),(2,⟨0,rF bI k0.q.cs,2,false⟩),(3,⟨0,.sl 2 0 0 n::bI k0.q.b,0,false⟩),(1000000,⟨v,rF iqA K,3,false⟩)],4⟩:St)) (fun k0=>(s.us.length-k0.k)) (fun k0=>(k0.k<=s.us.length/\(um K (s.us.drop k0.k) k0.q=some Q/\BQ k0.q/\k0.q.cs.length=n))) (⟨0,⟨List.replicate n 0,0⟩⟩:KQ) (cO (.cons rfl rfl (.cons rfl rfl (.cons rfl rfl (.cons rfl rfl (.cons rfl rfl (.cons rfl rfl (.cons rfl rfl .nil))))))) (.cons rfl rfl rfl (.cons rfl rfl rfl (.cons rfl rfl (aa ae _ _) (.cons (by rfl) rfl rfl (.cons rfl rfl (aa ab _ _) .nil)))))) ⟨ag5 _,⟨hQ,⟨me n,Hm⟩,by simp⟩⟩ ?_
 rintro k0 he
 obtain⟨hle_k0,ha⟩:=he
 refine cL (fun hb=>?_) (fun hm=>?_)
 ·obtain⟨j,g0,hj,q1,hf,hn⟩:=n0 hb ha.1
  replace hf:=oo hf
  have hh:=l3 hf.1
  have hkn:=(hK _ (ags hj)).2
  refine IdxG.of ‹_› (cD (fun hp=>?_) (fun hp=>?_))
  ·exfalso;omega
  refine OpG.lk (cd rfl Tryz.underlying85 rfl rfl rfl) (cB (fun hg=>?_) (fun hg=>?_))
  ·have hr:(s.us[k0.k].i:Int)≥((K.length:Nat):Int):=ag3 hg
   exfalso;have h:=ag3 hg;omega
  have hr:¬((s.us[k0.k].i:Int)≥((K.length:Nat):Int)):=ag2 hg
  refine ArgG.mk (j8 (x:=s.us[k0.k].n) (hu _ (ags hb)).2) rfl ?_
  rintro _ rfl
  refine cB (fun hk=>?_) (fun hk=>?_)
  ·exfalso;have h:=R9.1 (ag3 hk);have:=(hu _ (ags hb)).1;omega
  have hq58:¬(((sgZ (s.us[k0.k].n)):Int)<(0:Int)):=ag2 hk
  refine OpG.lk (av (k:=j) ab Tryz.underlying85 jt rfl rfl g0 hj rfl) (OpG.lk (d5 (k:=j) ab na rfl rfl hj) ?_)
  refine LenG.of (LpG.on (fun k2:Nat=>(⟨fL [(0,.sl 1000000 v 0 K.length),(3,.ptr 0 0 0),(4,.ptr 1 0 0),(8,.ptr 3 0 0),(10,.ptr 4 0 0),(11,.ptr 5 0 0),(37,.tree 3 (s.us.map usA)),(38,.v (.int .i64 ((s.us.length:Nat):Int))),(39,.v (.int .i64 ((k0.k:Nat):Int))),(66,.tree 2 ((K[j].cs).map bI)),(67,.v (.int .i64 ((K[j].cs.length:Nat):Int))),(68,.v (.int .i64 ((k2:Nat):Int)))],hLz [(0,⟨0,stA s,0,false⟩),(1,⟨0,[.v (.slice none 0 0),.v (.bool false),.v (.slice none 0 0)],0,false⟩),(2,⟨0,rF bI (q1.cs.take k2++k0.q.cs.drop k2),2,false⟩),(3,⟨0,.sl 2 0 0 n::bI k0.q.b,0,false⟩),(4,⟨0,usA s.us[k0.k],0,false⟩),(5,⟨0,iqA K[j],0,false⟩),(1000000,⟨v,rF iqA K,3,false⟩)],6⟩:St)) (fun k2=>(K[j].cs.length-k2)) (fun k2=>(k2<=K[j].cs.length)) 0 (cO (.cons rfl rfl (.cons rfl rfl (.cons rfl rfl (.cons rfl rfl (.cons rfl rfl (.cons rfl rfl (.cons rfl rfl (.cons rfl rfl (.cons rfl rfl (.cons rfl rfl (.cons rfl rfl (.cons rfl rfl .nil)))))))))))) (.cons rfl rfl rfl (.cons rfl rfl rfl (.cons (by rfl) rfl (aa ae _ _) (.cons rfl rfl rfl (.cons rfl rfl rfl (.cons rfl rfl rfl (.cons rfl rfl (aa ab _ _) .nil)))))))) (ag5 _) ?_)
  rintro k2 he
  have hle_k2:=he
  refine cL (fun hlt69=>?_) (fun hge69=>?_)
  ·have hs:=hh.2.2 k2 (by omega) (by omega) (by have:=hh.1;omega)
   refine IdxG.of ‹_› (OpG.lk (av (k:=k2) ae Tryz.underlying45 ik rfl rfl rfl (by omega) rfl) ?_)
   refine OpG.lk (kv ae db rfl rfl (xu hh.1 (by omega))) (ArgG.mk (yf (x:=s.us[k0.k].n) (y:=K[j].cs[k2]) (hu _ (ags hb)).2 ((hK _ (ags hj)).1.c _ (ags _)) hs.1) rfl ?_)
   rintro _ rfl
   refine ArgG.mk (wz (x:=k0.q.cs[k2]) (y:=(s.us[k0.k].n*K[j].cs[k2])) (ha.2.1.c _ (ags _)) hs.1 hs.2.1) rfl ?_
   rintro _ rfl
   refine OpG.lk (av (k:=k2) ae Tryz.underlying45 ik rfl rfl rfl (by omega) rfl) (OpG.wr (bl (k:=k2) (o:=0) (v:=k0.q.cs[k2]+s.us[k0.k].n*K[j].cs[k2]) ae ik rfl rfl rfl rfl rfl rfl (by rw[cb hh.1];omega) (by decide) rfl) rfl ?_)
   refine⟨by kernel_rfl,⟨by omega,?_⟩⟩
   refine⟨(k2+1),by omega,(cO (.cons rfl rfl (.cons rfl rfl (.cons rfl rfl (.cons rfl rfl (.cons rfl rfl (.cons rfl rfl (.cons rfl rfl (.cons rfl rfl (.cons rfl rfl (.cons rfl rfl (.cons rfl rfl (.cons rfl rfl .nil)))))))))))) (.cons rfl rfl rfl (.cons rfl rfl rfl (.cons (by(rw[j7 hh.1 (by omega) (fun h=>(hh.2.2 k2 (by omega) (by omega) h).2.2.symm)];rfl)) rfl (aa ae _ _) (.cons rfl rfl rfl (.cons rfl rfl rfl (.cons rfl rfl rfl (.cons rfl rfl (aa ab _ _) .nil)))))))),?_⟩
   omega
  refine RegG.via (fun _ h=>ck 2 ⟨0,rF bI q1.cs,2,false⟩ rfl (by rw[ig hh.1 (by omega)]) h) (aw ?_)
  refine ArgG.mk (yf (x:=s.us[k0.k].n) (y:=K[j].b) (hu _ (ags hb)).2 (hK _ (ags hj)).1.b hf.2.1) rfl ?_
  rintro _ rfl
  refine ArgG.mk (wz (x:=k0.q.b) (y:=(s.us[k0.k].n*K[j].b)) ha.2.1.b hf.2.1 hf.2.2.1) rfl ?_
  rintro _ rfl
  refine⟨by kernel_rfl,⟨by omega,?_⟩⟩
  refine⟨(⟨k0.k+1,q1⟩:KQ),(by show s.us.length-(k0.k+1)<s.us.length-k0.k;omega),(cO (.cons rfl rfl (.cons rfl rfl (.cons rfl rfl (.cons rfl rfl (.cons rfl rfl (.cons rfl rfl (.cons rfl rfl .nil))))))) (.cons rfl rfl rfl (.cons rfl rfl rfl (.cons rfl rfl (aa ae _ _) (.cons (by(rw[hf.2.2.2];rfl)) rfl rfl (.cons rfl rfl (aa ab _ _) .nil)))))),⟨by show k0.k+1<=_;omega,?_⟩⟩
  exact⟨hn,⟨ra hf.1,by rw[hf.2.2.2];exact hf.2.2.1⟩,by show q1.cs.length=n;rw[hh.1];exact ha.2.2⟩
 have hv:=Di hm ha.1
 refine RegG.via (fun _ h=>ck 2 ⟨0,rF bI Q.cs,2,false⟩ rfl (by rw[hv]) h) (RegG.via (fun _ h=>ck 3 ⟨0,.sl 2 0 0 n::bI Q.b,0,false⟩ rfl (by rw[hv]) h) ?_)
 refine aw (LpG.on (fun k4:Nat=>(⟨fL [(3,.ptr 0 0 0),(4,.ptr 1 0 0),(8,.ptr 3 0 0),(99,.sl 2 0 0 n),(100,.v (.int .i64 ((n:Nat):Int))),(101,.v (.int .i64 ((k4:Nat):Int)))],hLz [(0,⟨0,stA s,0,false⟩),(1,⟨0,[.v (.slice none 0 0),.v (.bool false),.v (.slice none 0 0)],0,false⟩),(2,⟨0,rF bI ((Q.cs.map (flD · s.d)).take k4++Q.cs.drop k4),2,false⟩),(3,⟨0,.sl 2 0 0 n::bI Q.b,0,false⟩),(1000000,⟨v,rF iqA K,3,false⟩)],4⟩:St)) (fun k4=>(n-k4)) (fun k4=>(k4<=n)) 0 (cO (.cons rfl rfl (.cons rfl rfl (.cons rfl rfl (.cons rfl rfl (.cons rfl rfl (.cons rfl rfl .nil)))))) (.cons rfl rfl rfl (.cons rfl rfl rfl (.cons (by rfl) rfl (aa ae _ _) (.cons rfl rfl rfl (.cons rfl rfl (aa ab _ _) .nil)))))) (ag5 _) ?_)
 rintro k4 he
 have hle_k4:=he
 refine cL (fun hlt102=>?_) (fun hge102=>?_)
 ·have hw:flM Q.cs[k4] s.d=0:=hy _ (ags (by omega))
  refine OpG.lk (av (k:=k4) ae Tryz.underlying45 ik rfl rfl rfl (by omega) rfl) (OpG.lk (kv ae db rfl rfl (xu (by simp) (by omega))) ?_)
  refine ArgG.mk (nj (x:=Q.cs[k4]) (y:=s.d) (ht.c _ (ags _)) ho (by omega)) rfl ?_
  rintro _ rfl
  refine ArgG.mk (j8 (x:=(flM Q.cs[k4] s.d)) (by rw[hw];exact Hm)) rfl ?_
  rintro _ rfl
  refine cB (fun hc=>?_) (fun hc=>?_)
  ·exfalso;rw[hw]at hc;exact absurd hc (by decide)
  have hq116:((sgZ ((flM Q.cs[k4] s.d))):Int)=(0:Int):=by simpa using hc
  refine OpG.lk (av (k:=k4) ae Tryz.underlying45 ik rfl rfl rfl (by omega) rfl) (OpG.wr (bl (k:=k4) (o:=0) (v:=flD Q.cs[k4] s.d) ae ik rfl rfl rfl rfl rfl rfl (by rw[cb (by simp)];omega) (by decide) rfl) rfl ?_)
  refine⟨by omega,⟨(k4+1),by omega,(cO (.cons rfl rfl (.cons rfl rfl (.cons rfl rfl (.cons rfl rfl (.cons rfl rfl (.cons rfl rfl .nil)))))) (.cons rfl rfl rfl (.cons rfl rfl rfl (.cons (by(rw[j7 (r:=(Q.cs.map (flD · s.d))) (by simp) (by omega) (fun h=>(mv (by omega) h).symm)];rfl)) rfl (aa ae _ _) (.cons rfl rfl rfl (.cons rfl rfl (aa ab _ _) .nil)))))),?_⟩⟩
  omega
 refine RegG.via (fun _ h=>ck 2 ⟨0,rF bI (Q.cs.map (flD · s.d)),2,false⟩ rfl (by rw[ig (by simp) (by omega)]) h) (aw ?_)
 refine ArgG.mk (nj (x:=Q.b) (y:=s.d) ht.b ho (by omega)) rfl ?_
 rintro _ rfl
 refine⟨.inr rfl,_,Nf.of [2] (az rfl (.cons (abn.cellN na rfl rfl trivial rfl rfl rfl) (.cons (abn.tmp rfl) .nil))) rfl ⟨.same rfl (by decide),trivial⟩ (.fz (tupL (.cons (ago (q:=N3 Q s.d) (by simp) rfl (by simp[N3];omega)) (.cons (.pure rfl) .nil)))),?_⟩
 rfl
theorem Mh(K:List IqS)(hK:ip K (fun y=>True))(S:List StS)(n:Nat)(R:List IqS)(hh:n<=1000)(hi:0<K.length)(hl:K.length+S.length<=100000)(hK:SyN n K)(hk:∀s∈S,s.us.length<=100000)(h:jn n S K=some R):PRet Tryz.prog 101 [.tree 3 (K.map iqA),.agg (pfA S)] (fun r=>r=.v (.bool (R.any fun q=>uk q))):=by
 have hKf:ip K (fun _=>True):=⟨by omega,fun _ _=>trivial⟩
 refine ovT [24,35,43,51] [16] Tryz.func101 rfl rfl (ArgG.mk (Oh K n hi (by omega) (fun q hq=>(hK q hq).2)) rfl ?_)
 rintro _ rfl
 refine cF (OpG.mk _ _ _ 2 (a8 [(0,1)] T4 (mh cl_I ab K hi (by omega)) rfl rfl rfl rfl trivial trivial ⟨aq ab _ _,trivial⟩ rfl rfl rfl rfl (di ab rfl) rfl) rfl rfl ?_)
 refine LenG.of (LpG.on (fun k0:KE=>(⟨fL [(3,.ptr 0 0 0),(7,.sl 1 k0.v 0 k0.L.length),(26,.tree 3 (S.map stA)),(27,.v (.int .i64 ((S.length:Nat):Int))),(28,.v (.int .i64 ((k0.k:Nat):Int)))],hLz [(0,⟨0,pfA S,0,false⟩),(1,⟨k0.v,rF iqA k0.L,3,false⟩)],2⟩:St)) (fun k0=>(S.length-k0.k)) (fun k0=>(k0.k<=S.length/\(jn n (S.drop k0.k) k0.L=some R/\k0.v<=k0.k/\k0.L.length=K.length+k0.k/\SyN n k0.L))) (⟨0,K,0⟩:KE) (cO (.cons rfl rfl (.cons rfl rfl (.cons rfl rfl (.cons rfl rfl (.cons rfl rfl .nil))))) (.cons rfl rfl rfl (.cons rfl rfl (aa ab _ _) .nil))) ⟨ag5 _,⟨h,ag7 _,rfl,hK⟩⟩ ?_)
 rintro k0 he
 obtain⟨hle_k0,ha⟩:=he
 refine cL (fun hb=>?_) (fun hc=>?_)
 ·obtain⟨q1,hj,hm⟩:=Ft hb ha.1
  obtain⟨_,rfl,hn⟩:=Xe S[k0.k] k0.L k0.v n q1 hh (by omega) (by omega) ha.2.2.2 (hk _ (ags hb)) hj
  refine IdxG.of ‹_› (OpG.lk (co (a8 [(1000000,1)] aa9 hn rfl rfl rfl rfl ⟨sX ab,trivial⟩ ⟨okK,trivial⟩ ⟨aq ab _ _,trivial⟩ rfl rfl rfl rfl (di ab rfl) rfl) ⟨⟨.head _,rfl,rfl⟩,trivial⟩) ?_)
  refine cF (OpG.mk _ _ _ 5 (xc ab (l:=k0.L) (a:=q1) Tryz.underlying85 jt r6 Al rfl rfl rfl (dv rfl rfl rfl rfl) rfl (by omega) (by omega) (by unfold TV;omega)) rfl rfl ?_)
  refine⟨by omega,⟨(⟨k0.k+1,k0.L++[q1],k0.v+1⟩:KE),(by show S.length-(k0.k+1)<S.length-k0.k;omega),(cO (.cons rfl rfl (.cons rfl rfl (.cons rfl rfl (.cons rfl rfl (.cons rfl rfl .nil))))) (.cons rfl rfl rfl (.cons rfl rfl (aa ab _ _) .nil))),?_⟩⟩
  exact⟨by show k0.k+1<=_;omega,⟨hm,by show k0.v+1<=k0.k+1;omega,by show(_++[_]).length=_;rw[agw,ha.2.2.1];simp only[ahe,ahf];omega,fun q hq=>by rcases agy.1 hq with hq|hq;exact ha.2.2.2 q hq;rw[agx.1 hq];exact M4 hj⟩⟩
 have hg:=Fu hc ha.1
 have hRl:R.length<=100000:=by rw[<-hg];omega
 have hd:SyN n R:=by rw[<-hg];exact ha.2.2.2
 rw[hg]
 try refine LenG.of ?_
 refine cT ?_
 obtain⟨_,rfl,ho⟩:=El R k0.v (fun q hq=>⟨(hd q hq).1,by rw[(hd q hq).2];exact hh⟩) (by omega)
 refine aw (OpG.lk (co (a8 [(1000000,1)] Mq ho rfl rfl rfl rfl ⟨sX ab,trivial⟩ ⟨okK,trivial⟩ ⟨aq ab _ _,trivial⟩ rfl rfl rfl rfl (di ab rfl) rfl) ⟨⟨.head _,rfl,rfl⟩,trivial⟩) ?_)
 exact rV rfl rfl rfl
structure KN1 where
 k:Nat
theorem Sy{x y:Int}(hx:B1 x)(hy:B1 y)(h:B1 (y*x)):PRet Tryz.prog 92 [.agg (bgA (bgI x)),.agg (bgA (bgI y))] (fun q=>q=.agg (bgA (bgI (y*x)))):=by
 have:=Kt hx hy (by rw[Int.mul_comm];exact h)
 rwa [Int.mul_comm]at this
theorem F5{c:PCon}{n:Int}(h:rgC c n)(hs:c.l.cs.length<=100000):PRet Tryz.prog 55 [.agg (cnA c),.v (.int .i64 n)] (fun r=>r=.v (.bool true)):=by
 obtain⟨_,⟨b,rfl,hb⟩,hc⟩:=U0 c n hs
 rw[hb h]at hc;exact PRet.of_call hc
theorem agf:bw Tryz.prog 48=true:=by kernel_rfl
theorem age:bw Tryz.prog 49=true:=by kernel_rfl
theorem aaw:bw Tryz.prog 90=true:=by kernel_rfl
theorem Rs(n:Nat)(hn:n<=1000)(h1:1<=n):qa Tryz.prog 90 [.v (.int .i64 ((n:Nat):Int))] [] [(1,some (⟨0,rF bI (List.replicate n 0),2,false⟩))] (fun q=>q=.agg [.sl 1 0 0 n,.v (.bool false),.v (.slice none 0 0)]):=by
 refine qa.of_vc jc [4] [] Tryz.func90 rfl Tryz.ntmps90 rfl (by kernel_rfl) (OpG.nw (cv 1 (len:=n) Tryz.underlying45 ik A4 Db rfl rfl rfl (by omega)) rfl ?_)
 refine⟨.inr rfl,_,Nf.of [] (az rfl (.cons (abn.cellN na rfl rfl trivial rfl rfl rfl) .nil)) rfl ⟨.same rfl (by decide),trivial⟩ .same,?_⟩
 rfl
theorem ad4(c:PCon)(n:Nat)(hn:n<=512)(he:1<=n)(hc:CnB c)(hr:rgC c ((n:Nat):Int)):PRet Tryz.prog 56 [.agg (cnA c),.v (.int .i64 ((n:Nat):Int))] (fun q=>q=.tree 3 ((ofC n c).map iqA)):=by
 have hln:=hc.ln
 obtain⟨_,rfl,hf⟩:=Rs n (by omega) he
 refine ovT [13,39,51,56,100039] [10] Tryz.func56 rfl rfl (ArgG.mk (F5 hr (aha hc.ln (by decide))) rfl ?_)
 rintro _ rfl
 refine cF (OpG.mk _ _ _ 2 (a8 [(1,1)] aaw hf rfl rfl rfl rfl trivial trivial ⟨aq ae _ _,trivial⟩ rfl rfl rfl rfl (di ae rfl) rfl) rfl rfl ?_)
 refine LpG.on (fun k0:KN1=>(⟨fL [(2,.ptr 0 0 0),(5,.ptr 2 0 0),(6,.v (.int .i64 ((k0.k:Nat):Int)))],hLz [(0,⟨0,cnA c,0,false⟩),(1,⟨0,rF bI (cfN n c.l.cs k0.k),2,false⟩),(2,⟨0,[.sl 1 0 0 n,.v (.bool false),.v (.slice none 0 0)],0,false⟩)],3⟩:St)) (fun k0=>(c.l.cs.length-k0.k)) (fun k0=>(k0.k<=c.l.cs.length/\True)) (⟨0⟩:KN1) (cO (.cons rfl rfl (.cons rfl rfl (.cons rfl rfl .nil))) (.cons rfl rfl rfl (.cons (by rfl) rfl (aa ae _ _) (.cons rfl rfl rfl .nil)))) ⟨ag5 _,trivial⟩ ?_
 rintro k0 hd
 obtain⟨hle_k0,hi_k0⟩:=hd
 refine LenG.of (cL (fun hb=>?_) (fun hge19=>?_))
 ·have hv:=hr.1 k0.k hb
  refine IdxG.of ‹_› (IdxG.of ‹_› ?_)
  refine ArgG.mk (Gd (c.l.cs[k0.k].n) (hc.cs _ (ags ‹_›))) rfl ?_
  rintro _ rfl
  refine OpG.lk (av (k:=c.l.cs[k0.k].v.toNat) ae Tryz.underlying45 ik rfl rfl (Int.toNat_of_nonneg hv.1).symm (by omega) rfl) (OpG.wr (bl (k:=c.l.cs[k0.k].v.toNat) (o:=0) (v:=c.l.cs[k0.k].n) ae ik rfl rfl rfl rfl rfl rfl (by rw[m3];omega) (by decide) rfl) rfl ?_)
  refine⟨by kernel_rfl,⟨by omega,?_⟩⟩
  refine⟨(⟨k0.k+1⟩:KN1),(by show c.l.cs.length-(k0.k+1)<c.l.cs.length-k0.k;omega),(cO (.cons rfl rfl (.cons rfl rfl (.cons rfl rfl .nil))) (.cons rfl rfl rfl (.cons (by(rw[Tw (by omega)];rfl)) rfl (aa ae _ _) (.cons rfl rfl rfl .nil)))),⟨by show k0.k+1<=_;omega,?_⟩⟩
  trivial
 have hg:cfN n c.l.cs k0.k=cfR n c.l.cs:=by rw[show k0.k=c.l.cs.length by omega]
 refine ArgG.mk (Gd c.l.k hc.k) rfl ?_
 rintro _ rfl
 refine ArgG.mk (zo (x:=c.l.k) hc.k) rfl ?_
 rintro _ rfl
 refine RegG.via (fun _ h=>ck 1 ⟨0,rF bI (cfR n c.l.cs),2,false⟩ rfl (by rw[hg]) h) (RegG.via (fun _ h=>cm [1] 2 0 0 (.sl 1 0 0 n::bI (-c.l.k)) (iqA (⟨cfR n c.l.cs,-c.l.k⟩:IqS)) rfl rfl (.fz (b7 ae (agx.2 rfl) rfl m3.symm) (.same _)) rfl h) ?_)
 refine aw (cB (fun ha=>?_) (fun ha=>?_))
 ·refine OpG.nw (bq (cj Tryz.underlying85 jt r6 rfl rfl rfl rfl) (fun η' h=>bc (f:=iqA) (l:=[(⟨cfR n c.l.cs,-c.l.k⟩:IqS)]) (agx.2 rfl) h rfl rfl rfl rfl rfl (fun a _=>⟨rfl,rfl⟩))) rfl ⟨.inr rfl,_,Ng.tmp rfl ⟨[],FzP.pure rfl⟩,?_⟩
  rw[ofC,ag0 (by simpa using ha)];rfl
 refine ArgG.mk (Z9 (⟨cfR n c.l.cs,-c.l.k⟩:IqS) c.l.k hc.k (yn hc.cs) (by show(cfR n c.l.cs).length<=_;rw[m3];omega)) rfl ?_
 rintro _ rfl
 refine OpG.nw (bq (cj Tryz.underlying85 jt r6 rfl rfl rfl rfl) (fun η' h=>bc (f:=iqA) (l:=[(⟨cfR n c.l.cs,-c.l.k⟩:IqS),(⟨By (cfR n c.l.cs),c.l.k⟩:IqS)]) (agx.2 rfl) h rfl rfl rfl rfl rfl (fun a _=>⟨rfl,rfl⟩))) rfl ⟨by kernel_rfl,⟨.inr rfl,_,Ng.tmp rfl ⟨[],FzP.pure rfl⟩,?_⟩⟩
 rw[ofC,ag1 (by simpa using ha)];rfl
theorem Jm(l:List PCon)(hl:ip l (fun y=>True))(n:Nat)(hn:n<=512)(he:1<=n)(hll:l.length<=10000)(hc:∀c∈l,CnB c)(hr:∀c∈l,rgC c ((n:Nat):Int)):PRet Tryz.prog 23 [.tree 3 (l.map cnA),.v (.int .i64 ((n:Nat):Int))] (fun q=>q=.tree 3 ((x3 n l).map iqA)):=by
 refine ovT [28] [] Tryz.func23 rfl rfl (OpG.nw (bo 0 Tryz.underlying85 jt) rfl ?_)
 refine LpG.on (fun k0:KE=>(⟨fL [(0,.tree 3 (l.map cnA)),(1,.v (.int .i64 ((n:Nat):Int))),(5,.sl 0 k0.v 0 k0.L.length),(6,.v (.int .i64 ((k0.k:Nat):Int)))],hLz [(0,⟨k0.v,rF iqA k0.L,3,false⟩)],1⟩:St)) (fun k0=>(l.length-k0.k)) (fun k0=>(k0.k<=l.length/\(k0.L=x3 n (l.take k0.k)/\k0.v<=k0.k))) (⟨0,[],0⟩:KE) (cO (.cons rfl rfl (.cons rfl rfl (.cons rfl rfl (.cons rfl rfl .nil)))) (.cons rfl rfl (aa ab _ _) .nil)) ⟨ag5 _,⟨rfl,ag7 _⟩⟩ ?_
 rintro k0 hd
 have hgr_k0:l.length<=140737488355328:=hl.1
 obtain⟨hle_k0,hb⟩:=hd
 refine LenG.of (cL (fun ha=>?_) (fun hge11=>?_))
 ·have hlL:k0.L.length<=20000:=by rw[hb.1];have:=ow (n:=n) (l:=l.take k0.k);simp at this;omega
  have hl2:=Dv (n:=n) (c:=l[k0.k])
  refine IdxG.of ‹_› (ArgG.mk (F5 (hr _ (ags ha)) (aha (hc _ (ags ha)).ln (by decide))) rfl ?_)
  rintro _ rfl
  refine cF (IdxG.of ‹_› ?_)
  refine ArgG.mk (ad4 l[k0.k] n hn he (hc _ (ags ha)) (hr _ (ags ha))) rfl ?_
  rintro _ rfl
  refine OpG.mk _ _ _ 1 (jm ab (l:=k0.L) (l':=ofC n l[k0.k]) Tryz.underlying85 jt r6 Al rfl rfl rfl rfl (by omega) (by omega) (by unfold TV;omega)) rfl rfl ⟨by omega,⟨(⟨k0.k+1,(k0.L++ofC n l[k0.k]),k0.v+1⟩:KE),(by show l.length-(k0.k+1)<l.length-k0.k;omega),(cO (.cons rfl rfl (.cons rfl rfl (.cons rfl rfl (.cons rfl rfl .nil)))) (.cons rfl rfl (aa ab _ _) .nil)),?_⟩⟩
  exact⟨by show k0.k+1<=_;omega,⟨by show k0.L++_=_;rw[hb.1];exact yw ha,by show k0.v+1<=k0.k+1;omega⟩⟩
 refine⟨.inr rfl,_,Ng.tmp rfl ⟨[0],b7 ab (agx.2 rfl) rfl rfl⟩,?_⟩
 rw[hb.1,ahj (by omega)]
theorem Wm(K:List IqS)(v n:Nat)(hc:0<K.length)(hl:K.length<=1000000)(hn:∀q∈K,q.cs.length=n):qa Tryz.prog 48 [.sl 1000000 v 0 K.length] [(1000000,⟨v,rF iqA K,3,false⟩)] [(1000000,some (⟨v,rF iqA K,3,false⟩))] (fun r=>r=.v (.bool true)):=by
 refine qa.of_vc jc [6,12,13,14,17,18,19] [] Tryz.func48 rfl Tryz.ntmps48 rfl (by kernel_rfl) (LpG.on (fun k0:Nat=>(⟨fL [(0,.sl 1000000 v 0 K.length),(3,.v (.int .i64 ((k0:Nat):Int)))],hLz [(1000000,⟨v,rF iqA K,3,false⟩)],0⟩:St)) (fun k0=>(K.length-k0)) (fun k0=>(k0<=K.length)) 0 (cO (.cons rfl rfl (.cons rfl rfl .nil)) (.cons rfl rfl (aa ab _ _) .nil)) (ag5 _) ?_)
 rintro k0 hd
 have hle_k0:=hd
 refine OpG.lk (cd rfl Tryz.underlying85 rfl rfl rfl) (cL (fun hb=>?_) (fun hge7=>?_))
 ·refine OpG.lk (av (k:=k0) ab Tryz.underlying85 jt rfl rfl rfl hb rfl) (OpG.lk (kc (f:=iqA) (q:=3) (L:=K) wl rfl rfl rfl) ?_)
  refine OpG.lk (j0 (k:=k0) (o:=0) ab vu rfl rfl hb rfl) (LenG.of ?_)
  refine OpG.lk (av (k:=0) ab Tryz.underlying85 jt rfl rfl rfl hc rfl) (OpG.lk (kc (f:=iqA) (q:=3) (L:=K) wl rfl rfl rfl) ?_)
  refine OpG.lk (j0 (k:=0) (o:=0) ab vu rfl rfl hc rfl) (LenG.of ?_)
  refine⟨by kernel_rfl,cB (fun ha=>?_) (fun ha=>?_)⟩
  ·exfalso;rw[hn _ (ags hb),hn _ (ags hc)]at ha;simp at ha
  have hq21:((K[k0].cs.length:Nat):Int)=((K[0].cs.length:Nat):Int):=by simpa using ha
  refine⟨by omega,⟨(k0+1),by omega,(cO (.cons rfl rfl (.cons rfl rfl .nil)) (.cons rfl rfl (aa ab _ _) .nil)),?_⟩⟩
  omega
 refine⟨.inr rfl,_,Nf.of [] (az rfl (.cons (abn.tmp rfl) .nil)) rfl ⟨.same rfl (by decide),trivial⟩ .same,?_⟩
 rfl
theorem Q5(s:StS)(K:List IqS)(v n:Nat)(R:IqS)(h1:1<=n)(hz:n<=1000)(hp:0<K.length)(hl:K.length<=1000000)(hK:SyN n K)(hul:s.us.length<=100000)(h:N5 n K s=some R):qa Tryz.prog 49 [.sl 1000000 v 0 K.length,.agg (stA s)] [(1000000,⟨v,rF iqA K,3,false⟩)] [(1000000,some (⟨v,rF iqA K,3,false⟩))] (fun r=>r=.tup [.agg (iqA R),.v (.bool true)]):=by
 obtain⟨hr,hd,hu,Q,hQ,g0,rfl⟩:=wx h
 have hw:=sf (q:=⟨List.replicate n 0,0⟩) ⟨me n,Hm⟩ hQ
 have hQl:Q.cs.length=n:=by rw[ox hQ];simp
 obtain⟨_,rfl,g1⟩:=Wm K v n hp hl (fun q hq=>(hK q hq).2)
 have h0n:=(hK _ (ags hp)).2
 obtain⟨_,rfl,g2⟩:=Rs n hz h1
 refine qa.of_vc jc [17,27,30,31,32,35,55,68,69,81,82,92,111,112,127,100092,100127] [6,7,18,19,26] Tryz.func49 rfl Tryz.ntmps49 rfl (by kernel_rfl) (OpG.lk (co (a8 [(1000000,1000000)] agf g1 rfl rfl rfl rfl ⟨sX ab,trivial⟩ ⟨okK,trivial⟩ ⟨aq ab _ _,trivial⟩ rfl rfl rfl rfl (di ab rfl) rfl) ⟨⟨.head _,rfl,rfl⟩,trivial⟩) ?_)
 refine cF (ArgG.mk (lj (x:=s.d) hr) rfl ?_)
 rintro _ rfl
 refine cB (fun hi=>?_) (fun hi=>?_)
 ·exfalso;have h:=ag3 hi;rw[R8 hd]at h;exact absurd h (by decide)
 have hq24:¬(((sgZ (s.d)):Int)<=(0:Int)):=ag2 hi
 refine OpG.lk (cd rfl Tryz.underlying85 rfl rfl rfl) (cB (fun hk=>?_) (fun hk=>?_))
 ·have hq28:((K.length:Nat):Int)>(0:Int):=ag3 hk
  refine OpG.lk (av (k:=0) ab Tryz.underlying85 jt rfl rfl rfl hp rfl) (OpG.lk (kc (f:=iqA) (q:=3) (L:=K) wl rfl rfl rfl) ?_)
  refine OpG.lk (j0 (k:=0) (o:=0) ab vu rfl rfl hp rfl) (LenG.of ?_)
  rw[h0n]
  refine aw (OpG.mk _ _ _ 3 (a8 [(1,2)] aaw g2 rfl rfl rfl rfl trivial trivial ⟨aq ae _ _,trivial⟩ rfl rfl rfl rfl (di ae rfl) rfl) rfl rfl ?_)
  refine RegG.via (fun _ h=>cm [] 3 0 0 [.sl 2 0 0 n,.v (.bool false),.v (.slice none 0 0)] (.sl 2 0 0 n::bI 0) rfl rfl (.keep (.keep (.fz (FzP.nil (n:=1)) (.same _)))) rfl h) (aw ?_)
  refine LpG.on (fun k0:KQ=>(⟨fL [(0,.sl 1000000 v 0 K.length),(3,.ptr 0 0 0),(4,.ptr 1 0 0),(6,.v (.int .i64 ((n:Nat):Int))),(7,.ptr 3 0 0),(8,.v (.int .i64 ((k0.k:Nat):Int)))],hLz [(0,⟨0,stA s,0,false⟩),(1,⟨0,[.v (.slice none 0 0),.v (.bool false),.v (.slice none 0 0)],0,false⟩),(2,⟨0,rF bI k0.q.cs,2,false⟩),(3,⟨0,.sl 2 0 0 n::bI k0.q.b,0,false⟩),(1000000,⟨v,rF iqA K,3,false⟩)],4⟩:St)) (fun k0=>(s.us.length-k0.k)) (fun k0=>(k0.k<=s.us.length/\(um K (s.us.drop k0.k) k0.q=some Q/\BQ k0.q/\k0.q.cs.length=n))) (⟨0,⟨List.replicate n 0,0⟩⟩:KQ) (cO (.cons rfl rfl (.cons rfl rfl (.cons rfl rfl (.cons rfl rfl (.cons rfl rfl (.cons rfl rfl .nil)))))) (.cons rfl rfl rfl (.cons rfl rfl rfl (.cons rfl rfl (aa ae _ _) (.cons (by rfl) rfl rfl (.cons rfl rfl (aa ab _ _) .nil)))))) ⟨ag5 _,⟨hQ,⟨me n,Hm⟩,by simp⟩⟩ ?_
  rintro k0 he
  obtain⟨hle_k0,ha⟩:=he
  refine LenG.of (cL (fun hb=>?_) (fun hn=>?_))
  ·obtain⟨j,g3,hj,q1,hf,ho⟩:=n0 hb ha.1
   replace hf:=oo hf
   have hh:=l3 hf.1
   have hkn:=(hK _ (ags hj)).2
   refine IdxG.of ‹_› (cD (fun hs=>?_) (fun hs=>?_))
   ·exfalso;omega
   refine OpG.lk (cd rfl Tryz.underlying85 rfl rfl rfl) (cB (fun hg=>?_) (fun hg=>?_))
   ·have ht:(s.us[k0.k].i:Int)≥((K.length:Nat):Int):=ag3 hg
    exfalso;have h:=ag3 hg;omega
   have ht:¬((s.us[k0.k].i:Int)≥((K.length:Nat):Int)):=ag2 hg
   refine ArgG.mk (lj (x:=s.us[k0.k].n) (hu _ (ags hb)).2) rfl ?_
   rintro _ rfl
   refine cB (fun hm=>?_) (fun hm=>?_)
   ·exfalso;have h:=R9.1 (ag3 hm);have:=(hu _ (ags hb)).1;omega
   have hq63:¬(((sgZ (s.us[k0.k].n)):Int)<(0:Int)):=ag2 hm
   refine OpG.lk (av (k:=j) ab Tryz.underlying85 jt rfl rfl g3 hj rfl) (OpG.lk (d5 (k:=j) ab na rfl rfl hj) ?_)
   refine LpG.on (fun k2:KN1=>(⟨fL [(0,.sl 1000000 v 0 K.length),(3,.ptr 0 0 0),(4,.ptr 1 0 0),(6,.v (.int .i64 ((n:Nat):Int))),(7,.ptr 3 0 0),(8,.v (.int .i64 ((k0.k:Nat):Int))),(9,.ptr 4 0 0),(10,.ptr 5 0 0),(11,.v (.int .i64 ((k2.k:Nat):Int)))],hLz [(0,⟨0,stA s,0,false⟩),(1,⟨0,[.v (.slice none 0 0),.v (.bool false),.v (.slice none 0 0)],0,false⟩),(2,⟨0,rF bI (q1.cs.take k2.k++k0.q.cs.drop k2.k),2,false⟩),(3,⟨0,.sl 2 0 0 n::bI k0.q.b,0,false⟩),(4,⟨0,usA s.us[k0.k],0,false⟩),(5,⟨0,iqA K[j],0,false⟩),(1000000,⟨v,rF iqA K,3,false⟩)],6⟩:St)) (fun k2=>(n-k2.k)) (fun k2=>(k2.k<=n/\True)) (⟨0⟩:KN1) (cO (.cons rfl rfl (.cons rfl rfl (.cons rfl rfl (.cons rfl rfl (.cons rfl rfl (.cons rfl rfl (.cons rfl rfl (.cons rfl rfl (.cons rfl rfl .nil))))))))) (.cons rfl rfl rfl (.cons rfl rfl rfl (.cons (by rfl) rfl (aa ae _ _) (.cons rfl rfl rfl (.cons rfl rfl rfl (.cons rfl rfl rfl (.cons rfl rfl (aa ab _ _) .nil)))))))) ⟨ag5 _,trivial⟩ ?_
   rintro k2 he
   obtain⟨hle_k2,hi_k2⟩:=he
   refine cL (fun hlt72=>?_) (fun hge72=>?_)
   ·have hv:=hh.2.2 k2.k (by omega) (by omega) (by have:=hh.1;omega)
    refine OpG.lk (av (k:=k2.k) ae Tryz.underlying45 ik rfl rfl rfl (by omega) rfl) (OpG.lk (kv ae db rfl rfl (xu hh.1 (by omega))) ?_)
    refine IdxG.of (by omega) (ArgG.mk (Sy (x:=K[j].cs[k2.k]) (y:=s.us[k0.k].n) ((hK _ (ags hj)).1.c _ (ags _)) (hu _ (ags hb)).2 hv.1) rfl ?_)
    rintro _ rfl
    refine ArgG.mk (w5 (x:=k0.q.cs[k2.k]) (y:=(s.us[k0.k].n*K[j].cs[k2.k])) (ha.2.1.c _ (ags _)) hv.1 hv.2.1) rfl ?_
    rintro _ rfl
    refine OpG.lk (av (k:=k2.k) ae Tryz.underlying45 ik rfl rfl rfl (by omega) rfl) (OpG.wr (bl (k:=k2.k) (o:=0) (v:=k0.q.cs[k2.k]+s.us[k0.k].n*K[j].cs[k2.k]) ae ik rfl rfl rfl rfl rfl rfl (by rw[cb hh.1];omega) (by decide) rfl) rfl ?_)
    refine⟨by kernel_rfl,⟨by omega,?_⟩⟩
    refine⟨(⟨k2.k+1⟩:KN1),(by show n-(k2.k+1)<n-k2.k;omega),(cO (.cons rfl rfl (.cons rfl rfl (.cons rfl rfl (.cons rfl rfl (.cons rfl rfl (.cons rfl rfl (.cons rfl rfl (.cons rfl rfl (.cons rfl rfl .nil))))))))) (.cons rfl rfl rfl (.cons rfl rfl rfl (.cons (by(rw[j7 hh.1 (by omega) (fun h=>(hh.2.2 k2.k (by omega) (by omega) h).2.2.symm)];rfl)) rfl (aa ae _ _) (.cons rfl rfl rfl (.cons rfl rfl rfl (.cons rfl rfl rfl (.cons rfl rfl (aa ab _ _) .nil)))))))),⟨by show k2.k+1<=_;omega,?_⟩⟩
    trivial
   refine RegG.via (fun _ h=>ck 2 ⟨0,rF bI q1.cs,2,false⟩ rfl (by rw[ig hh.1 (by omega)]) h) (aw ?_)
   refine ArgG.mk (Sy (x:=K[j].b) (y:=s.us[k0.k].n) (hK _ (ags hj)).1.b (hu _ (ags hb)).2 hf.2.1) rfl ?_
   rintro _ rfl
   refine ArgG.mk (w5 (x:=k0.q.b) (y:=(s.us[k0.k].n*K[j].b)) ha.2.1.b hf.2.1 hf.2.2.1) rfl ?_
   rintro _ rfl
   refine⟨by kernel_rfl,⟨by omega,?_⟩⟩
   refine⟨(⟨k0.k+1,q1⟩:KQ),(by show s.us.length-(k0.k+1)<s.us.length-k0.k;omega),(cO (.cons rfl rfl (.cons rfl rfl (.cons rfl rfl (.cons rfl rfl (.cons rfl rfl (.cons rfl rfl .nil)))))) (.cons rfl rfl rfl (.cons rfl rfl rfl (.cons rfl rfl (aa ae _ _) (.cons (by(rw[hf.2.2.2];rfl)) rfl rfl (.cons rfl rfl (aa ab _ _) .nil)))))),⟨by show k0.k+1<=_;omega,?_⟩⟩
   exact⟨ho,⟨ra hf.1,by rw[hf.2.2.2];exact hf.2.2.1⟩,by show q1.cs.length=n;rw[hh.1];exact ha.2.2⟩
  have hx:=Di hn ha.1
  refine RegG.via (fun _ h=>ck 2 ⟨0,rF bI Q.cs,2,false⟩ rfl (by rw[hx]) h) (RegG.via (fun _ h=>ck 3 ⟨0,.sl 2 0 0 n::bI Q.b,0,false⟩ rfl (by rw[hx]) h) ?_)
  refine aw (LpG.on (fun k4:KN1=>(⟨fL [(3,.ptr 0 0 0),(4,.ptr 1 0 0),(6,.v (.int .i64 ((n:Nat):Int))),(7,.ptr 3 0 0),(12,.v (.int .i64 ((k4.k:Nat):Int)))],hLz [(0,⟨0,stA s,0,false⟩),(1,⟨0,[.v (.slice none 0 0),.v (.bool false),.v (.slice none 0 0)],0,false⟩),(2,⟨0,rF bI ((Q.cs.map (flD · s.d)).take k4.k++Q.cs.drop k4.k),2,false⟩),(3,⟨0,.sl 2 0 0 n::bI Q.b,0,false⟩),(1000000,⟨v,rF iqA K,3,false⟩)],4⟩:St)) (fun k4=>(n-k4.k)) (fun k4=>(k4.k<=n/\True)) (⟨0⟩:KN1) (cO (.cons rfl rfl (.cons rfl rfl (.cons rfl rfl (.cons rfl rfl (.cons rfl rfl .nil))))) (.cons rfl rfl rfl (.cons rfl rfl rfl (.cons (by rfl) rfl (aa ae _ _) (.cons rfl rfl rfl (.cons rfl rfl (aa ab _ _) .nil)))))) ⟨ag5 _,trivial⟩ ?_)
  rintro k4 he
  obtain⟨hle_k4,hi_k4⟩:=he
  refine cL (fun hlt104=>?_) (fun hge104=>?_)
  ·have hy:flM Q.cs[k4.k] s.d=0:=g0 _ (ags (by omega))
   refine OpG.lk (av (k:=k4.k) ae Tryz.underlying45 ik rfl rfl rfl (by omega) rfl) (OpG.lk (kv ae db rfl rfl (xu (by simp) (by omega))) ?_)
   refine ArgG.mk (Eg (x:=Q.cs[k4.k]) (y:=s.d) (hw.c _ (ags _)) hr (by omega)) rfl ?_
   rintro _ rfl
   refine⟨by kernel_rfl,ArgG.mk (lj (x:=(flM Q.cs[k4.k] s.d)) (by rw[hy];exact Hm)) rfl ?_⟩
   rintro _ rfl
   refine cB (fun hc=>?_) (fun hc=>?_)
   ·exfalso;rw[hy]at hc;exact absurd hc (by decide)
   have hq121:((sgZ ((flM Q.cs[k4.k] s.d))):Int)=(0:Int):=by simpa using hc
   refine OpG.lk (av (k:=k4.k) ae Tryz.underlying45 ik rfl rfl rfl (by omega) rfl) (OpG.wr (bl (k:=k4.k) (o:=0) (v:=flD Q.cs[k4.k] s.d) ae ik rfl rfl rfl rfl rfl rfl (by rw[cb (by simp)];omega) (by decide) rfl) rfl ?_)
   refine⟨by omega,⟨(⟨k4.k+1⟩:KN1),(by show n-(k4.k+1)<n-k4.k;omega),(cO (.cons rfl rfl (.cons rfl rfl (.cons rfl rfl (.cons rfl rfl (.cons rfl rfl .nil))))) (.cons rfl rfl rfl (.cons rfl rfl rfl (.cons (by(rw[j7 (r:=(Q.cs.map (flD · s.d))) (by simp) (by omega) (fun h=>(mv (by omega) h).symm)];rfl)) rfl (aa ae _ _) (.cons rfl rfl rfl (.cons rfl rfl (aa ab _ _) .nil)))))),?_⟩⟩
   refine⟨by show k4.k+1<=_;omega,?_⟩
   trivial
  refine RegG.via (fun _ h=>ck 2 ⟨0,rF bI (Q.cs.map (flD · s.d)),2,false⟩ rfl (by rw[ig (by simp) (by omega)]) h) (aw ?_)
  refine ArgG.mk (Eg (x:=Q.b) (y:=s.d) hw.b hr (by omega)) rfl ?_
  rintro _ rfl
  refine⟨.inr rfl,_,Nf.of [2] (az rfl (.cons (abn.cellN na rfl rfl trivial rfl rfl rfl) (.cons (abn.tmp rfl) .nil))) rfl ⟨.same rfl (by decide),trivial⟩ (.fz (tupL (.cons (ago (q:=N3 Q s.d) (by simp) rfl (by simp[N3];omega)) (.cons (.pure rfl) .nil)))),?_⟩
  rfl
 exfalso;have h:=ag2 hk;omega
theorem Qu(K:List IqS)(hK:ip K (fun y=>True))(S:List StS)(n:Nat)(R:List IqS)(h1:1<=n)(hn:n<=1000)(hp:0<K.length)(hl:K.length+S.length<=100000)(hk:SyN n K)(hr:∀s∈S,s.us.length<=100000)(h:jn n S K=some R):PRet Tryz.prog 22 [.tree 3 (K.map iqA),.agg (pfA S)] (fun r=>r=.v (.bool (R.any fun q=>uk q))):=by
 have hs:ip K (fun _=>True):=⟨by omega,fun _ _=>trivial⟩
 have ht:evQ K=true:=Ti fun j hj=>by rw[(hk _ (ags hj)).2,(hk _ (ags hp)).2]
 refine ovT [19,34,42,49,55,56] [] Tryz.func22 rfl rfl (ArgG.mk (aae K hs (by omega)) rfl ?_)
 rintro _ rfl
 refine cB (fun he=>?_) (fun he=>?_)
 ·exfalso;rw[ht]at he;cases he
 refine OpG.nw (bo 1 Tryz.underlying85 jt) rfl (OpG.mk _ _ _ 2 (jm ab (l:=([]:List IqS)) (l':=K) Tryz.underlying85 jt r6 Al rfl rfl rfl rfl (by simp only[ahf];omega) (by simp only[ahf];omega) (by unfold TV;omega)) rfl rfl ?_)
 refine LpG.on (fun k0:KE=>(⟨fL [(3,.ptr 0 0 0),(5,.sl 1 k0.v 0 k0.L.length),(6,.v (.int .i64 ((k0.k:Nat):Int)))],hLz [(0,⟨0,pfA S,0,false⟩),(1,⟨k0.v,rF iqA k0.L,3,false⟩)],2⟩:St)) (fun k0=>(S.length-k0.k)) (fun k0=>(k0.k<=S.length/\(jn n (S.drop k0.k) k0.L=some R/\k0.v<=k0.k+1/\k0.L.length=K.length+k0.k/\SyN n k0.L))) (⟨0,K,1⟩:KE) (cO (.cons rfl rfl (.cons rfl rfl (.cons rfl rfl .nil))) (.cons rfl rfl rfl (.cons rfl rfl (aa ab _ _) .nil))) ⟨ag5 _,⟨h,ag7 _,rfl,hk⟩⟩ ?_
 rintro k0 hf
 obtain⟨hle_k0,ha⟩:=hf
 refine LenG.of (cL (fun hc=>?_) (fun hh=>?_))
 ·obtain⟨q1,ho,hu⟩:=Ft hc ha.1
  obtain⟨_,rfl,hv⟩:=Q5 S[k0.k] k0.L k0.v n q1 h1 hn (by omega) (by omega) ha.2.2.2 (hr _ (ags hc)) ho
  refine IdxG.of ‹_› (OpG.lk (co (a8 [(1000000,1)] age hv rfl rfl rfl rfl ⟨sX ab,trivial⟩ ⟨okK,trivial⟩ ⟨aq ab _ _,trivial⟩ rfl rfl rfl rfl (di ab rfl) rfl) ⟨⟨.head _,rfl,rfl⟩,trivial⟩) ?_)
  refine cF (OpG.mk _ _ _ 4 (xc ab (l:=k0.L) (a:=q1) Tryz.underlying85 jt r6 Al rfl rfl rfl (dv rfl rfl rfl rfl) rfl (by omega) (by omega) (by unfold TV;omega)) rfl rfl ?_)
  refine⟨by omega,⟨(⟨k0.k+1,k0.L++[q1],k0.v+1⟩:KE),(by show S.length-(k0.k+1)<S.length-k0.k;omega),(cO (.cons rfl rfl (.cons rfl rfl (.cons rfl rfl .nil))) (.cons rfl rfl rfl (.cons rfl rfl (aa ab _ _) .nil))),?_⟩⟩
  exact⟨by show k0.k+1<=_;omega,⟨hu,by show k0.v+1<=k0.k+1+1;omega,by show(_++[_]).length=_;rw[agw,ha.2.2.1];simp only[ahe,ahf];omega,fun q hq=>by rcases agy.1 hq with hq|hq;exact ha.2.2.2 q hq;rw[agx.1 hq];exact M4 ho⟩⟩
 have hm:=Fu hh ha.1
 have hRl:R.length<=100000:=by rw[<-hm];omega
 have hi:SyN n R:=by rw[<-hm];exact ha.2.2.2
 rw[hm]
 try refine LenG.of ?_
 refine cT (LpG.on (fun k2:KN1=>(⟨fL [(5,.sl 1 k0.v 0 R.length),(9,.v (.int .i64 ((k2.k:Nat):Int)))],hLz [(1,⟨k0.v,rF iqA R,3,false⟩)],2⟩:St)) (fun k2=>(R.length-k2.k)) (fun k2=>(k2.k<=R.length/\(∀j (hj:j<R.length),j<k2.k->uk R[j]=false))) (⟨0⟩:KN1) (cO (.cons rfl rfl (.cons rfl rfl .nil)) (.cons rfl rfl (aa ab _ _) .nil)) ⟨ag5 _,fun j hj h=>absurd h (ag6 j)⟩ ?_)
 rintro k2 hf
 obtain⟨hle_k2,hd⟩:=hf
 refine OpG.lk (cd rfl Tryz.underlying85 rfl rfl rfl) (cL (fun hb=>?_) (fun hge50=>?_))
 ·refine OpG.lk (av (k:=k2.k) ab Tryz.underlying85 jt rfl rfl rfl hb rfl) (OpG.lk (d5 (k:=k2.k) ab na rfl rfl hb) ?_)
  refine ArgG.mk (agj R[k2.k] (hi _ (ags hb)).1 (by rw[(hi _ (ags hb)).2];exact hn)) rfl ?_
  rintro _ rfl
  refine cB (fun hg=>?_) (fun hg=>?_)
  ·refine rV rfl rfl ?_
   rw[show R.any (fun q=>uk q)=true from List.any_eq_true.2 ⟨_,ags hb,hg⟩];rfl
  refine⟨by omega,⟨(⟨k2.k+1⟩:KN1),(by show R.length-(k2.k+1)<R.length-k2.k;omega),(cO (.cons rfl rfl (.cons rfl rfl .nil)) (.cons rfl rfl (aa ab _ _) .nil)),?_⟩⟩
  refine⟨by show k2.k+1<=_;omega,?_⟩
  intro j hj h
  rcases ag8.1 h with h|rfl
  ·exact hd j hj h
  exact hg
 refine rV rfl rfl ?_
 rw[show R.any (fun q=>uk q)=false from List.any_eq_false.2 fun q hq=>by obtain⟨j,hj,rfl⟩:=ahd hq;rw[hd j hj (by omega)];exact ahp];rfl
set_option maxRecDepth 100000
section
variable{s s':OSt}{f k o:Nat}{x y:ItS}{R:Option (OSt×Int×Int×Bool×Bool)}
theorem Y5(hx:s.I[k]? =some x)(ho:uh s x.g=some o)(hk:o<k)(h:ia s f (k+1)=R):ia s (f+1) k=R:=by
 rw[ia,hx];simp only;rw[ho];simp only;rw[ag1 hk];exact h
theorem Sl(hx:s.I[k]? =some x)(ho:uh s x.g=some o)(hk:¬o<k)(hy:s.I[o]? =some y)(hb:B1 (bnd s x+bnd s y))(hp:0<bnd s x+bnd s y)(h:ia s f (k+1)=R):ia s (f+1) k=R:=by
 rw[ia,hx];simp only;rw[ho];simp only;rw[ag0 hk,hy];simp only;rw[ag1 hb,ag0 (by omega),ag0 (by omega)];exact h
theorem Sm(hx:s.I[k]? =some x)(ho:uh s x.g=some o)(hk:¬o<k)(hy:s.I[o]? =some y)(hp:bnd s x+bnd s y=0):ia s (f+1) k=some (s,(k:Int),(o:Int),true,true):=by
 rw[ia,hx];simp only;rw[ho];simp only;rw[ag0 hk,hy];simp only;rw[hp];rfl
theorem F9(hx:s.I[k]? =some x)(ho:uh s x.g=some o)(hk:¬o<k)(hy:s.I[o]? =some y)(hb:B1 (bnd s x+bnd s y))(hp:bnd s x+bnd s y<0){b:Bool}(h:xf s (List.replicate s.n 0) [⟨x.a,1⟩,⟨y.a,1⟩]=some (s',b)):ia s (f+1) k=some (s',0,0,false,false):=by
 rw[ia,hx];simp only;rw[ho];simp only;rw[ag0 hk,hy];simp only;rw[ag1 hb,ag1 hp,h]
end
section
variable{s s' t:OSt}{g r1 r2 r3:List Int}{i j:Nat}{n1 n2 d bd:Int}{a b:IqS}
theorem Cl(hd:dOf g=d)(hz:SzS s)(hi:s.K[i]? =some a)(hj:s.K[j]? =some b)(h1:n8 n1 (List.replicate s.n 0) a.cs=some r1)(h2:n8 n2 r1 b.cs=some r2)(b1:B1 (n1*a.b))(b3:B1 (n2*b.b))(b4:B1 (n1*a.b+n2*b.b))(hr:r2.map (flD · d)=r3)(hb:flD (n1*a.b+n2*b.b) d=bd):
 Cm s g [⟨(i:Int),n1⟩,⟨(j:Int),n2⟩]=some ({s with S:=s.S++[⟨[⟨(i:Int),n1⟩,⟨(j:Int),n2⟩],d⟩],vS:=s.vS+1,K:=s.K++[⟨r3,bd⟩],vK:=s.vK+1},⟨(s.K.length:Int),g.map (flD · d)⟩,decide (k9 g≠0),decide (k9 g≠0)||decide (0<=bd)):=by
 have e1:Hq ⟨List.replicate s.n 0,0⟩ n1 a=some ⟨r1,n1*a.b⟩:=by
  unfold Hq;rw[h1];simp only;rw[ag1 ⟨b1,by rw[Int.zero_add];exact b1⟩,Int.zero_add]
 have e2:Hq ⟨r1,n1*a.b⟩ n2 b=some ⟨r2,n1*a.b+n2*b.b⟩:=by
  unfold Hq;rw[h2];simp only;rw[ag1 ⟨b3,b4⟩]
 have e3:um s.K [⟨(i:Int),n1⟩,⟨(j:Int),n2⟩] ⟨List.replicate s.n 0,0⟩=some ⟨r2,n1*a.b+n2*b.b⟩:=by
  rw[um,ag1 (Int.natCast_nonneg i),Int.toNat_natCast,hi];simp only;rw[e1];simp only
  rw[um,ag1 (Int.natCast_nonneg j),Int.toNat_natCast,hj];simp only;rw[e2];simp only
  rw[um]
 have e4:R2 s.n s.K [⟨(i:Int),n1⟩,⟨(j:Int),n2⟩] d=some ⟨r3,bd⟩:=by
  unfold R2;rw[e3,<-hr,<-hb];rfl
 unfold Cm
 rw[ag1 (.inl (by simp)),ag1 hz,hd,e4]
theorem H7{us:List UsS}{x:ItS}{ok:Bool}(h:Cm s g us=some (s',x,true,ok))(ha:xg s' x=some t):xf s g us=some (t,ok):=by
 unfold xf;rw[h];simp only[if_true];rw[ha]
theorem Pc{us:List UsS}{x:ItS}{ok:Bool}(h:Cm s g us=some (s',x,false,ok)):xf s g us=some (s',ok):=by
 unfold xf;rw[h];rfl
theorem tb{x:ItS}(hz:SzS s)(h:s.I.findIdx? (fun y=>decide (x.g=y.g))=none):xg s x=some {s with I:=s.I++[x],vI:=s.vI+1}:=by
 unfold xg;rw[ag1 hz,h]
theorem Ho{x y:ItS}{k:Nat}(hz:SzS s)(h:s.I.findIdx? (fun y=>decide (x.g=y.g))=some k)(hy:s.I.getD k ⟨0,[]⟩=y)(hl:bnd s x<bnd s y):xg s x=some {s with I:=s.I.set k x}:=by
 unfold xg;rw[ag1 hz,h];simp only;rw[hy,ag1 hl]
theorem Hp{x y:ItS}{k:Nat}(hz:SzS s)(h:s.I.findIdx? (fun y=>decide (x.g=y.g))=some k)(hy:s.I.getD k ⟨0,[]⟩=y)(hl:¬bnd s x<bnd s y):xg s x=some s:=by
 unfold xg;rw[ag1 hz,h];simp only;rw[hy,ag0 hl]
end
section
variable{s s':OSt}{i j p k:Nat}{up down x:ItS}{L:List ItS}{R:Option (OSt×Bool)}
theorem og(hk:k=i\/k=j)(h:eqF i j p up down L (k+1) s=R):eqF i j p up down (x::L) k s=R:=by
 rw[eqF,ag1 hk];exact h
theorem tz(hk:¬(k=i\/k=j))(hc:x.g[p]? =some 0)(ha:xg s x=some s')(h:eqF i j p up down L (k+1) s'=R):eqF i j p up down (x::L) k s=R:=by
 rw[eqF,ag0 hk,hc];simp only[if_true];rw[ha];exact h
theorem tw{c:Int}{u:UsS}(hk:¬(k=i\/k=j))(hc:x.g[p]? =some c)(h0:c≠0)(hu:(if c<0 then(⟨up.a,-c⟩:UsS)else⟨down.a,c⟩)=u)(ha:xf s (x.g.set p 0) [⟨x.a,1⟩,u]=some (s',true))(h:eqF i j p up down L (k+1) s'=R):eqF i j p up down (x::L) k s=R:=by
 rw[eqF,ag0 hk,hc];simp only;rw[ag0 h0,hu,ha];exact h
end
theorem O4{s s':OSt}{f:Nat}{S:List StS}(h:nm s=some (s',0,0,false,false))(hS:s'.S=S):H5 (f+1) s=some S:=by
 rw[H5,h];simp only;rw[hS]
theorem O5{s s2:OSt}{f i j:Nat}{S:List StS}(h:nm s=some (s,(i:Int),(j:Int),true,true))(he:eqO s i j=some (s2,true))(hr:H5 f s2=some S):H5 (f+1) s=some S:=by
 rw[H5,h];simp only;rw[Int.toNat_natCast,Int.toNat_natCast,he];exact hr
theorem pp(x:Int):flD x 1=x:=by rw[(Lr (by decide)).1,Int.ediv_one]
abbrev nh(m z:Int):List IqS:=[⟨[0,0,-1,0],0⟩,⟨[0,0,1,0],m⟩,⟨[0,0,0,-1],0⟩,⟨[0,0,0,1],m⟩,⟨[0,0,1,1],z⟩,⟨[0,0,-1,-1],-z⟩]
abbrev S1(m z:Int):OSt:={nuS 4 (nh m z)with I:=[⟨0,[0,0,-1,0]⟩,⟨1,[0,0,1,0]⟩,⟨2,[0,0,0,-1]⟩,⟨3,[0,0,0,1]⟩,⟨4,[0,0,1,1]⟩,⟨5,[0,0,-1,-1]⟩],vI:=6}
theorem Q0(m z:Int):acg (nuS 4 (nh m z))=some (S1 m z,true):=by kernel_rfl
section
variable{m z:Int}
theorem So(hm:1<=m)(hm3:m<=3):nm (S1 m z)=some (S1 m z,((4:Nat):Int),((5:Nat):Int),true,true):=by
 have e:nm (S1 m z)=ia (S1 m z) 6 0:=by kernel_rfl
 rw[e]
 have h0:bnd (S1 m z) ⟨0,[0,0,-1,0]⟩+bnd (S1 m z) ⟨1,[0,0,1,0]⟩=m:=Int.zero_add m
 have h2:bnd (S1 m z) ⟨2,[0,0,0,-1]⟩+bnd (S1 m z) ⟨3,[0,0,0,1]⟩=m:=Int.zero_add m
 refine Sl (x:=⟨0,[0,0,-1,0]⟩) (y:=⟨1,[0,0,1,0]⟩) (o:=1) rfl (by kernel_rfl) (by decide) rfl (by rw[h0];omega) (by rw[h0];omega) ?_
 refine Y5 (x:=⟨1,[0,0,1,0]⟩) (o:=0) rfl (by kernel_rfl) (by decide) ?_
 refine Sl (x:=⟨2,[0,0,0,-1]⟩) (y:=⟨3,[0,0,0,1]⟩) (o:=3) rfl (by kernel_rfl) (by decide) rfl (by rw[h2];omega) (by rw[h2];omega) ?_
 refine Y5 (x:=⟨3,[0,0,0,1]⟩) (o:=2) rfl (by kernel_rfl) (by decide) ?_
 exact Sm (x:=⟨4,[0,0,1,1]⟩) (y:=⟨5,[0,0,-1,-1]⟩) rfl (by kernel_rfl) (by decide) rfl (Int.add_right_neg z)
abbrev S2(m z:Int):OSt:={S1 m z with U:=[[1,0,0,0],[0,1,0,0],[0,0,1,-1],[0,0,0,1]],I:=[⟨0,[0,0,-1,1]⟩,⟨1,[0,0,1,-1]⟩,⟨2,[0,0,0,-1]⟩,⟨3,[0,0,0,1]⟩,⟨4,[0,0,1,0]⟩,⟨5,[0,0,-1,0]⟩]}
theorem Zv(m z:Int):Lb 4 1000 (S1 m z)=some (S2 m z,2):=by kernel_rfl
abbrev F0(m z:Int):OSt:=Wa (S2 m z) 2 ⟨4,[0,0,1,0]⟩
abbrev F1(m z:Int):OSt:={F0 m z with S:=[⟨[⟨0,1⟩,⟨4,1⟩],1⟩],vS:=1,K:=nh m z++[⟨[0,0,0,1],z⟩],vK:=1,I:=[⟨6,[0,0,0,1]⟩],vI:=8}
abbrev F2(m z:Int):OSt:={F1 m z with S:=[⟨[⟨0,1⟩,⟨4,1⟩],1⟩,⟨[⟨1,1⟩,⟨5,1⟩],1⟩],vS:=2,K:=nh m z++[⟨[0,0,0,1],z⟩,⟨[0,0,0,-1],m-z⟩],vK:=2,I:=[⟨6,[0,0,0,1]⟩,⟨7,[0,0,0,-1]⟩],vI:=9}
theorem Y1(hz:-40000<=z/\z<=40000):xf (F0 m z) [0,0,0,1] [⟨((0:Nat):Int),1⟩,⟨((4:Nat):Int),1⟩]=some (F1 m z,true):=by
 refine H7 (x:=⟨6,[0,0,0,1]⟩) (Cl (d:=1) (a:=⟨[0,0,-1,0],0⟩) (b:=⟨[0,0,1,1],z⟩) (r1:=[0,0,-1,0]) (r2:=[0,0,0,1]) (r3:=[0,0,0,1]) (bd:=z) (by kernel_rfl) (ag3 (by kernel_rfl)) rfl rfl (by kernel_rfl) (by kernel_rfl) (by decide) (by show B1 (1*z);omega) (by show B1 (1*0+1*z);omega) (by kernel_rfl) (by rw[pp];show(1*0+1*z:Int)=z;omega)) ?_
 exact tb (ag3 (by kernel_rfl)) (by kernel_rfl)
theorem Y0(hz:-40000<=z/\z<=40000)(hm:0<=m)(hm3:m<=3):xf (F1 m z) [0,0,0,-1] [⟨((1:Nat):Int),1⟩,⟨((5:Nat):Int),1⟩]=some (F2 m z,true):=by
 refine H7 (x:=⟨7,[0,0,0,-1]⟩) (Cl (d:=1) (a:=⟨[0,0,1,0],m⟩) (b:=⟨[0,0,-1,-1],-z⟩) (r1:=[0,0,1,0]) (r2:=[0,0,0,-1]) (r3:=[0,0,0,-1]) (bd:=m-z) (by kernel_rfl) (ag3 (by kernel_rfl)) rfl rfl (by kernel_rfl) (by kernel_rfl) (by show B1 (1*m);omega) (by show B1 (1* -z);omega) (by show B1 (1*m+1* -z);omega) (by kernel_rfl) (by rw[pp];show(1*m+1* -z:Int)=m-z;omega)) ?_
 exact tb (ag3 (by kernel_rfl)) (by kernel_rfl)
abbrev F3(m z:Int):OSt:={F2 m z with I:=[⟨6,[0,0,0,1]⟩,⟨2,[0,0,0,-1]⟩]}
abbrev F4(m z:Int):OSt:={F2 m z with I:=[⟨3,[0,0,0,1]⟩,⟨7,[0,0,0,-1]⟩]}
theorem eq_3(hz:-40000<=z/\z<0)(hm:0<=m)(ha:m<=3):eqO (S1 m z) 4 5=some (F3 m z,true):=by
 have e:eqO (S1 m z) 4 5=eqF 4 5 2 ⟨4,[0,0,1,0]⟩ ⟨5,[0,0,-1,0]⟩ (S2 m z).I 0 (F0 m z):=by
  rw[eqO,Zv];kernel_rfl
 rw[e]
 refine tw (c:=-1) (u:=⟨4,1⟩) (by decide) rfl (by decide) rfl (Y1 (by omega)) ?_
 refine tw (c:=1) (u:=⟨5,1⟩) (by decide) rfl (by decide) rfl (Y0 (by omega) hm ha) ?_
 refine tz (by decide) rfl (Ho (k:=1) (y:=⟨7,[0,0,0,-1]⟩) (ag3 (by kernel_rfl)) (by kernel_rfl) rfl (show(0:Int)<m-z by omega)) ?_
 refine tz (by decide) rfl (Hp (k:=0) (y:=⟨6,[0,0,0,1]⟩) (ag3 (by kernel_rfl)) (by kernel_rfl) rfl (show¬m<z by omega)) ?_
 exact og (by decide) (og (by decide) rfl)
theorem eq_4(hz:z<=40000)(hm:0<=m)(ha:m<=3)(h2:2*m<z)(h1:1<=m):eqO (S1 m z) 4 5=some (F4 m z,true):=by
 have e:eqO (S1 m z) 4 5=eqF 4 5 2 ⟨4,[0,0,1,0]⟩ ⟨5,[0,0,-1,0]⟩ (S2 m z).I 0 (F0 m z):=by
  rw[eqO,Zv];kernel_rfl
 rw[e]
 refine tw (c:=-1) (u:=⟨4,1⟩) (by decide) rfl (by decide) rfl (Y1 (by omega)) ?_
 refine tw (c:=1) (u:=⟨5,1⟩) (by decide) rfl (by decide) rfl (Y0 (by omega) hm ha) ?_
 refine tz (by decide) rfl (Hp (k:=1) (y:=⟨7,[0,0,0,-1]⟩) (ag3 (by kernel_rfl)) (by kernel_rfl) rfl (show¬(0:Int)<m-z by omega)) ?_
 refine tz (by decide) rfl (Ho (k:=0) (y:=⟨6,[0,0,0,1]⟩) (ag3 (by kernel_rfl)) (by kernel_rfl) rfl (show m<z by omega)) ?_
 exact og (by decide) (og (by decide) rfl)
abbrev pfL(a b:Int):List StS:=[⟨[⟨0,1⟩,⟨4,1⟩],1⟩,⟨[⟨1,1⟩,⟨5,1⟩],1⟩,⟨[⟨a,1⟩,⟨b,1⟩],1⟩]
theorem Y8(hz:-40000<=z/\z<0)(hm:0<=m)(hm3:m<=3):∃t,nm (F3 m z)=some (t,0,0,false,false)/\t.S=pfL 6 2:=by
 have e:nm (F3 m z)=ia (F3 m z) 2 0:=by kernel_rfl
 have h0:bnd (F3 m z) ⟨6,[0,0,0,1]⟩+bnd (F3 m z) ⟨2,[0,0,0,-1]⟩=z:=Int.add_zero z
 refine⟨_,e.trans (F9 (x:=⟨6,[0,0,0,1]⟩) (y:=⟨2,[0,0,0,-1]⟩) (o:=1) rfl (by kernel_rfl) (by decide) rfl (by rw[h0];omega) (by rw[h0];omega) (Pc (Cl (i:=6) (j:=2) (d:=1) (a:=⟨[0,0,0,1],z⟩) (b:=⟨[0,0,0,-1],0⟩) (r1:=[0,0,0,1]) (r2:=[0,0,0,0]) (r3:=[0,0,0,0]) (bd:=z) (by kernel_rfl) (ag3 (by kernel_rfl)) rfl rfl (by kernel_rfl) (by kernel_rfl) (by show B1 (1*z);omega) (by decide) (by show B1 (1*z+1*0);omega) (by kernel_rfl) (by rw[pp];show(1*z+1*0:Int)=z;omega)))),rfl⟩
theorem Y7(hz:z<=40000)(hm:0<=m)(hm3:m<=3)(h2:2*m<z):∃t,nm (F4 m z)=some (t,0,0,false,false)/\t.S=pfL 3 7:=by
 have e:nm (F4 m z)=ia (F4 m z) 2 0:=by kernel_rfl
 have h0:bnd (F4 m z) ⟨3,[0,0,0,1]⟩+bnd (F4 m z) ⟨7,[0,0,0,-1]⟩=m+(m-z):=rfl
 refine⟨_,e.trans (F9 (x:=⟨3,[0,0,0,1]⟩) (y:=⟨7,[0,0,0,-1]⟩) (o:=1) rfl (by kernel_rfl) (by decide) rfl (by rw[h0];omega) (by rw[h0];omega) (Pc (Cl (i:=3) (j:=7) (d:=1) (a:=⟨[0,0,0,1],m⟩) (b:=⟨[0,0,0,-1],m-z⟩) (r1:=[0,0,0,1]) (r2:=[0,0,0,0]) (r3:=[0,0,0,0]) (bd:=m+(m-z)) (by kernel_rfl) (ag3 (by kernel_rfl)) rfl rfl (by kernel_rfl) (by kernel_rfl) (by show B1 (1*m);omega) (by show B1 (1*(m-z));omega) (by show B1 (1*m+1*(m-z));omega) (by kernel_rfl) (by rw[pp];show(1*m+1*(m-z):Int)=m+(m-z);omega)))),rfl⟩
theorem ac6(hz:-40000<=z/\z<0)(hm:1<=m)(ha:m<=3):A0 4 (nh m z)=some (pfL 6 2):=by
 obtain⟨t,h1,h2⟩:=Y8 hz (by omega) ha
 rw[A0,Q0]
 exact O5 (So hm ha) (eq_3 hz (by omega) ha) (O4 h1 h2)
theorem ac5(hz:z<=40000)(hm:1<=m)(ha:m<=3)(h2:2*m<z):A0 4 (nh m z)=some (pfL 3 7):=by
 obtain⟨t,h1,h3⟩:=Y7 hz (by omega) ha h2
 rw[A0,Q0]
 exact O5 (So hm ha) (eq_4 hz (by omega) ha h2 hm) (O4 h1 h3)
end
section
variable{n:Nat}{K:List IqS}{r1 r2 r3:List Int}{i j:Nat}{n1 n2 d bd:Int}{a b:IqS}
theorem Cs(hd:0<d)(ha:B1 d)(p1:0<=n1/\B1 n1)(p2:0<=n2/\B1 n2)(hi:K[i]? =some a)(hj:K[j]? =some b)(h1:n8 n1 (List.replicate n 0) a.cs=some r1)(h2:n8 n2 r1 b.cs=some r2)(b1:B1 (n1*a.b))(b3:B1 (n2*b.b))(b4:B1 (n1*a.b+n2*b.b))(hm:∀x∈r2,flM x d=0)(hr:r2.map (flD · d)=r3)(hb:flD (n1*a.b+n2*b.b) d=bd):
 N5 n K ⟨[⟨(i:Int),n1⟩,⟨(j:Int),n2⟩],d⟩=some ⟨r3,bd⟩:=by
 have e1:Hq ⟨List.replicate n 0,0⟩ n1 a=some ⟨r1,n1*a.b⟩:=by
  unfold Hq;rw[h1];simp only;rw[ag1 ⟨b1,by rw[Int.zero_add];exact b1⟩,Int.zero_add]
 have e2:Hq ⟨r1,n1*a.b⟩ n2 b=some ⟨r2,n1*a.b+n2*b.b⟩:=by
  unfold Hq;rw[h2];simp only;rw[ag1 ⟨b3,b4⟩]
 have e3:um K [⟨(i:Int),n1⟩,⟨(j:Int),n2⟩] ⟨List.replicate n 0,0⟩=some ⟨r2,n1*a.b+n2*b.b⟩:=by
  rw[um,ag1 (Int.natCast_nonneg i),Int.toNat_natCast,hi];simp only;rw[e1];simp only
  rw[um,ag1 (Int.natCast_nonneg j),Int.toNat_natCast,hj];simp only;rw[e2];simp only
  rw[um]
 unfold N5
 rw[ag1 ⟨⟨ha,hd⟩,fun u hu=>by
  rcases ahi.1 hu with rfl|hu
  ·exact p1
  ·rw[agx.1 hu];exact p2⟩,e3]
 simp only
 rw[ag1 hm,<-hr,<-hb];rfl
theorem tg{s:StS}{S:List StS}{q:IqS}{R:Option (List IqS)}(h:N5 n K s=some q)(hr:jn n S (K++[q])=R):jn n (s::S) K=R:=by
 rw[jn,h];exact hr
end
theorem Q1{v:Int}(h:v<0):uk ⟨[0,0,0,0],v⟩=true:=by show(true&&decide (v<0))=true;rw[decide_eq_true h];rfl
section
variable{m z:Int}
abbrev aej(m z:Int):List IqS:=nh m z++[⟨[0,0,0,1],z⟩,⟨[0,0,0,-1],m-z⟩]
theorem Yf(hz:-40000<=z/\z<=40000)(hm:0<=m/\m<=3){S:List StS}{R:Option (List IqS)}(h:jn 4 S (aej m z)=R):jn 4 (⟨[⟨0,1⟩,⟨4,1⟩],1⟩::⟨[⟨1,1⟩,⟨5,1⟩],1⟩::S) (nh m z)=R:=by
 refine tg (Cs (i:=0) (j:=4) (a:=⟨[0,0,-1,0],0⟩) (b:=⟨[0,0,1,1],z⟩) (r1:=[0,0,-1,0]) (r2:=[0,0,0,1]) (r3:=[0,0,0,1]) (bd:=z) (by decide) qu ⟨by decide,qu⟩ ⟨by decide,qu⟩ rfl rfl (by kernel_rfl) (by kernel_rfl) (by decide) (by show B1 (1*z);omega) (by show B1 (1*0+1*z);omega) (by decide) (by kernel_rfl) (by rw[pp];show(1*0+1*z:Int)=z;omega)) ?_
 exact tg (Cs (i:=1) (j:=5) (a:=⟨[0,0,1,0],m⟩) (b:=⟨[0,0,-1,-1],-z⟩) (r1:=[0,0,1,0]) (r2:=[0,0,0,-1]) (r3:=[0,0,0,-1]) (bd:=m-z) (by decide) qu ⟨by decide,qu⟩ ⟨by decide,qu⟩ rfl rfl (by kernel_rfl) (by kernel_rfl) (by show B1 (1*m);omega) (by show B1 (1* -z);omega) (by show B1 (1*m+1* -z);omega) (by decide) (by kernel_rfl) (by rw[pp];show(1*m+1* -z:Int)=m-z;omega)) h
theorem af9(hz:-40000<=z/\z<0)(hm:0<=m/\m<=3):jn 4 (pfL 6 2) (nh m z)=some (aej m z++[⟨[0,0,0,0],z⟩]):=by
 refine Yf (by omega) hm (tg (Cs (i:=6) (j:=2) (a:=⟨[0,0,0,1],z⟩) (b:=⟨[0,0,0,-1],0⟩) (r1:=[0,0,0,1]) (r2:=[0,0,0,0]) (r3:=[0,0,0,0]) (bd:=z) (by decide) qu ⟨by decide,qu⟩ ⟨by decide,qu⟩ rfl rfl (by kernel_rfl) (by kernel_rfl) (by show B1 (1*z);omega) (by decide) (by show B1 (1*z+1*0);omega) (by decide) (by kernel_rfl) (by rw[pp];show(1*z+1*0:Int)=z;omega)) rfl)
theorem af8(hz:z<=40000)(hm:0<=m/\m<=3)(h2:2*m<z):jn 4 (pfL 3 7) (nh m z)=some (aej m z++[⟨[0,0,0,0],m+(m-z)⟩]):=by
 refine Yf (by omega) hm (tg (Cs (i:=3) (j:=7) (a:=⟨[0,0,0,1],m⟩) (b:=⟨[0,0,0,-1],m-z⟩) (r1:=[0,0,0,1]) (r2:=[0,0,0,0]) (r3:=[0,0,0,0]) (bd:=m+(m-z)) (by decide) qu ⟨by decide,qu⟩ ⟨by decide,qu⟩ rfl rfl (by kernel_rfl) (by kernel_rfl) (by show B1 (1*m);omega) (by show B1 (1*(m-z));omega) (by show B1 (1*m+1*(m-z));omega) (by decide) (by kernel_rfl) (by rw[pp];show(1*m+1*(m-z):Int)=m+(m-z);omega)) rfl)
theorem Sn(z:Int):nm (S1 0 z)=some (S1 0 z,((0:Nat):Int),((1:Nat):Int),true,true):=by
 have e:nm (S1 0 z)=ia (S1 0 z) 6 0:=by kernel_rfl
 rw[e]
 exact Sm (x:=⟨0,[0,0,-1,0]⟩) (y:=⟨1,[0,0,1,0]⟩) (o:=1) rfl (by kernel_rfl) (by decide) rfl rfl
abbrev S5(z:Int):OSt:={S1 0 z with U:=[[1,0,0,0],[0,1,0,0],[0,0,-1,0],[0,0,0,1]],I:=[⟨0,[0,0,1,0]⟩,⟨1,[0,0,-1,0]⟩,⟨2,[0,0,0,-1]⟩,⟨3,[0,0,0,1]⟩,⟨4,[0,0,-1,1]⟩,⟨5,[0,0,1,-1]⟩]}
theorem Zu(z:Int):Lb 0 1000 (S1 0 z)=some (S5 z,2):=by kernel_rfl
abbrev G0(z:Int):OSt:=Wa (S5 z) 2 ⟨0,[0,0,1,0]⟩
abbrev G2(z:Int):OSt:={G0 z with I:=[⟨2,[0,0,0,-1]⟩,⟨3,[0,0,0,1]⟩],vI:=9}
abbrev G3(z:Int)(I:List ItS):OSt:={G0 z with S:=[⟨[⟨4,1⟩,⟨0,1⟩],1⟩],vS:=1,K:=nh 0 z++[⟨[0,0,0,1],z⟩],vK:=1,I:=I,vI:=9}
abbrev G4(z:Int)(I:List ItS):OSt:={G0 z with S:=[⟨[⟨4,1⟩,⟨0,1⟩],1⟩,⟨[⟨5,1⟩,⟨1,1⟩],1⟩],vS:=2,K:=nh 0 z++[⟨[0,0,0,1],z⟩,⟨[0,0,0,-1],-z⟩],vK:=2,I:=I,vI:=9}
theorem aap(hz:-40000<=z/\z<=40000):Cm (G2 z) [0,0,0,1] [⟨((4:Nat):Int),1⟩,⟨((0:Nat):Int),1⟩]=some (G3 z (G2 z).I,⟨6,[0,0,0,1]⟩,true,true):=
 Cl (d:=1) (a:=⟨[0,0,1,1],z⟩) (b:=⟨[0,0,-1,0],0⟩) (r1:=[0,0,1,1]) (r2:=[0,0,0,1]) (r3:=[0,0,0,1]) (bd:=z) (by kernel_rfl) (ag3 (by kernel_rfl)) rfl rfl (by kernel_rfl) (by kernel_rfl) (by show B1 (1*z);omega) (by decide) (by show B1 (1*z+1*0);omega) (by kernel_rfl) (by rw[pp];show(1*z+1*0:Int)=z;omega)
theorem aao(hz:-40000<=z/\z<=40000)(I:List ItS)(hI:I.length<=1000000):Cm (G3 z I) [0,0,0,-1] [⟨((5:Nat):Int),1⟩,⟨((1:Nat):Int),1⟩]=some (G4 z I,⟨7,[0,0,0,-1]⟩,true,true):=
 Cl (d:=1) (a:=⟨[0,0,-1,-1],-z⟩) (b:=⟨[0,0,1,0],0⟩) (r1:=[0,0,-1,-1]) (r2:=[0,0,0,-1]) (r3:=[0,0,0,-1]) (bd:=-z) (by kernel_rfl) ⟨ag9 rfl,ag9 rfl,ag9 rfl,ag9 rfl,hI,ag9 rfl,ag9 rfl,ag9 rfl⟩ rfl rfl (by kernel_rfl) (by kernel_rfl) (by show B1 (1* -z);omega) (by decide) (by show B1 (1* -z+1*0);omega) (by kernel_rfl) (by rw[pp];show(1* -z+1*0:Int)=-z;omega)
theorem eq_6(hz:-40000<=z/\z<0):eqO (S1 0 z) 0 1=some (G4 z [⟨2,[0,0,0,-1]⟩,⟨6,[0,0,0,1]⟩],true):=by
 have e:eqO (S1 0 z) 0 1=eqF 0 1 2 ⟨0,[0,0,1,0]⟩ ⟨1,[0,0,-1,0]⟩ (S5 z).I 0 (G0 z):=by
  rw[eqO,Zu];kernel_rfl
 rw[e]
 refine og (by decide) (og (by decide) ?_)
 refine tz (by decide) rfl (tb (ag3 (by kernel_rfl)) (by kernel_rfl)) ?_
 refine tz (s':=G2 z) (by decide) rfl (tb (ag3 (by kernel_rfl)) (by kernel_rfl)) ?_
 refine tw (c:=-1) (u:=⟨0,1⟩) (by decide) rfl (by decide) rfl (H7 (aap (by omega)) (Ho (k:=1) (y:=⟨3,[0,0,0,1]⟩) (ag3 (by kernel_rfl)) (by kernel_rfl) rfl (show z<0 by omega))) ?_
 refine tw (c:=1) (u:=⟨1,1⟩) (by decide) rfl (by decide) rfl (H7 (aao (by omega) _ (ag9 rfl)) (Hp (k:=0) (y:=⟨2,[0,0,0,-1]⟩) (ag3 (by kernel_rfl)) (by kernel_rfl) rfl (show¬-z<0 by omega))) ?_
 rfl
theorem eq_7(hz:0<z/\z<=40000):eqO (S1 0 z) 0 1=some (G4 z [⟨7,[0,0,0,-1]⟩,⟨3,[0,0,0,1]⟩],true):=by
 have e:eqO (S1 0 z) 0 1=eqF 0 1 2 ⟨0,[0,0,1,0]⟩ ⟨1,[0,0,-1,0]⟩ (S5 z).I 0 (G0 z):=by
  rw[eqO,Zu];kernel_rfl
 rw[e]
 refine og (by decide) (og (by decide) ?_)
 refine tz (by decide) rfl (tb (ag3 (by kernel_rfl)) (by kernel_rfl)) ?_
 refine tz (s':=G2 z) (by decide) rfl (tb (ag3 (by kernel_rfl)) (by kernel_rfl)) ?_
 refine tw (c:=-1) (u:=⟨0,1⟩) (by decide) rfl (by decide) rfl (H7 (aap (by omega)) (Hp (k:=1) (y:=⟨3,[0,0,0,1]⟩) (ag3 (by kernel_rfl)) (by kernel_rfl) rfl (show¬z<0 by omega))) ?_
 refine tw (c:=1) (u:=⟨1,1⟩) (by decide) rfl (by decide) rfl (H7 (aao (by omega) _ (ag9 rfl)) (Ho (k:=0) (y:=⟨2,[0,0,0,-1]⟩) (ag3 (by kernel_rfl)) (by kernel_rfl) rfl (show -z<0 by omega))) ?_
 rfl
abbrev pfM(a b:Int):List StS:=[⟨[⟨4,1⟩,⟨0,1⟩],1⟩,⟨[⟨5,1⟩,⟨1,1⟩],1⟩,⟨[⟨a,1⟩,⟨b,1⟩],1⟩]
theorem ac4(hz:-40000<=z/\z<0):A0 4 (nh 0 z)=some (pfM 2 6):=by
 have e:nm (G4 z [⟨2,[0,0,0,-1]⟩,⟨6,[0,0,0,1]⟩])=ia (G4 z [⟨2,[0,0,0,-1]⟩,⟨6,[0,0,0,1]⟩]) 2 0:=by kernel_rfl
 have h0:bnd (G4 z [⟨2,[0,0,0,-1]⟩,⟨6,[0,0,0,1]⟩]) ⟨2,[0,0,0,-1]⟩+bnd (G4 z [⟨2,[0,0,0,-1]⟩,⟨6,[0,0,0,1]⟩]) ⟨6,[0,0,0,1]⟩=z:=Int.zero_add z
 rw[A0,Q0]
 exact O5 (Sn z) (eq_6 hz) (O4 (e.trans (F9 (x:=⟨2,[0,0,0,-1]⟩) (y:=⟨6,[0,0,0,1]⟩) (o:=1) rfl (by kernel_rfl) (by decide) rfl (by rw[h0];omega) (by rw[h0];omega) (Pc (Cl (i:=2) (j:=6) (d:=1) (a:=⟨[0,0,0,-1],0⟩) (b:=⟨[0,0,0,1],z⟩) (r1:=[0,0,0,-1]) (r2:=[0,0,0,0]) (r3:=[0,0,0,0]) (bd:=z) (by kernel_rfl) (ag3 (by kernel_rfl)) rfl rfl (by kernel_rfl) (by kernel_rfl) (by decide) (by show B1 (1*z);omega) (by show B1 (1*0+1*z);omega) (by kernel_rfl) (by rw[pp];show(1*0+1*z:Int)=z;omega))))) rfl)
theorem ac3(hz:0<z/\z<=40000):A0 4 (nh 0 z)=some (pfM 7 3):=by
 have e:nm (G4 z [⟨7,[0,0,0,-1]⟩,⟨3,[0,0,0,1]⟩])=ia (G4 z [⟨7,[0,0,0,-1]⟩,⟨3,[0,0,0,1]⟩]) 2 0:=by kernel_rfl
 have h0:bnd (G4 z [⟨7,[0,0,0,-1]⟩,⟨3,[0,0,0,1]⟩]) ⟨7,[0,0,0,-1]⟩+bnd (G4 z [⟨7,[0,0,0,-1]⟩,⟨3,[0,0,0,1]⟩]) ⟨3,[0,0,0,1]⟩=-z:=Int.add_zero (-z)
 rw[A0,Q0]
 exact O5 (Sn z) (eq_7 hz) (O4 (e.trans (F9 (x:=⟨7,[0,0,0,-1]⟩) (y:=⟨3,[0,0,0,1]⟩) (o:=1) rfl (by kernel_rfl) (by decide) rfl (by rw[h0];omega) (by rw[h0];omega) (Pc (Cl (i:=7) (j:=3) (d:=1) (a:=⟨[0,0,0,-1],-z⟩) (b:=⟨[0,0,0,1],0⟩) (r1:=[0,0,0,-1]) (r2:=[0,0,0,0]) (r3:=[0,0,0,0]) (bd:=-z) (by kernel_rfl) (ag3 (by kernel_rfl)) rfl rfl (by kernel_rfl) (by kernel_rfl) (by show B1 (1* -z);omega) (by decide) (by show B1 (1* -z+1*0);omega) (by kernel_rfl) (by rw[pp];show(1* -z+1*0:Int)=-z;omega))))) rfl)
abbrev aei(z:Int):List IqS:=nh 0 z++[⟨[0,0,0,1],z⟩,⟨[0,0,0,-1],-z⟩]
theorem Ye(hz:-40000<=z/\z<=40000){S:List StS}{R:Option (List IqS)}(h:jn 4 S (aei z)=R):jn 4 (⟨[⟨4,1⟩,⟨0,1⟩],1⟩::⟨[⟨5,1⟩,⟨1,1⟩],1⟩::S) (nh 0 z)=R:=by
 refine tg (Cs (i:=4) (j:=0) (a:=⟨[0,0,1,1],z⟩) (b:=⟨[0,0,-1,0],0⟩) (r1:=[0,0,1,1]) (r2:=[0,0,0,1]) (r3:=[0,0,0,1]) (bd:=z) (by decide) qu ⟨by decide,qu⟩ ⟨by decide,qu⟩ rfl rfl (by kernel_rfl) (by kernel_rfl) (by show B1 (1*z);omega) (by decide) (by show B1 (1*z+1*0);omega) (by decide) (by kernel_rfl) (by rw[pp];show(1*z+1*0:Int)=z;omega)) ?_
 exact tg (Cs (i:=5) (j:=1) (a:=⟨[0,0,-1,-1],-z⟩) (b:=⟨[0,0,1,0],0⟩) (r1:=[0,0,-1,-1]) (r2:=[0,0,0,-1]) (r3:=[0,0,0,-1]) (bd:=-z) (by decide) qu ⟨by decide,qu⟩ ⟨by decide,qu⟩ rfl rfl (by kernel_rfl) (by kernel_rfl) (by show B1 (1* -z);omega) (by decide) (by show B1 (1* -z+1*0);omega) (by decide) (by kernel_rfl) (by rw[pp];show(1* -z+1*0:Int)=-z;omega)) h
theorem af7(hz:-40000<=z/\z<=40000):jn 4 (pfM 2 6) (nh 0 z)=some (aei z++[⟨[0,0,0,0],z⟩]):=by
 refine Ye hz (tg (Cs (i:=2) (j:=6) (a:=⟨[0,0,0,-1],0⟩) (b:=⟨[0,0,0,1],z⟩) (r1:=[0,0,0,-1]) (r2:=[0,0,0,0]) (r3:=[0,0,0,0]) (bd:=z) (by decide) qu ⟨by decide,qu⟩ ⟨by decide,qu⟩ rfl rfl (by kernel_rfl) (by kernel_rfl) (by decide) (by show B1 (1*z);omega) (by show B1 (1*0+1*z);omega) (by decide) (by kernel_rfl) (by rw[pp];show(1*0+1*z:Int)=z;omega)) rfl)
theorem af6(hz:-40000<=z/\z<=40000):jn 4 (pfM 7 3) (nh 0 z)=some (aei z++[⟨[0,0,0,0],-z⟩]):=by
 refine Ye hz (tg (Cs (i:=7) (j:=3) (a:=⟨[0,0,0,-1],-z⟩) (b:=⟨[0,0,0,1],0⟩) (r1:=[0,0,0,-1]) (r2:=[0,0,0,0]) (r3:=[0,0,0,0]) (bd:=-z) (by decide) qu ⟨by decide,qu⟩ ⟨by decide,qu⟩ rfl rfl (by kernel_rfl) (by kernel_rfl) (by show B1 (1* -z);omega) (by decide) (by show B1 (1* -z+1*0);omega) (by decide) (by kernel_rfl) (by rw[pp];show(1* -z+1*0:Int)=-z;omega)) rfl)
theorem Vn(hz:-40000<=z/\z<=40000)(hm:0<=m/\m<=3)(h:z<0\/2*m<z):∃S R,A0 4 (nh m z)=some S/\S.length=3/\(∀s∈S,s.us.length=2)/\jn 4 S (nh m z)=some R/\R.any (fun q=>uk q)=true:=by
 rcases Int.lt_or_le 0 m with h0|h0
 ·rcases h with h|h
  ·exact⟨_,_,ac6 ⟨hz.1,h⟩ h0 hm.2,rfl,by decide,af9 ⟨hz.1,h⟩ hm,List.any_eq_true.2 ⟨_,agy.2 (.inr (agx.2 rfl)),Q1 h⟩⟩
  ·exact⟨_,_,ac5 hz.2 h0 hm.2 h,rfl,by decide,af8 hz.2 hm h,List.any_eq_true.2 ⟨_,agy.2 (.inr (agx.2 rfl)),Q1 (by omega)⟩⟩
 ·obtain rfl:m=0:=by omega
  rcases h with h|h
  ·exact⟨_,_,ac4 ⟨hz.1,h⟩,rfl,by decide,af7 hz,List.any_eq_true.2 ⟨_,agy.2 (.inr (agx.2 rfl)),Q1 h⟩⟩
  ·exact⟨_,_,ac3 ⟨by omega,hz.2⟩,rfl,by decide,af6 hz,List.any_eq_true.2 ⟨_,agy.2 (.inr (agx.2 rfl)),Q1 (by omega)⟩⟩
end
end Go.Proofs.YtbhhmbchdponjaaGreatDoor
