/- Texts of the claim. -/
import Derived.Test.YtbhhmbchdponjaaGreatDoorT4
import Derived.Test.YtbhhmbchdponjaaGreatDoorQ2
namespace Go.Proofs.YtbhhmbchdponjaaGreatDoor
set_option maxRecDepth 1000000
set_option maxHeartbeats 0
set_option linter.unusedVariables false
set_option linter.unusedSimpArgs false
open Go.RowKit
def Ml(n:Nat)(K:List IqS)(s:StS):Option IqS:=if(B1 s.d/\0<s.d)/\∀u∈s.us,0<=u.n/\B1 u.n then match qw K s.us ⟨List.replicate n 0,0⟩with
 |some Q=>if∀x∈Q.cs,flM x s.d=0 then some (Sl Q s.d)else none
 |none=>none
 else none
theorem Cu{n:Nat}{K:List IqS}{s:StS}{q:IqS}(h:Ml n K s=some q):B1 s.d/\0<s.d/\(∀u∈s.us,0<=u.n/\B1 u.n)/\∃Q,qw K s.us ⟨List.replicate n 0,0⟩=some Q/\(∀x∈Q.cs,flM x s.d=0)/\q=Sl Q s.d:=by
 unfold Ml at h
 split at h
 ·next hc=>
  split at h
  ·next Q e=>
   split at h
   ·next hm=>cases h;exact⟨hc.1.1,hc.1.2,hc.2,Q,e,hm,rfl⟩
   ·cases h
  ·cases h
 ·cases h
theorem V3{n:Nat}{K:List IqS}{s:StS}{q:IqS}(h:Ml n K s=some q):BQ q/\q.cs.length=n:=by
 obtain⟨_,h2,_,Q,e,_,rfl⟩:=Cu h
 have hb:=vh (q:=⟨List.replicate n 0,0⟩) ⟨oh n,Mi⟩ e
 exact⟨⟨Md hb.c h2,U6 hb.b h2⟩,by show(List.map _ _).length=n;rw[ad0,qv e];simp⟩
def qy(n:Nat):List StS->List IqS->Option (List IqS)
 |[],K=>some K
 |s::S,K=>match Ml n K s with
  |none=>none
  |some q=>qy n S (K++[q])
theorem Og{n:Nat}{S:List StS}{K R:List IqS}{k:Nat}(hk:k<S.length)(h:qy n (S.drop k) K=some R):∃q,Ml n K S[k]=some q/\qy n (S.drop (k+1)) (K++[q])=some R:=by
 rw[aeo hk]at h
 unfold qy at h
 split at h
 ·cases h
 ·next q e=>exact⟨q,e,h⟩
theorem Oh{n:Nat}{S:List StS}{K R:List IqS}{k:Nat}(hk:¬k<S.length)(h:qy n (S.drop k) K=some R):K=R:=by
 rw[List.drop_of_length_le (by omega)]at h;cases h;rfl
abbrev SyN(n:Nat)(K:List IqS):Prop:=∀q∈K,BQ q/\q.cs.length=n
structure KE where
 k:Nat
 L:List IqS
 v:Nat
theorem okK{D:List Nat}{v:Nat}{K:List IqS}:Bw D ⟨v,rF iqA K,3,false⟩:=⟨aq ab _ _,.inl rfl⟩
theorem W8{x:Int}(h:0<x):sgZ x=1:=by unfold sgZ;rw[ad1 (by omega),ad1 (by omega)]
theorem tupL{fp:List Nat}{η:bg}{cs ds:List AV}(h:FzPL fp η cs ds):FzP fp η (.tup cs) (.tup ds):=FzP.tup h.at.1 h.at.2
structure KN1 where
 k:Nat
theorem R8{x y:Int}(hx:B1 x)(hy:B1 y)(h:B1 (y*x)):PRet Tryz.prog 92 [.agg (bgA (bgI x)),.agg (bgA (bgI y))] (fun q=>q=.agg (bgA (bgI (y*x)))):=by
 have:=Ui hx hy (by rw[Int.mul_comm];exact h)
 rwa [Int.mul_comm]at this
theorem Ft{c:PCon}{n:Int}(h:rgC c n)(hs:c.l.cs.length<=100000):PRet Tryz.prog 55 [.agg (cnA c),.v (.int .i64 n)] (fun r=>r=.v (.bool true)):=by
 obtain⟨_,⟨b,rfl,hb⟩,hc⟩:=T0 c n hs
 rw[hb h]at hc;exact PRet.of_call hc
theorem adh:b7 Tryz.prog 48=true:=by kernel_rfl
theorem adg:b7 Tryz.prog 49=true:=by kernel_rfl
theorem Zd:b7 Tryz.prog 90=true:=by kernel_rfl
theorem Re(n:Nat)(hn:n<=1000)(h1:1<=n):t8 Tryz.prog 90 [.v (.int .i64 ((n:Nat):Int))] [] [(1,some (⟨0,rF bI (List.replicate n 0),2,false⟩))] (fun q=>q=.agg [.sl 1 0 0 n,.v (.bool false),.v (.slice none 0 0)]):=by
 refine t8.of_vc kh [4] [] Tryz.func90 rfl Tryz.ntmps90 rfl (by kernel_rfl) (OpG.nw (cr 1 (len:=n) Tryz.underlying45 iu Da Er rfl rfl rfl (by omega)) rfl ?_)
 refine⟨.inr rfl,_,M0.of [] (a8 rfl (.cons (Z5.cellN tl rfl rfl trivial rfl rfl rfl) .nil)) rfl ⟨.same rfl (by decide),trivial⟩ .same,?_⟩
 rfl
theorem aby(c:PCon)(n:Nat)(hn:n<=512)(h3:1<=n)(hc:CnB c)(hr:rgC c ((n:Nat):Int)):PRet Tryz.prog 56 [.agg (cnA c),.v (.int .i64 ((n:Nat):Int))] (fun q=>q=.tree 3 ((ofC n c).map iqA)):=by
 have hln:=hc.ln
 obtain⟨_,rfl,h4⟩:=Re n (by omega) h3
 refine ovT [13,39,51,56,100039] [10] Tryz.func56 rfl rfl (ArgG.mk (Ft hr (aec hc.ln (by decide))) rfl ?_)
 rintro _ rfl
 refine cF (OpG.mk _ _ _ 2 (ba [(1,1)] Zd h4 rfl rfl rfl rfl trivial trivial ⟨aq ae _ _,trivial⟩ rfl rfl rfl rfl (j6 ae rfl) rfl) rfl rfl ?_)
 refine LpG.on (fun k0:KN1=>(⟨fL [(2,.ptr 0 0 0),(5,.ptr 2 0 0),(6,.v (.int .i64 ((k0.k:Nat):Int)))],hLz [(0,⟨0,cnA c,0,false⟩),(1,⟨0,rF bI (cfN n c.l.cs k0.k),2,false⟩),(2,⟨0,[.sl 1 0 0 n,.v (.bool false),.v (.slice none 0 0)],0,false⟩)],3⟩:St)) (fun k0=>(c.l.cs.length-k0.k)) (fun k0=>(k0.k<=c.l.cs.length/\True)) (⟨0⟩:KN1) (cO (.cons rfl rfl (.cons rfl rfl (.cons rfl rfl .nil))) (.cons rfl rfl rfl (.cons (by rfl) rfl (aa ae _ _) (.cons rfl rfl rfl .nil)))) ⟨ad7 _,trivial⟩ ?_
 rintro k0 h2
 obtain⟨hle_k0,hi_k0⟩:=h2
 refine LenG.of (cL (fun h1=>?_) (fun hge19=>?_))
 ·have hv:=hr.1 k0.k h1
  refine IdxG.of ‹_› (IdxG.of ‹_› ?_)
  refine ArgG.mk (J4 (c.l.cs[k0.k].n) (hc.cs _ (adt ‹_›))) rfl ?_
  rintro _ rfl
  refine OpG.lk (az (k:=c.l.cs[k0.k].v.toNat) ae Tryz.underlying45 iu rfl rfl (Int.toNat_of_nonneg hv.1).symm (by omega) rfl) (OpG.wr (bj (k:=c.l.cs[k0.k].v.toNat) (o:=0) (v:=c.l.cs[k0.k].n) ae iu rfl rfl rfl rfl rfl rfl (by rw[mu];omega) (by decide) rfl) rfl ?_)
  refine⟨by kernel_rfl,⟨by omega,?_⟩⟩
  refine⟨(⟨k0.k+1⟩:KN1),(by show c.l.cs.length-(k0.k+1)<c.l.cs.length-k0.k;omega),(cO (.cons rfl rfl (.cons rfl rfl (.cons rfl rfl .nil))) (.cons rfl rfl rfl (.cons (by(rw[Sw (by omega)];rfl)) rfl (aa ae _ _) (.cons rfl rfl rfl .nil)))),⟨by show k0.k+1<=_;omega,?_⟩⟩
  trivial
 have h5:cfN n c.l.cs k0.k=cfR n c.l.cs:=by rw[show k0.k=c.l.cs.length by omega]
 refine ArgG.mk (J4 c.l.k hc.k) rfl ?_
 rintro _ rfl
 refine ArgG.mk (D0 (x:=c.l.k) hc.k) rfl ?_
 rintro _ rfl
 refine RegG.via (fun _ h=>c9 1 ⟨0,rF bI (cfR n c.l.cs),2,false⟩ rfl (by rw[h5]) h) (RegG.via (fun _ h=>cv [1] 2 0 0 (.sl 1 0 0 n::bI (-c.l.k)) (iqA (⟨cfR n c.l.cs,-c.l.k⟩:IqS)) rfl rfl (.fz (bz ae (ady.2 rfl) rfl mu.symm) (.same _)) rfl h) ?_)
 refine aw (cB (fun h0=>?_) (fun h0=>?_))
 ·refine OpG.nw (cm (d4 Tryz.underlying85 kz ua rfl rfl rfl rfl) (fun η' h=>bi (f:=iqA) (l:=[(⟨cfR n c.l.cs,-c.l.k⟩:IqS)]) (ady.2 rfl) h rfl rfl rfl rfl rfl (fun a _=>⟨rfl,rfl⟩))) rfl ⟨.inr rfl,_,M1.tmp rfl ⟨[],FzP.pure rfl⟩,?_⟩
  rw[ofC,ad1 (by simpa using h0)];rfl
 refine ArgG.mk (Yn (⟨cfR n c.l.cs,-c.l.k⟩:IqS) c.l.k hc.k (yn hc.cs) (by show(cfR n c.l.cs).length<=_;rw[mu];omega)) rfl ?_
 rintro _ rfl
 refine OpG.nw (cm (d4 Tryz.underlying85 kz ua rfl rfl rfl rfl) (fun η' h=>bi (f:=iqA) (l:=[(⟨cfR n c.l.cs,-c.l.k⟩:IqS),(⟨Bz (cfR n c.l.cs),c.l.k⟩:IqS)]) (ady.2 rfl) h rfl rfl rfl rfl rfl (fun a _=>⟨rfl,rfl⟩))) rfl ⟨by kernel_rfl,⟨.inr rfl,_,M1.tmp rfl ⟨[],FzP.pure rfl⟩,?_⟩⟩
 rw[ofC,ad3 (by simpa using h0)];rfl
theorem I5(l:List PCon)(hl:iq l (fun y=>True))(n:Nat)(hn:n<=512)(h3:1<=n)(hll:l.length<=10000)(hc:∀c∈l,CnB c)(hr:∀c∈l,rgC c ((n:Nat):Int)):PRet Tryz.prog 23 [.tree 3 (l.map cnA),.v (.int .i64 ((n:Nat):Int))] (fun q=>q=.tree 3 ((Ba n l).map iqA)):=by
 refine ovT [28] [] Tryz.func23 rfl rfl (OpG.nw (bm 0 Tryz.underlying85 kz) rfl ?_)
 refine LpG.on (fun k0:KE=>(⟨fL [(0,.tree 3 (l.map cnA)),(1,.v (.int .i64 ((n:Nat):Int))),(5,.sl 0 k0.v 0 k0.L.length),(6,.v (.int .i64 ((k0.k:Nat):Int)))],hLz [(0,⟨k0.v,rF iqA k0.L,3,false⟩)],1⟩:St)) (fun k0=>(l.length-k0.k)) (fun k0=>(k0.k<=l.length/\(k0.L=Ba n (l.take k0.k)/\k0.v<=k0.k))) (⟨0,[],0⟩:KE) (cO (.cons rfl rfl (.cons rfl rfl (.cons rfl rfl (.cons rfl rfl .nil)))) (.cons rfl rfl (aa ab _ _) .nil)) ⟨ad7 _,⟨rfl,ad9 _⟩⟩ ?_
 rintro k0 h2
 have hgr_k0:l.length<=140737488355328:=hl.1
 obtain⟨hle_k0,h1⟩:=h2
 refine LenG.of (cL (fun h0=>?_) (fun hge11=>?_))
 ·have hlL:k0.L.length<=20000:=by rw[h1.1];have:=ot (n:=n) (l:=l.take k0.k);simp at this;omega
  have hl2:=Dx (n:=n) (c:=l[k0.k])
  refine IdxG.of ‹_› (ArgG.mk (Ft (hr _ (adt h0)) (aec (hc _ (adt h0)).ln (by decide))) rfl ?_)
  rintro _ rfl
  refine cF (IdxG.of ‹_› ?_)
  refine ArgG.mk (aby l[k0.k] n hn h3 (hc _ (adt h0)) (hr _ (adt h0))) rfl ?_
  rintro _ rfl
  refine OpG.mk _ _ _ 1 (jg ab (l:=k0.L) (l':=ofC n l[k0.k]) Tryz.underlying85 kz ua Cs rfl rfl rfl rfl (by omega) (by omega) (by unfold TV;omega)) rfl rfl ⟨by omega,⟨(⟨k0.k+1,(k0.L++ofC n l[k0.k]),k0.v+1⟩:KE),(by show l.length-(k0.k+1)<l.length-k0.k;omega),(cO (.cons rfl rfl (.cons rfl rfl (.cons rfl rfl (.cons rfl rfl .nil)))) (.cons rfl rfl (aa ab _ _) .nil)),?_⟩⟩
  exact⟨by show k0.k+1<=_;omega,⟨by show k0.L++_=_;rw[h1.1];exact yu h0,by show k0.v+1<=k0.k+1;omega⟩⟩
 refine⟨.inr rfl,_,M1.tmp rfl ⟨[0],bz ab (ady.2 rfl) rfl rfl⟩,?_⟩
 rw[h1.1,ael (by omega)]
theorem Vf(K:List IqS)(v n:Nat)(h2:0<K.length)(hl:K.length<=1000000)(hn:∀q∈K,q.cs.length=n):t8 Tryz.prog 48 [.sl 1000000 v 0 K.length] [(1000000,⟨v,rF iqA K,3,false⟩)] [(1000000,some (⟨v,rF iqA K,3,false⟩))] (fun r=>r=.v (.bool true)):=by
 refine t8.of_vc kh [6,12,13,14,17,18,19] [] Tryz.func48 rfl Tryz.ntmps48 rfl (by kernel_rfl) (LpG.on (fun k0:Nat=>(⟨fL [(0,.sl 1000000 v 0 K.length),(3,.v (.int .i64 ((k0:Nat):Int)))],hLz [(1000000,⟨v,rF iqA K,3,false⟩)],0⟩:St)) (fun k0=>(K.length-k0)) (fun k0=>(k0<=K.length)) 0 (cO (.cons rfl rfl (.cons rfl rfl .nil)) (.cons rfl rfl (aa ab _ _) .nil)) (ad7 _) ?_)
 rintro k0 h3
 have hle_k0:=h3
 refine OpG.lk (ck rfl Tryz.underlying85 rfl rfl rfl) (cL (fun h1=>?_) (fun hge7=>?_))
 ·refine OpG.lk (az (k:=k0) ab Tryz.underlying85 kz rfl rfl rfl h1 rfl) (OpG.lk (lc (f:=iqA) (q:=3) (L:=K) Ae rfl rfl rfl) ?_)
  refine OpG.lk (kx (k:=k0) (o:=0) ab xj rfl rfl h1 rfl) (LenG.of ?_)
  refine OpG.lk (az (k:=0) ab Tryz.underlying85 kz rfl rfl rfl h2 rfl) (OpG.lk (lc (f:=iqA) (q:=3) (L:=K) Ae rfl rfl rfl) ?_)
  refine OpG.lk (kx (k:=0) (o:=0) ab xj rfl rfl h2 rfl) (LenG.of ?_)
  refine⟨by kernel_rfl,cB (fun h0=>?_) (fun h0=>?_)⟩
  ·exfalso;rw[hn _ (adt h1),hn _ (adt h2)]at h0;simp at h0
  have hq21:((K[k0].cs.length:Nat):Int)=((K[0].cs.length:Nat):Int):=by simpa using h0
  refine⟨by omega,⟨(k0+1),by omega,(cO (.cons rfl rfl (.cons rfl rfl .nil)) (.cons rfl rfl (aa ab _ _) .nil)),?_⟩⟩
  omega
 refine⟨.inr rfl,_,M0.of [] (a8 rfl (.cons (Z5.tmp rfl) .nil)) rfl ⟨.same rfl (by decide),trivial⟩ .same,?_⟩
 rfl
theorem Qr(s:StS)(K:List IqS)(v n:Nat)(R:IqS)(h1:1<=n)(ho:n<=1000)(he:0<K.length)(hl:K.length<=1000000)(hK:SyN n K)(hul:s.us.length<=100000)(h:Ml n K s=some R):t8 Tryz.prog 49 [.sl 1000000 v 0 K.length,.agg (stA s)] [(1000000,⟨v,rF iqA K,3,false⟩)] [(1000000,some (⟨v,rF iqA K,3,false⟩))] (fun r=>r=.tup [.agg (iqA R),.v (.bool true)]):=by
 obtain⟨hf,hd,hu,Q,hQ,hp,rfl⟩:=Cu h
 have hk:=vh (q:=⟨List.replicate n 0,0⟩) ⟨oh n,Mi⟩ hQ
 have hQl:Q.cs.length=n:=by rw[qv hQ];simp
 obtain⟨_,rfl,hr⟩:=Vf K v n he hl (fun q hq=>(hK q hq).2)
 have h0n:=(hK _ (adt he)).2
 obtain⟨_,rfl,hs⟩:=Re n ho h1
 refine t8.of_vc kh [17,27,30,31,32,35,55,68,69,81,82,92,111,112,127,100092,100127] [6,7,18,19,26] Tryz.func49 rfl Tryz.ntmps49 rfl (by kernel_rfl) (OpG.lk (du (ba [(1000000,1000000)] adh hr rfl rfl rfl rfl ⟨sX ab,trivial⟩ ⟨okK,trivial⟩ ⟨aq ab _ _,trivial⟩ rfl rfl rfl rfl (j6 ab rfl) rfl) ⟨⟨.head _,rfl,rfl⟩,trivial⟩) ?_)
 refine cF (ArgG.mk (mc (x:=s.d) hf) rfl ?_)
 rintro _ rfl
 refine cB (fun h8=>?_) (fun h8=>?_)
 ·exfalso;have h:=ad5 h8;rw[W8 hd]at h;exact absurd h (by decide)
 have hq24:¬(((sgZ (s.d)):Int)<=(0:Int)):=ad4 h8
 refine OpG.lk (ck rfl Tryz.underlying85 rfl rfl rfl) (cB (fun h9=>?_) (fun h9=>?_))
 ·have hq28:((K.length:Nat):Int)>(0:Int):=ad5 h9
  refine OpG.lk (az (k:=0) ab Tryz.underlying85 kz rfl rfl rfl he rfl) (OpG.lk (lc (f:=iqA) (q:=3) (L:=K) Ae rfl rfl rfl) ?_)
  refine OpG.lk (kx (k:=0) (o:=0) ab xj rfl rfl he rfl) (LenG.of ?_)
  rw[h0n]
  refine aw (OpG.mk _ _ _ 3 (ba [(1,2)] Zd hs rfl rfl rfl rfl trivial trivial ⟨aq ae _ _,trivial⟩ rfl rfl rfl rfl (j6 ae rfl) rfl) rfl rfl ?_)
  refine RegG.via (fun _ h=>cv [] 3 0 0 [.sl 2 0 0 n,.v (.bool false),.v (.slice none 0 0)] (.sl 2 0 0 n::bI 0) rfl rfl (.keep (.keep (.fz (FzP.nil (n:=1)) (.same _)))) rfl h) (aw ?_)
  refine LpG.on (fun k0:KQ=>(⟨fL [(0,.sl 1000000 v 0 K.length),(3,.ptr 0 0 0),(4,.ptr 1 0 0),(6,.v (.int .i64 ((n:Nat):Int))),(7,.ptr 3 0 0),(8,.v (.int .i64 ((k0.k:Nat):Int)))],hLz [(0,⟨0,stA s,0,false⟩),(1,⟨0,[.v (.slice none 0 0),.v (.bool false),.v (.slice none 0 0)],0,false⟩),(2,⟨0,rF bI k0.q.cs,2,false⟩),(3,⟨0,.sl 2 0 0 n::bI k0.q.b,0,false⟩),(1000000,⟨v,rF iqA K,3,false⟩)],4⟩:St)) (fun k0=>(s.us.length-k0.k)) (fun k0=>(k0.k<=s.us.length/\(qw K (s.us.drop k0.k) k0.q=some Q/\BQ k0.q/\k0.q.cs.length=n))) (⟨0,⟨List.replicate n 0,0⟩⟩:KQ) (cO (.cons rfl rfl (.cons rfl rfl (.cons rfl rfl (.cons rfl rfl (.cons rfl rfl (.cons rfl rfl .nil)))))) (.cons rfl rfl rfl (.cons rfl rfl rfl (.cons rfl rfl (aa ae _ _) (.cons (by rfl) rfl rfl (.cons rfl rfl (aa ab _ _) .nil)))))) ⟨ad7 _,⟨hQ,⟨oh n,Mi⟩,by simp⟩⟩ ?_
  rintro k0 h4
  obtain⟨hle_k0,h0⟩:=h4
  refine LenG.of (cL (fun h2=>?_) (fun hb=>?_))
  ·obtain⟨j,ht,hj,q1,h5,hc⟩:=qu h2 h0.1
   replace h5:=rv h5
   have h7:=n6 h5.1
   have hkn:=(hK _ (adt hj)).2
   refine IdxG.of ‹_› (cD (fun hg=>?_) (fun hg=>?_))
   ·exfalso;omega
   refine OpG.lk (ck rfl Tryz.underlying85 rfl rfl rfl) (cB (fun h6=>?_) (fun h6=>?_))
   ·have hh:(s.us[k0.k].i:Int)≥((K.length:Nat):Int):=ad5 h6
    exfalso;have h:=ad5 h6;omega
   have hh:¬((s.us[k0.k].i:Int)≥((K.length:Nat):Int)):=ad4 h6
   refine ArgG.mk (mc (x:=s.us[k0.k].n) (hu _ (adt h2)).2) rfl ?_
   rintro _ rfl
   refine cB (fun ha=>?_) (fun ha=>?_)
   ·exfalso;have h:=Rr.1 (ad5 ha);have:=(hu _ (adt h2)).1;omega
   have hq63:¬(((sgZ (s.us[k0.k].n)):Int)<(0:Int)):=ad4 ha
   refine OpG.lk (az (k:=j) ab Tryz.underlying85 kz rfl rfl ht hj rfl) (OpG.lk (ik (k:=j) ab tl rfl rfl hj) ?_)
   refine LpG.on (fun k2:KN1=>(⟨fL [(0,.sl 1000000 v 0 K.length),(3,.ptr 0 0 0),(4,.ptr 1 0 0),(6,.v (.int .i64 ((n:Nat):Int))),(7,.ptr 3 0 0),(8,.v (.int .i64 ((k0.k:Nat):Int))),(9,.ptr 4 0 0),(10,.ptr 5 0 0),(11,.v (.int .i64 ((k2.k:Nat):Int)))],hLz [(0,⟨0,stA s,0,false⟩),(1,⟨0,[.v (.slice none 0 0),.v (.bool false),.v (.slice none 0 0)],0,false⟩),(2,⟨0,rF bI (q1.cs.take k2.k++k0.q.cs.drop k2.k),2,false⟩),(3,⟨0,.sl 2 0 0 n::bI k0.q.b,0,false⟩),(4,⟨0,usA s.us[k0.k],0,false⟩),(5,⟨0,iqA K[j],0,false⟩),(1000000,⟨v,rF iqA K,3,false⟩)],6⟩:St)) (fun k2=>(n-k2.k)) (fun k2=>(k2.k<=n/\True)) (⟨0⟩:KN1) (cO (.cons rfl rfl (.cons rfl rfl (.cons rfl rfl (.cons rfl rfl (.cons rfl rfl (.cons rfl rfl (.cons rfl rfl (.cons rfl rfl (.cons rfl rfl .nil))))))))) (.cons rfl rfl rfl (.cons rfl rfl rfl (.cons (by rfl) rfl (aa ae _ _) (.cons rfl rfl rfl (.cons rfl rfl rfl (.cons rfl rfl rfl (.cons rfl rfl (aa ab _ _) .nil)))))))) ⟨ad7 _,trivial⟩ ?_
   rintro k2 h4
   obtain⟨hle_k2,hi_k2⟩:=h4
   refine cL (fun hlt72=>?_) (fun hge72=>?_)
   ·have hi:=h7.2.2 k2.k (by omega) (by omega) (by have:=h7.1;omega)
    refine OpG.lk (az (k:=k2.k) ae Tryz.underlying45 iu rfl rfl rfl (by omega) rfl) (OpG.lk (pd ae da rfl rfl (Fc h7.1 (by omega))) ?_)
    refine IdxG.of (by omega) (ArgG.mk (R8 (x:=K[j].cs[k2.k]) (y:=s.us[k0.k].n) ((hK _ (adt hj)).1.c _ (adt _)) (hu _ (adt h2)).2 hi.1) rfl ?_)
    rintro _ rfl
    refine ArgG.mk (Ap (x:=k0.q.cs[k2.k]) (y:=(s.us[k0.k].n*K[j].cs[k2.k])) (h0.2.1.c _ (adt _)) hi.1 hi.2.1) rfl ?_
    rintro _ rfl
    refine OpG.lk (az (k:=k2.k) ae Tryz.underlying45 iu rfl rfl rfl (by omega) rfl) (OpG.wr (bj (k:=k2.k) (o:=0) (v:=k0.q.cs[k2.k]+s.us[k0.k].n*K[j].cs[k2.k]) ae iu rfl rfl rfl rfl rfl rfl (by rw[ca h7.1];omega) (by decide) rfl) rfl ?_)
    refine⟨by kernel_rfl,⟨by omega,?_⟩⟩
    refine⟨(⟨k2.k+1⟩:KN1),(by show n-(k2.k+1)<n-k2.k;omega),(cO (.cons rfl rfl (.cons rfl rfl (.cons rfl rfl (.cons rfl rfl (.cons rfl rfl (.cons rfl rfl (.cons rfl rfl (.cons rfl rfl (.cons rfl rfl .nil))))))))) (.cons rfl rfl rfl (.cons rfl rfl rfl (.cons (by(rw[km h7.1 (by omega) (fun h=>(h7.2.2 k2.k (by omega) (by omega) h).2.2.symm)];rfl)) rfl (aa ae _ _) (.cons rfl rfl rfl (.cons rfl rfl rfl (.cons rfl rfl rfl (.cons rfl rfl (aa ab _ _) .nil)))))))),⟨by show k2.k+1<=_;omega,?_⟩⟩
    trivial
   refine RegG.via (fun _ h=>c9 2 ⟨0,rF bI q1.cs,2,false⟩ rfl (by rw[ir h7.1 (by omega)]) h) (aw ?_)
   refine ArgG.mk (R8 (x:=K[j].b) (y:=s.us[k0.k].n) (hK _ (adt hj)).1.b (hu _ (adt h2)).2 h5.2.1) rfl ?_
   rintro _ rfl
   refine ArgG.mk (Ap (x:=k0.q.b) (y:=(s.us[k0.k].n*K[j].b)) h0.2.1.b h5.2.1 h5.2.2.1) rfl ?_
   rintro _ rfl
   refine⟨by kernel_rfl,⟨by omega,?_⟩⟩
   refine⟨(⟨k0.k+1,q1⟩:KQ),(by show s.us.length-(k0.k+1)<s.us.length-k0.k;omega),(cO (.cons rfl rfl (.cons rfl rfl (.cons rfl rfl (.cons rfl rfl (.cons rfl rfl (.cons rfl rfl .nil)))))) (.cons rfl rfl rfl (.cons rfl rfl rfl (.cons rfl rfl (aa ae _ _) (.cons (by(rw[h5.2.2.2];rfl)) rfl rfl (.cons rfl rfl (aa ab _ _) .nil)))))),⟨by show k0.k+1<=_;omega,?_⟩⟩
   exact⟨hc,⟨wi h5.1,by rw[h5.2.2.2];exact h5.2.2.1⟩,by show q1.cs.length=n;rw[h7.1];exact h0.2.2⟩
  have hm:=I7 hb h0.1
  refine RegG.via (fun _ h=>c9 2 ⟨0,rF bI Q.cs,2,false⟩ rfl (by rw[hm]) h) (RegG.via (fun _ h=>c9 3 ⟨0,.sl 2 0 0 n::bI Q.b,0,false⟩ rfl (by rw[hm]) h) ?_)
  refine aw (LpG.on (fun k4:KN1=>(⟨fL [(3,.ptr 0 0 0),(4,.ptr 1 0 0),(6,.v (.int .i64 ((n:Nat):Int))),(7,.ptr 3 0 0),(12,.v (.int .i64 ((k4.k:Nat):Int)))],hLz [(0,⟨0,stA s,0,false⟩),(1,⟨0,[.v (.slice none 0 0),.v (.bool false),.v (.slice none 0 0)],0,false⟩),(2,⟨0,rF bI ((Q.cs.map (flD · s.d)).take k4.k++Q.cs.drop k4.k),2,false⟩),(3,⟨0,.sl 2 0 0 n::bI Q.b,0,false⟩),(1000000,⟨v,rF iqA K,3,false⟩)],4⟩:St)) (fun k4=>(n-k4.k)) (fun k4=>(k4.k<=n/\True)) (⟨0⟩:KN1) (cO (.cons rfl rfl (.cons rfl rfl (.cons rfl rfl (.cons rfl rfl (.cons rfl rfl .nil))))) (.cons rfl rfl rfl (.cons rfl rfl rfl (.cons (by rfl) rfl (aa ae _ _) (.cons rfl rfl rfl (.cons rfl rfl (aa ab _ _) .nil)))))) ⟨ad7 _,trivial⟩ ?_)
  rintro k4 h4
  obtain⟨hle_k4,hi_k4⟩:=h4
  refine cL (fun hlt104=>?_) (fun hge104=>?_)
  ·have hn:flM Q.cs[k4.k] s.d=0:=hp _ (adt (by omega))
   refine OpG.lk (az (k:=k4.k) ae Tryz.underlying45 iu rfl rfl rfl (by omega) rfl) (OpG.lk (pd ae da rfl rfl (Fc (by simp) (by omega))) ?_)
   refine ArgG.mk (Lw (x:=Q.cs[k4.k]) (y:=s.d) (hk.c _ (adt _)) hf (by omega)) rfl ?_
   rintro _ rfl
   refine⟨by kernel_rfl,ArgG.mk (mc (x:=(flM Q.cs[k4.k] s.d)) (by rw[hn];exact Mi)) rfl ?_⟩
   rintro _ rfl
   refine cB (fun h3=>?_) (fun h3=>?_)
   ·exfalso;rw[hn]at h3;exact absurd h3 (by decide)
   have hq121:((sgZ ((flM Q.cs[k4.k] s.d))):Int)=(0:Int):=by simpa using h3
   refine OpG.lk (az (k:=k4.k) ae Tryz.underlying45 iu rfl rfl rfl (by omega) rfl) (OpG.wr (bj (k:=k4.k) (o:=0) (v:=flD Q.cs[k4.k] s.d) ae iu rfl rfl rfl rfl rfl rfl (by rw[ca (by simp)];omega) (by decide) rfl) rfl ?_)
   refine⟨by omega,⟨(⟨k4.k+1⟩:KN1),(by show n-(k4.k+1)<n-k4.k;omega),(cO (.cons rfl rfl (.cons rfl rfl (.cons rfl rfl (.cons rfl rfl (.cons rfl rfl .nil))))) (.cons rfl rfl rfl (.cons rfl rfl rfl (.cons (by(rw[km (r:=(Q.cs.map (flD · s.d))) (by simp) (by omega) (fun h=>(n9 (by omega) h).symm)];rfl)) rfl (aa ae _ _) (.cons rfl rfl rfl (.cons rfl rfl (aa ab _ _) .nil)))))),?_⟩⟩
   refine⟨by show k4.k+1<=_;omega,?_⟩
   trivial
  refine RegG.via (fun _ h=>c9 2 ⟨0,rF bI (Q.cs.map (flD · s.d)),2,false⟩ rfl (by rw[ir (by simp) (by omega)]) h) (aw ?_)
  refine ArgG.mk (Lw (x:=Q.b) (y:=s.d) hk.b hf (by omega)) rfl ?_
  rintro _ rfl
  refine⟨.inr rfl,_,M0.of [2] (a8 rfl (.cons (Z5.cellN tl rfl rfl trivial rfl rfl rfl) (.cons (Z5.tmp rfl) .nil))) rfl ⟨.same rfl (by decide),trivial⟩ (.fz (tupL (.cons (aggQ (q:=Sl Q s.d) (by simp) rfl (by simp[Sl];omega)) (.cons (.pure rfl) .nil)))),?_⟩
  rfl
 exfalso;have h:=ad4 h9;omega
theorem Qi(K:List IqS)(hK:iq K (fun y=>True))(S:List StS)(n:Nat)(R:List IqS)(h1:1<=n)(hc:n<=1000)(he:0<K.length)(hl:K.length+S.length<=100000)(ha:SyN n K)(hf:∀s∈S,s.us.length<=100000)(h:qy n S K=some R):PRet Tryz.prog 22 [.tree 3 (K.map iqA),.agg (pfA S)] (fun r=>r=.v (.bool (R.any fun q=>Im q))):=by
 have hg:iq K (fun _=>True):=⟨by omega,fun _ _=>trivial⟩
 have hh:evQ K=true:=Sj fun j hj=>by rw[(ha _ (adt hj)).2,(ha _ (adt he)).2]
 refine ovT [19,34,42,49,55,56] [] Tryz.func22 rfl rfl (ArgG.mk (Yw K hg (by omega)) rfl ?_)
 rintro _ rfl
 refine cB (fun h5=>?_) (fun h5=>?_)
 ·exfalso;rw[hh]at h5;cases h5
 refine OpG.nw (bm 1 Tryz.underlying85 kz) rfl (OpG.mk _ _ _ 2 (jg ab (l:=([]:List IqS)) (l':=K) Tryz.underlying85 kz ua Cs rfl rfl rfl rfl (by simp only[aeh];omega) (by simp only[aeh];omega) (by unfold TV;omega)) rfl rfl ?_)
 refine LpG.on (fun k0:KE=>(⟨fL [(3,.ptr 0 0 0),(5,.sl 1 k0.v 0 k0.L.length),(6,.v (.int .i64 ((k0.k:Nat):Int)))],hLz [(0,⟨0,pfA S,0,false⟩),(1,⟨k0.v,rF iqA k0.L,3,false⟩)],2⟩:St)) (fun k0=>(S.length-k0.k)) (fun k0=>(k0.k<=S.length/\(qy n (S.drop k0.k) k0.L=some R/\k0.v<=k0.k+1/\k0.L.length=K.length+k0.k/\SyN n k0.L))) (⟨0,K,1⟩:KE) (cO (.cons rfl rfl (.cons rfl rfl (.cons rfl rfl .nil))) (.cons rfl rfl rfl (.cons rfl rfl (aa ab _ _) .nil))) ⟨ad7 _,⟨h,ad9 _,rfl,ha⟩⟩ ?_
 rintro k0 h6
 obtain⟨hle_k0,h0⟩:=h6
 refine LenG.of (cL (fun h3=>?_) (fun h8=>?_))
 ·obtain⟨q1,hd,hi⟩:=Og h3 h0.1
  obtain⟨_,rfl,hk⟩:=Qr S[k0.k] k0.L k0.v n q1 h1 hc (by omega) (by omega) h0.2.2.2 (hf _ (adt h3)) hd
  refine IdxG.of ‹_› (OpG.lk (du (ba [(1000000,1)] adg hk rfl rfl rfl rfl ⟨sX ab,trivial⟩ ⟨okK,trivial⟩ ⟨aq ab _ _,trivial⟩ rfl rfl rfl rfl (j6 ab rfl) rfl) ⟨⟨.head _,rfl,rfl⟩,trivial⟩) ?_)
  refine cF (OpG.mk _ _ _ 4 (E9 ab (l:=k0.L) (a:=q1) Tryz.underlying85 kz ua Cs rfl rfl rfl (er rfl rfl rfl rfl) rfl (by omega) (by omega) (by unfold TV;omega)) rfl rfl ?_)
  refine⟨by omega,⟨(⟨k0.k+1,k0.L++[q1],k0.v+1⟩:KE),(by show S.length-(k0.k+1)<S.length-k0.k;omega),(cO (.cons rfl rfl (.cons rfl rfl (.cons rfl rfl .nil))) (.cons rfl rfl rfl (.cons rfl rfl (aa ab _ _) .nil))),?_⟩⟩
  exact⟨by show k0.k+1<=_;omega,⟨hi,by show k0.v+1<=k0.k+1+1;omega,by show(_++[_]).length=_;rw[adx,h0.2.2.1];simp only[aeg,aeh];omega,fun q hq=>by rcases adz.1 hq with hq|hq;exact h0.2.2.2 q hq;rw[ady.1 hq];exact V3 hd⟩⟩
 have hb:=Oh h8 h0.1
 have hRl:R.length<=100000:=by rw[<-hb];omega
 have h9:SyN n R:=by rw[<-hb];exact h0.2.2.2
 rw[hb]
 try refine LenG.of ?_
 refine cT (LpG.on (fun k2:KN1=>(⟨fL [(5,.sl 1 k0.v 0 R.length),(9,.v (.int .i64 ((k2.k:Nat):Int)))],hLz [(1,⟨k0.v,rF iqA R,3,false⟩)],2⟩:St)) (fun k2=>(R.length-k2.k)) (fun k2=>(k2.k<=R.length/\(∀j (hj:j<R.length),j<k2.k->Im R[j]=false))) (⟨0⟩:KN1) (cO (.cons rfl rfl (.cons rfl rfl .nil)) (.cons rfl rfl (aa ab _ _) .nil)) ⟨ad7 _,fun j hj h=>absurd h (ad8 j)⟩ ?_)
 rintro k2 h6
 obtain⟨hle_k2,h4⟩:=h6
 refine OpG.lk (ck rfl Tryz.underlying85 rfl rfl rfl) (cL (fun h2=>?_) (fun hge50=>?_))
 ·refine OpG.lk (az (k:=k2.k) ab Tryz.underlying85 kz rfl rfl rfl h2 rfl) (OpG.lk (ik (k:=k2.k) ab tl rfl rfl h2) ?_)
  refine ArgG.mk (adl R[k2.k] (h9 _ (adt h2)).1 (by rw[(h9 _ (adt h2)).2];exact hc)) rfl ?_
  rintro _ rfl
  refine cB (fun h7=>?_) (fun h7=>?_)
  ·refine rV rfl rfl ?_
   rw[show R.any (fun q=>Im q)=true from List.any_eq_true.2 ⟨_,adt h2,h7⟩];rfl
  refine⟨by omega,⟨(⟨k2.k+1⟩:KN1),(by show R.length-(k2.k+1)<R.length-k2.k;omega),(cO (.cons rfl rfl (.cons rfl rfl .nil)) (.cons rfl rfl (aa ab _ _) .nil)),?_⟩⟩
  refine⟨by show k2.k+1<=_;omega,?_⟩
  intro j hj h
  rcases aea.1 h with h|rfl
  ·exact h4 j hj h
  exact h7
 refine rV rfl rfl ?_
 rw[show R.any (fun q=>Im q)=false from List.any_eq_false.2 fun q hq=>by obtain⟨j,hj,rfl⟩:=aef hq;rw[h4 j hj (by omega)];exact aer];rfl
end Go.Proofs.YtbhhmbchdponjaaGreatDoor
