/- Texts of the claim. -/
import Derived.KernelRfl
import Derived.Test.YtmbmbhkemgmhfaaGreatDoorB1
import Derived.Test.YtmbmbhkemgmhfaaGreatDoorQ2
import Derived.Test.YtmbmbhkemgmhfaaGreatDoorT8
namespace Go.Proofs.YtmbmbhkemgmhfaaGreatDoor
set_option maxRecDepth 1000000
set_option maxHeartbeats 0
set_option linter.unusedVariables false
set_option linter.unusedSimpArgs false
open Go.RowKit
theorem dg_b{x:Int}(h:B1 x):Dg (bgI x).a_/\(bgI x).a_.length<=1:=by
 have h2:=@c8 (aZ x)
 rw[show(bgI x).a_=dgN (aZ x)from Ny]
 refine⟨?_,h2⟩
 intro z hz
 unfold dgN at hz
 split at hz
 ·cases hz
 rw[agy.1 hz];exact⟨mc x,by have:=s8 h;omega⟩
abbrev pbP(l:List PVar)(nu M:List Int)(Is:List PCon)(Ts:List GTst):List AV:=.tree 5 (l.map vA)::(clX nu M Is Ts++[.v (.slice none 0 0)])
theorem dg:RowF gvA 3:=⟨fun _=>rfl,fun _=>rfl,fun _ _=>rfl,fun _ _=>rfl,fun _ _=>rfl,fun _=>rfl⟩
theorem Jd{P:Program}{τ:Nat->AV}{η:bf}{d:Option Tmp}{ty:TypeId}{pos:String}{af:Array Edge}{g:Option (Nat×Bool)}{t:Nat}{x y:Operand}(u:Nat){e len by_:Nat}{v:Int}(he:P.underlying t=some (.slice e))(hs:ap P e=some 3)(hz:bi P e=some (.agg #[.int .i64 0,.int .i64 0,.string ⟨#[]⟩]))(h3:(P.info? e).map (·.bytes)=some by_)
 (hx:aev τ x=.v (.int .i64 v))(hy:aev τ y=.v (.int .i64 v))(hv:v=((len:Nat):Int))(hl:by_*len<=140737488355328)(hl2:len<=1000000)(h0:len≠0):
 LOp P ⟨d,.makeSlice t x y,ty,pos,af,g⟩ τ η [] [(u,some ⟨0,rF gvA (List.replicate len zV),3,false⟩)] (.sl u 0 0 len):=by
 refine od u he hs hz h3 hx hy hv hl (by omega) h0 (by decide) (by rw[ib dg];simp) fun i h T w=>?_
 obtain⟨h1,e1⟩:=x8 dg h
 rw[e1]
 show TR T w _ ((#[.int .i64 0,.int .i64 0,.string ⟨#[]⟩]:Array Value)[i%3]!)
 have h2:i%3=0\/i%3=1\/i%3=2:=by omega
 rcases h2 with h2|h2|h2<;>simp only[h2]<;>exact .v _
def StM(L:List (Int×Value)):Prop:=∀p∈L,∃s,p.2=.string s
theorem Yr{L:List (Int×Value)}(h:StM L)(k:Int):∃s,asX (.string ⟨#[]⟩) L k=.string s:=by
 rcases ra (z0:=.string ⟨#[]⟩) (k:=k) L with⟨e,_⟩|⟨j,hj,_,_,e⟩
 ·exact⟨_,e⟩
 rw[<-e];exact h _ (agt hj)
theorem by28:(Tryz.prog.info? 28).map (·.bytes)=some 32:=by kernel_rfl
theorem H4:ap Tryz.prog 28=some 3:=by kernel_rfl
theorem zr28:bi Tryz.prog 28=some (.agg #[.int .i64 0,.int .i64 0,.string ⟨#[]⟩]):=by kernel_rfl
theorem afk(M:List Int)(hM:fy M (fun y=>True))(v:Int):PRet Tryz.prog 31 [.tree 1 (M.map iA),.v (.int .i64 v)] (fun q=>∃a:Int,q=.v (.int .i64 a)/\(0<=a↔v∈M)):=by
 refine ovT [] [] Tryz.func31 rfl rfl (LenG.of ?_)
 refine LpG.on (fun k0:Nat=>(⟨fL [(0,.tree 1 (M.map iA)),(1,.v (.int .i64 v)),(7,.v (.int .i64 ((M.length:Nat):Int))),(8,.v (.int .i64 ((k0:Nat):Int)))],hLz [],0⟩:St)) (fun k0=>(M.length-k0)) (fun k0=>(k0<=M.length/\∀j (hl:j<M.length),j<k0->M[j]≠v)) 0 (cO (.cons rfl rfl (.cons rfl rfl (.cons rfl rfl (.cons rfl rfl .nil)))) .nil) ⟨ag6 _,fun j _ h=>absurd h (ag7 j)⟩ ?_
 rintro k0 h2
 have hgr_k0:M.length<=140737488355328:=hM.1
 obtain⟨hle_k0,h0⟩:=h2
 refine cL (fun hlt9=>?_) (fun hge9=>?_)
 ·refine IdxG.of ‹_› (cE (fun h1=>?_) (fun h1=>?_))
  ·exact rV rfl rfl ⟨_,rfl,fun _=>by rw[show v=M[k0]from h1];exact agt _,fun _=>Int.natCast_nonneg _⟩
  refine⟨by omega,⟨(k0+1),by omega,(cO (.cons rfl rfl (.cons rfl rfl (.cons rfl rfl (.cons rfl rfl .nil)))) .nil),?_⟩⟩
  refine⟨by omega,fun j hl h=>?_⟩
  rcases ag9.1 h with h|rfl
  ·exact h0 j hl h
  exact fun e=>h1 e.symm
 exact rV rfl rfl ⟨_,rfl,fun h=>absurd h (by decide),fun h=>by obtain⟨j,hj,e⟩:=ahe h;exact absurd e (h0 j hj (by omega))⟩
theorem abp(M:List Int)(hM:fy M (fun y=>True))(v:Int):PRet Tryz.prog 25 [.tree 1 (M.map iA),.v (.int .i64 v)] (fun q=>∃b:Bool,q=.v (.bool b)/\(b=true↔v∈M)):=by
 refine ovT [] [] Tryz.func25 rfl rfl (ArgG.mk (afk M hM v) rfl ?_)
 rintro _ ⟨a0,rfl,h0⟩
 exact rV rfl rfl ⟨_,rfl,by rw[<-h0];exact decide_eq_true_iff⟩
theorem L8(x:Int)(hx:B1 x):PRet Tryz.prog 37 [.agg (bI x)] (fun q=>∃(a:Int) (b:Bool),q=.tup [.v (.int .i64 a),.v (.bool b)]):=by
 obtain⟨hD,hdl⟩:=dg_b hx
 refine ovT [] [] Tryz.func37 rfl rfl (ArgG.mk (v7 hx) rfl ?_)
 rintro _ rfl
 refine LenG.of (cB (fun h0=>?_) (fun h0=>?_))
 ·exfalso;have:=ag4 h0;omega
 have hq10:¬((((bgI x).a_.length:Nat):Int)>(2:Int)):=ag3 h0
 refine ArgG.mk (wl (bgI x).a_ (jj (by omega)) hD 0) rfl ?_
 rintro _ rfl
 refine ArgG.mk (wl (bgI x).a_ (jj (by omega)) hD 1) rfl ?_
 rintro _ rfl
 refine OpG.lk (lP rfl (fun _ _=>nofun) (fun _=>rfl)) (OpG.lk (lP rfl (fun _ _=>nofun) (fun _=>rfl)) ?_)
 refine⟨by kernel_rfl,cB (fun h3=>?_) (fun h3=>?_)⟩
 ·refine OpG.lk (lP rfl (fun _ _=>nofun) (fun _=>rfl)) (cB (fun h4=>?_) (fun h4=>?_))
  ·refine OpG.lk (lP rfl (fun _ _=>nofun) (fun _=>rfl)) (OpG.lk (lP rfl (fun _ _=>nofun) (fun _=>rfl)) ?_)
   exact⟨.inr rfl,_,Og.two rfl (T7.tmp ⟨[],FzP.pure rfl⟩) (T7.tmp ⟨[],FzP.pure rfl⟩),⟨_,_,rfl⟩⟩
  refine cB (fun h1=>?_) (fun h1=>?_)
  ·refine OpG.lk (lP rfl (fun _ _=>nofun) (fun _=>rfl)) (cB (fun h2=>?_) (fun h2=>?_))
   ·exact OpG.lk (lP rfl (fun _ _=>nofun) (fun _=>rfl)) ⟨.inr rfl,_,Og.two rfl (T7.tmp ⟨[],FzP.pure rfl⟩) (T7.tmp ⟨[],FzP.pure rfl⟩),⟨_,_,rfl⟩⟩
   exact⟨.inr rfl,_,Og.two rfl (T7.tmp ⟨[],FzP.pure rfl⟩) (T7.tmp ⟨[],FzP.pure rfl⟩),⟨_,_,rfl⟩⟩
  exact cF ⟨.inr rfl,_,Og.two rfl (T7.tmp ⟨[],FzP.pure rfl⟩) (T7.tmp ⟨[],FzP.pure rfl⟩),⟨_,_,rfl⟩⟩
 refine cF (cB (fun h1=>?_) (fun h1=>?_))
 ·refine OpG.lk (lP rfl (fun _ _=>nofun) (fun _=>rfl)) (cB (fun h2=>?_) (fun h2=>?_))
  ·exact OpG.lk (lP rfl (fun _ _=>nofun) (fun _=>rfl)) ⟨.inr rfl,_,Og.two rfl (T7.tmp ⟨[],FzP.pure rfl⟩) (T7.tmp ⟨[],FzP.pure rfl⟩),⟨_,_,rfl⟩⟩
  exact⟨.inr rfl,_,Og.two rfl (T7.tmp ⟨[],FzP.pure rfl⟩) (T7.tmp ⟨[],FzP.pure rfl⟩),⟨_,_,rfl⟩⟩
 exact cF ⟨.inr rfl,_,Og.two rfl (T7.tmp ⟨[],FzP.pure rfl⟩) (T7.tmp ⟨[],FzP.pure rfl⟩),⟨_,_,rfl⟩⟩
theorem ad0(l:List PVar)(nu M:List Int)(Is:List PCon)(Ts:List GTst)(R:List Int)(Lm:List (Int×Value))(hn1:1<=l.length)(hn2:l.length<=1000)(h7:fy M (fun _=>True))(hR:∀x∈R,B1 x)(hRl:R.length=l.length)(hL:StM Lm):o7 Tryz.prog 35 [.agg (pbP l nu M Is Ts),.tree 2 (R.map bI),.mp 1000000 0] [(1000000,(xg Lm))] [(1000000,some ((xg Lm)))] (fun q=>∃W:List GVal,q=.tree 3 (W.map gvA)):=by
 refine o7.of_vc ik [16,35,51,53,68,100035,100053,100068] [] Tryz.func35 rfl Tryz.ntmps35 rfl (by kernel_rfl) (LenG.of ?_)
 refine OpG.nw (Jd 1 (len:=l.length) Tryz.underlying24 H4 zr28 by28 rfl rfl rfl (by omega) (by omega) (by omega)) rfl (LenG.of ?_)
 refine LpG.on (fun k0:KL GVal=>(⟨fL [(1,.tree 2 (R.map bI)),(2,.mp 1000000 0),(3,.ptr 0 0 0),(7,.sl 1 0 0 l.length),(18,.tree 5 (l.map vA)),(19,.v (.int .i64 ((l.length:Nat):Int))),(20,.v (.int .i64 ((k0.k:Nat):Int)))],hLz [(0,⟨0,(pbP l nu M Is Ts),0,false⟩),(1,⟨0,rF gvA k0.L,3,false⟩),(1000000,(xg Lm))],2⟩:St)) (fun k0=>(l.length-k0.k)) (fun k0=>(k0.k<=l.length/\(k0.L.length=l.length))) (⟨0,List.replicate l.length zV⟩:KL GVal) (cO (.cons rfl rfl (.cons rfl rfl (.cons rfl rfl (.cons rfl rfl (.cons rfl rfl (.cons rfl rfl (.cons rfl rfl .nil))))))) (.cons rfl rfl rfl (.cons rfl rfl (aa dg _ _) (.cons rfl rfl (ee _ _) .nil)))) ⟨ag6 _,(by simp)⟩ ?_
 rintro k0 h4
 obtain⟨hle_k0,h0⟩:=h4
 refine cL (fun hlt21=>?_) (fun hge21=>?_)
 ·obtain⟨s51,h3⟩:=Yr hL ((k0.k:Nat):Int)
  have hkR:k0.k<R.length:=by omega
  refine IdxG.of ‹_› (ArgG.mk (abp M h7 ((k0.k:Nat):Int)) rfl ?_)
  rintro _ ⟨b29,rfl,hb29⟩
  refine cB (fun h5=>?_) (fun h5=>?_)
  ·refine cB (fun h6=>?_) (fun h6=>?_)
   ·refine⟨by omega,⟨(⟨k0.k+1,k0.L⟩:KL GVal),(by show l.length-(k0.k+1)<l.length-k0.k;omega),(cO (.cons rfl rfl (.cons rfl rfl (.cons rfl rfl (.cons rfl rfl (.cons rfl rfl (.cons rfl rfl (.cons rfl rfl .nil))))))) (.cons rfl rfl rfl (.cons rfl rfl (aa dg _ _) (.cons rfl rfl (ee _ _) .nil)))),?_⟩⟩
    exact⟨by show k0.k+1<=_;omega,h0⟩
   refine cE (fun h1=>?_) (fun h1=>?_)
   ·refine OpG.lk (w8 (v:=.string s51) Tryz.underlying102 Tryz.underlying3 zr9 rfl rfl rfl h3) (OpG.lk (ak (k:=k0.k) dg Tryz.underlying24 H4 rfl rfl rfl (by omega) rfl) ?_)
    refine OpG.wr (az (k:=k0.k) (o:=0) (v:=(⟨2,0,s51⟩:GVal)) dg H4 rfl rfl rfl rfl rfl rfl (by omega) (by decide) rfl) rfl ⟨by omega,⟨(⟨k0.k+1,k0.L.set k0.k (⟨2,0,s51⟩:GVal)⟩:KL GVal),(by show l.length-(k0.k+1)<l.length-k0.k;omega),(cO (.cons rfl rfl (.cons rfl rfl (.cons rfl rfl (.cons rfl rfl (.cons rfl rfl (.cons rfl rfl (.cons rfl rfl .nil))))))) (.cons rfl rfl rfl (.cons rfl rfl (aa dg _ _) (.cons rfl rfl (ee _ _) .nil)))),?_⟩⟩
    exact⟨by show k0.k+1<=_;omega,(List.length_set ..).trans h0⟩
   refine cB (fun h2=>?_) (fun h2=>?_)
   ·refine IdxG.of ‹_› (ArgG.mk (L8 R[k0.k] (hR R[k0.k] (agt _))) rfl ?_)
    rintro _ ⟨a61,b61,rfl⟩
    refine OpG.lk (ak (k:=k0.k) dg Tryz.underlying24 H4 rfl rfl rfl (by omega) rfl) (OpG.wr (az (k:=k0.k) (o:=0) (v:=(⟨1,a61,⟨#[]⟩⟩:GVal)) dg H4 rfl rfl rfl rfl rfl rfl (by omega) (by decide) rfl) rfl ?_)
    refine⟨by omega,⟨(⟨k0.k+1,k0.L.set k0.k (⟨1,a61,⟨#[]⟩⟩:GVal)⟩:KL GVal),(by show l.length-(k0.k+1)<l.length-k0.k;omega),(cO (.cons rfl rfl (.cons rfl rfl (.cons rfl rfl (.cons rfl rfl (.cons rfl rfl (.cons rfl rfl (.cons rfl rfl .nil))))))) (.cons rfl rfl rfl (.cons rfl rfl (aa dg _ _) (.cons rfl rfl (ee _ _) .nil)))),?_⟩⟩
    exact⟨by show k0.k+1<=_;omega,(List.length_set ..).trans h0⟩
   refine OpG.lk (ak (k:=k0.k) dg Tryz.underlying24 H4 rfl rfl rfl (by omega) rfl) (OpG.wr (az (k:=k0.k) (o:=0) (v:=(⟨1,l[k0.k].lo,⟨#[]⟩⟩:GVal)) dg H4 rfl rfl rfl rfl rfl rfl (by omega) (by decide) rfl) rfl ?_)
   refine⟨by omega,⟨(⟨k0.k+1,k0.L.set k0.k (⟨1,l[k0.k].lo,⟨#[]⟩⟩:GVal)⟩:KL GVal),(by show l.length-(k0.k+1)<l.length-k0.k;omega),(cO (.cons rfl rfl (.cons rfl rfl (.cons rfl rfl (.cons rfl rfl (.cons rfl rfl (.cons rfl rfl (.cons rfl rfl .nil))))))) (.cons rfl rfl rfl (.cons rfl rfl (aa dg _ _) (.cons rfl rfl (ee _ _) .nil)))),?_⟩⟩
   exact⟨by show k0.k+1<=_;omega,(List.length_set ..).trans h0⟩
  refine cF (cE (fun h1=>?_) (fun h1=>?_))
  ·refine OpG.lk (w8 (v:=.string s51) Tryz.underlying102 Tryz.underlying3 zr9 rfl rfl rfl h3) (OpG.lk (ak (k:=k0.k) dg Tryz.underlying24 H4 rfl rfl rfl (by omega) rfl) ?_)
   refine OpG.wr (az (k:=k0.k) (o:=0) (v:=(⟨2,0,s51⟩:GVal)) dg H4 rfl rfl rfl rfl rfl rfl (by omega) (by decide) rfl) rfl ⟨by omega,⟨(⟨k0.k+1,k0.L.set k0.k (⟨2,0,s51⟩:GVal)⟩:KL GVal),(by show l.length-(k0.k+1)<l.length-k0.k;omega),(cO (.cons rfl rfl (.cons rfl rfl (.cons rfl rfl (.cons rfl rfl (.cons rfl rfl (.cons rfl rfl (.cons rfl rfl .nil))))))) (.cons rfl rfl rfl (.cons rfl rfl (aa dg _ _) (.cons rfl rfl (ee _ _) .nil)))),?_⟩⟩
   exact⟨by show k0.k+1<=_;omega,(List.length_set ..).trans h0⟩
  refine cB (fun h2=>?_) (fun h2=>?_)
  ·refine IdxG.of ‹_› (ArgG.mk (L8 R[k0.k] (hR R[k0.k] (agt _))) rfl ?_)
   rintro _ ⟨a61,b61,rfl⟩
   refine OpG.lk (ak (k:=k0.k) dg Tryz.underlying24 H4 rfl rfl rfl (by omega) rfl) (OpG.wr (az (k:=k0.k) (o:=0) (v:=(⟨1,a61,⟨#[]⟩⟩:GVal)) dg H4 rfl rfl rfl rfl rfl rfl (by omega) (by decide) rfl) rfl ?_)
   refine⟨by omega,⟨(⟨k0.k+1,k0.L.set k0.k (⟨1,a61,⟨#[]⟩⟩:GVal)⟩:KL GVal),(by show l.length-(k0.k+1)<l.length-k0.k;omega),(cO (.cons rfl rfl (.cons rfl rfl (.cons rfl rfl (.cons rfl rfl (.cons rfl rfl (.cons rfl rfl (.cons rfl rfl .nil))))))) (.cons rfl rfl rfl (.cons rfl rfl (aa dg _ _) (.cons rfl rfl (ee _ _) .nil)))),?_⟩⟩
   exact⟨by show k0.k+1<=_;omega,(List.length_set ..).trans h0⟩
  refine OpG.lk (ak (k:=k0.k) dg Tryz.underlying24 H4 rfl rfl rfl (by omega) rfl) (OpG.wr (az (k:=k0.k) (o:=0) (v:=(⟨1,l[k0.k].lo,⟨#[]⟩⟩:GVal)) dg H4 rfl rfl rfl rfl rfl rfl (by omega) (by decide) rfl) rfl ?_)
  refine⟨by omega,⟨(⟨k0.k+1,k0.L.set k0.k (⟨1,l[k0.k].lo,⟨#[]⟩⟩:GVal)⟩:KL GVal),(by show l.length-(k0.k+1)<l.length-k0.k;omega),(cO (.cons rfl rfl (.cons rfl rfl (.cons rfl rfl (.cons rfl rfl (.cons rfl rfl (.cons rfl rfl (.cons rfl rfl .nil))))))) (.cons rfl rfl rfl (.cons rfl rfl (aa dg _ _) (.cons rfl rfl (ee _ _) .nil)))),?_⟩⟩
  exact⟨by show k0.k+1<=_;omega,(List.length_set ..).trans h0⟩
 exact⟨.inr rfl,_,Fg.of [1] (aw rfl (.cons (acn.tmp rfl) .nil)) rfl ⟨.same rfl (by decide),trivial⟩ (.fz (bn dg (agy.2 rfl) rfl h0.symm)),⟨_,rfl⟩⟩
theorem Cr{P:GQ->ByteArray->Prop}:∀(q:List GQ),(∀x∈q,∃s,P x s)->∃xs:List ByteArray,xs.length=q.length/\∀k (h:k<q.length),P q[k] (xs.getD k ⟨#[]⟩)
 |[],_=>⟨[],rfl,fun _ h=>absurd h (ag7 _)⟩
 |x::r,h=>by
  obtain⟨s,hs⟩:=h x (List.mem_cons_self ..)
  obtain⟨xs,h1,h2⟩:=Cr r (fun y hy=>h y (List.mem_cons_of_mem _ hy))
  refine⟨s::xs,by simp[h1],fun k hk=>?_⟩
  cases k with
  |zero=>exact hs
  |succ k=>exact h2 k (by simpa using hk)
abbrev PrT(w:ByteArray):Prop:=∀k,k<w.size->32<=(bAt w k).toNat/\(bAt w k).toNat<=126
theorem Pn(q:List GQ)(h8:q.length<=8)(hh:∀x∈q,x.h<=16)(hv:∀k (h:k<q.length),q[k].v=((k:Nat):Int))(hw:∀x∈q,x.w.size<=x.h/\PrT x.w):PRet Tryz.prog 44 [.agg (pbQ q)] (fun r=>∃V:List ByteArray,V.length=q.length/\r=.tup [.tree 1 (V.map sA),.v (.bool true)]):=by
 by_cases h1:1<=q.length
 ·obtain⟨xs,hx,hX⟩:=Cr (P:=fun x s=>PRet Tryz.prog 66 [.agg (kcR ⟨((x.h:Nat):Int),[tE x.v x.w],[]⟩),.v (.int .i64 1)] (fun r=>r=.tree 1 ([s].map sA))) q (fun x hx=>by
   obtain⟨_,⟨s,rfl⟩,hc⟩:=Qr x.v x.w x.h (hw x hx).1 (hh x hx) (hw x hx).2
   exact⟨s,_,rfl,hc⟩)
  exact Po q xs h1 h8 hh hv hx hX
 have e:q=[]:=ahm (by omega)
 subst e
 exact(ll (ret:=.tup [.tree 1 [],.v (.bool true)]) (by kernel_rfl)).mono fun _ h=>⟨[],rfl,h⟩
abbrev wm(N:List Int)(V:List ByteArray)(k:Nat):List (Int×Value):=(List.range k).map fun i=>(N.getD i 0,Value.string (V.getD i ⟨#[]⟩))
theorem Yk{N:List Int}{V:List ByteArray}{k:Nat}(h1:k<N.length)(h2:k<V.length):wm N V k++[(N[k],Value.string V[k])]=wm N V (k+1):=by
 simp[wm,List.range_succ,List.getD,h1,h2]
theorem Yi{N:List Int}{V:List ByteArray}{k:Nat}:StM (wm N V k):=fun p hp=>by
 obtain⟨i,_,rfl⟩:=ahj.1 hp;exact⟨_,rfl⟩
theorem Yj{N:List Int}(hn:N.Pairwise (·<·)){V:List ByteArray}{k:Nat}(h:k<N.length):∀p∈wm N V k,p.1≠N[k]:=by
 intro p hp e
 obtain⟨i,hi,rfl⟩:=ahj.1 hp
 have hi:=List.mem_range.1 hi
 have e:N.getD i 0=N[k]:=e
 rw[show N.getD i 0=N[i]by simp[List.getD,show i<N.length by omega]]at e
 have:=List.pairwise_iff_getElem.1 hn i k (by omega) h hi
 omega
theorem aea{l:List PVar}{M:List Int}{tx:Int->ByteArray}(hM:AsN l.length M)(hl8:l.length<=8)(h0:LOk l)(hT:∀v∈M.filter (isT l),(((tx v).size:Nat):Int)<=mxO l v/\PrT (tx v)):(qX l tx (M.filter (isT l))).length<=8/\(∀x∈qX l tx (M.filter (isT l)),x.h<=16)/\(∀k (h:k<(qX l tx (M.filter (isT l))).length),(qX l tx (M.filter (isT l)))[k].v=((k:Nat):Int))/\(∀x∈qX l tx (M.filter (isT l)),x.w.size<=x.h/\PrT x.w):=by
 have hml:=hM.len
 have hNM:(M.filter (isT l)).length<=M.length:=List.length_filter_le ..
 have key:∀x∈qX l tx (M.filter (isT l)),x.h<=16/\x.w.size<=x.h/\PrT x.w:=by
  intro x hx
  obtain⟨i,hi,rfl⟩:=ahj.1 hx
  have hi:=List.mem_range.1 hi
  have e:(M.filter (isT l)).getD i 0=(M.filter (isT l))[i]:=by simp[List.getD,hi]
  have hm:=agt hi
  obtain⟨j,ej,hj⟩:=hM.nat _ (List.mem_filter.1 hm).1
  obtain⟨g1,g2⟩:=hT _ hm
  rw[mxO,gD ej hj]at g1
  have h2:=h0 _ (agt hj)
  show(mxO l ((M.filter (isT l)).getD i 0)).toNat<=16/\(tx ((M.filter (isT l)).getD i 0)).size<=(mxO l ((M.filter (isT l)).getD i 0)).toNat/\PrT (tx ((M.filter (isT l)).getD i 0))
  rw[e,mxO,gD ej hj]
  exact⟨by omega,by omega,g2⟩
 exact⟨by simp;omega,fun x hx=>(key x hx).1,fun k h=>by simp,fun x hx=>(key x hx).2⟩
theorem nk:RowF paA 2:=⟨fun _=>rfl,fun _=>rfl,fun _ _=>rfl,fun _ _=>rfl,fun _ _=>rfl,fun _=>rfl⟩
theorem Jb{P:Program}{τ:Nat->AV}{η:bf}{d:Option Tmp}{ty:TypeId}{pos:String}{af:Array Edge}{g:Option (Nat×Bool)}{t:Nat}{x y:Operand}(u:Nat){e len by_:Nat}{v:Int}(he:P.underlying t=some (.slice e))(hs:ap P e=some 2)(hz:bi P e=some (.agg #[.int .i64 0,.int .i64 0]))(h3:(P.info? e).map (·.bytes)=some by_)
 (hx:aev τ x=.v (.int .i64 v))(hy:aev τ y=.v (.int .i64 v))(hv:v=((len:Nat):Int))(hl:by_*len<=140737488355328)(hl2:len<=1000000)(h0:len≠0):
 LOp P ⟨d,.makeSlice t x y,ty,pos,af,g⟩ τ η [] [(u,some ⟨0,rF paA (List.replicate len (0,0)),2,false⟩)] (.sl u 0 0 len):=by
 refine od u he hs hz h3 hx hy hv hl (by omega) h0 (by decide) (by rw[ib nk];simp) fun i h T w=>?_
 obtain⟨h1,e1⟩:=x8 nk h
 rw[e1]
 show TR T w _ ((#[.int .i64 0,.int .i64 0]:Array Value)[i%2]!)
 have h2:i%2=0\/i%2=1:=by omega
 rcases h2 with h2|h2<;>simp only[h2]<;>exact .v _
theorem Yb{α:Type}{Y Z:List α}{k:Nat}(hl:Y.length=Z.length)(h:k<Z.length)(e:∀h':k<Y.length,Y[k]=Z[k]):Y.take k++Z.drop k=Y.take (k+1)++Z.drop (k+1):=by
 rw[<-el (v:=Z[k]) hl h (fun h'=>(e h').symm)]
 have h1:k<(Y.take k++Z.drop k).length:=by rw[bw hl];exact h
 have e2:(Y.take k++Z.drop k)[k]=Z[k]:=k7 hl h h1
 rw[<-e2,List.set_getElem_self]
abbrev rf0:List AV:=[.v (.int .i64 0),.v (.int .i64 0),.v (.int .i64 0),.v (.slice none 0 0),.v (.slice none 0 0),.v (.bool false),.v (.slice none 0 0),.v (.slice none 0 0),.v (.slice none 0 0)]
abbrev pf0:List AV:=[.v (.slice none 0 0),.v (.slice none 0 0),.v (.bool false),.v (.slice none 0 0),.v (.slice none 0 0)]
theorem agj:bv Tryz.prog 32=true:=by kernel_rfl
theorem agi:bv Tryz.prog 35=true:=by kernel_rfl
theorem by97:(Tryz.prog.info? 97).map (·.bytes)=some 16:=by kernel_rfl
theorem Y4:c9 Tryz.prog 75=some (some 9):=by kernel_rfl
theorem zr97:bi Tryz.prog 97=some (.agg #[.int .i64 0,.int .i64 0]):=by kernel_rfl
theorem Q3(l:List PVar)(nu M:List Int)(Is:List PCon)(tx:Int->ByteArray)(h3:fy l (fun _=>True))(hM:AsN l.length M)(hl1:1<=l.length)(h4:l.length<=8)(h2:LOk l)(hT:∀v∈M.filter (isT l),(((tx v).size:Nat):Int)<=mxO l v/\PrT (tx v)):Jm Tryz.prog 32 [.agg (pbP l nu M Is ((M.filter (isT l)).map fun v=>tE v (tx v))),.tree 2 (((rgL l)).map paA)] [] (fun q hb'=>∃L,StM L/\hb'=[(3,some (xg L))]/\q=.tup [.mp 3 0,.agg (pbQ (qX l tx (M.filter (isT l)))),.v (.bool true)]):=by
 obtain⟨h5,h6,h7,h8⟩:=aea hM h4 h2 hT
 have hml:=hM.len
 have hNM:(M.filter (isT l)).length<=M.length:=List.length_filter_le ..
 refine Jm.of_vc ik [] [] Tryz.func32 rfl Tryz.ntmps32 rfl (by kernel_rfl) (ArgG.mk (Up l h3 nu M Is tx hM (by omega) h2) rfl ?_)
 rintro _ rfl
 refine ArgG.mk (Pn (qX l tx (M.filter (isT l))) h5 h6 h7 h8) rfl ?_
 rintro _ ⟨V,hV,rfl⟩
 refine cF (OpG.nw (LOp.makeMap 3) rfl ?_)
 refine LenG.of (LpG.on (fun k0:Nat=>(⟨fL [(5,.ptr 1 0 0),(7,.ptr 2 0 0),(9,.tree 1 (V.map sA)),(11,.mp 3 0),(32,.tree 1 (((M.filter (isT l))).map iA)),(33,.v (.int .i64 (((M.filter (isT l)).length:Nat):Int))),(34,.v (.int .i64 ((k0:Nat):Int)))],hLz [(1,⟨0,[.v (.slice none 0 0),.v (.slice none 0 0),.v (.slice none 0 0),.v (.slice none 0 0),.v (.slice none 0 0)],0,false⟩),(2,⟨0,pbQ (qX l tx (M.filter (isT l))),0,false⟩),(3,(xg (wm (M.filter (isT l)) V k0)))],4⟩:St)) (fun k0=>((M.filter (isT l)).length-k0)) (fun k0=>(k0<=(M.filter (isT l)).length)) 0 (cO (.cons rfl rfl (.cons rfl rfl (.cons rfl rfl (.cons rfl rfl (.cons rfl rfl (.cons rfl rfl (.cons rfl rfl .nil))))))) (.cons rfl rfl rfl (.cons rfl rfl rfl (.cons (by rfl) rfl (ee _ _) .nil)))) (ag6 _) ?_)
 rintro k0 h1
 have hle_k0:=h1
 refine cL (fun h0=>?_) (fun hge35=>?_)
 ·have h9:k0<V.length:=by rw[hV];simp;exact h0
  refine IdxG.of ‹_› (IdxG.of ‹_› ?_)
  refine OpG.wr (H0 (a:=.string V[k0]) Tryz.underlying102 Tryz.underlying3 rfl rfl rfl rfl (Yj (hM.fil _).lt h0)) rfl ⟨by omega,⟨(k0+1),by omega,(cO (.cons rfl rfl (.cons rfl rfl (.cons rfl rfl (.cons rfl rfl (.cons rfl rfl (.cons rfl rfl (.cons rfl rfl .nil))))))) (.cons rfl rfl rfl (.cons rfl rfl rfl (.cons (by(rw[Yk h0 h9];rfl)) rfl (ee _ _) .nil)))),?_⟩⟩
  omega
 refine⟨by kernel_rfl,⟨.inr rfl,_,_,Fg.of (hb':=[(3,some (xg (wm (M.filter (isT l)) V k0)))]) [] (aw rfl (.cons (acn.tmp rfl) (.cons (acn.cellN Sr rfl rfl trivial rfl rfl rfl) (.cons (acn.tmp rfl) .nil)))) rfl ⟨.same rfl (by decide),trivial⟩ .same,?_⟩⟩
 exact⟨_,Yi,rfl,rfl⟩
theorem Pp(l:List PVar)(nu M:List Int)(Is:List PCon)(tx:Int->ByteArray)(h1:fy l (fun _=>True))(hM:AsN l.length M)(h2:1<=l.length)(h4:l.length<=8)(h3:LOk l)(hT:∀v∈M.filter (isT l),(((tx v).size:Nat):Int)<=mxO l v/\PrT (tx v))(R:List Int)(hR:∀x∈R,B1 x)(h5:R.length=l.length)(h6:∀c∈Is,c.l.cs.length<=1000)(h7:Is.length<=1000)
 (h8:PRet Tryz.prog 34 [.v (.int .i64 ((l.length:Nat):Int)),.tree 3 (((M.filter (isI l)).flatMap (bdO l)++Is).map cnA)] (fun q=>q=.tup [.tree 2 (R.map bI),.agg pf0,.v (.bool true)])):PRet Tryz.prog 26 [.agg (pbP l nu M Is ((M.filter (isT l)).map fun v=>tE v (tx v))),.tree 2 (((rgL l)).map paA)] (fun q=>∃W:List GVal,q=.tup [.tree 3 (W.map gvA),.agg rf0,.v (.bool true)]):=by
 obtain⟨_,_,⟨Lm,h9,rfl,rfl⟩,ha⟩:=Q3 l nu M Is tx h1 hM h2 h4 h3 hT
 obtain⟨_,⟨W,rfl⟩,h0⟩:=ad0 l nu M Is ((M.filter (isT l)).map fun v=>tE v (tx v)) R Lm h2 (by omega) ⟨by have:=hM.len;omega,fun _ _=>trivial⟩ hR h5 h9
 refine ovT [34,68] [] Tryz.func26 rfl rfl (OpG.mk _ _ _ 3 (a8 [(3,2)] agj ha rfl rfl rfl rfl trivial trivial ⟨Eh _ _,trivial⟩ rfl rfl rfl rfl (yn rfl) rfl) rfl rfl ?_)
 refine cF (ArgG.mk (aas l h1 nu M Is ((M.filter (isT l)).map fun v=>tE v (tx v)) (rgL l) hM (by omega) h3 h6 h7) rfl ?_)
 rintro _ rfl
 refine ArgG.mk (h8) rfl ?_
 rintro _ rfl
 refine cF (cT ?_)
 exact OpG.lk (cw (a8 [(1000000,2)] agi h0 rfl rfl rfl rfl ⟨Ke,trivial⟩ ⟨Vj,trivial⟩ ⟨Eh _ _,trivial⟩ rfl rfl rfl rfl (yn rfl) rfl) ⟨⟨.head _,rfl,rfl⟩,trivial⟩) ⟨.inr rfl,_,kc rfl (T7.tmp ⟨[],FzP.pure rfl⟩) (T7.cellN Tryz.f26 Y4 rfl rfl rfl rfl rfl ⟨[],FzP.pure rfl⟩) (T7.tmp ⟨[],FzP.pure rfl⟩),⟨_,rfl⟩⟩
theorem Nn(l:List PVar)(nu M:List Int)(Is:List PCon)(tx:Int->ByteArray)(h9:fy l (fun _=>True))(hM:AsN l.length M)(ha:1<=l.length)(hb:l.length<=8)(hc:LOk l)(hT:∀v∈M.filter (isT l),(((tx v).size:Nat):Int)<=mxO l v/\PrT (tx v))(R:List Int)(hR:∀x∈R,B1 x)(hd:R.length=l.length)(he:∀c∈Is,c.l.cs.length<=1000)(hf:Is.length<=1000)
 (hg:PRet Tryz.prog 34 [.v (.int .i64 ((l.length:Nat):Int)),.tree 3 (((M.filter (isI l)).flatMap (bdO l)++Is).map cnA)] (fun q=>q=.tup [.tree 2 (R.map bI),.agg pf0,.v (.bool true)]))
 (hh:∀v∈nu,∃j:Nat,∃h:j<l.length,v=((j:Nat):Int)/\l[j].nl=true/\v∉M)(hnl:nu.length<=1000):PRet Tryz.prog 20 [.tree 5 (l.map vA),.agg (clX nu M Is ((M.filter (isT l)).map fun v=>tE v (tx v)))] (fun q=>∃W:List GVal,q=.tup [.tree 3 (W.map gvA),.agg rf0,.v (.bool true)]):=by
 have h1:(rgL l).length=l.length:=by simp
 refine ovT [24,26,42,68,83,84,100084] [21] Tryz.func20 rfl rfl (LenG.of ?_)
 refine LpG.on (fun k0:Nat=>(⟨fL [(0,.tree 5 (l.map vA)),(3,.ptr 0 0 0),(5,.ptr 1 0 0),(16,.tree 1 (nu.map iA)),(17,.v (.int .i64 ((nu.length:Nat):Int))),(18,.v (.int .i64 ((k0:Nat):Int)))],hLz [(0,⟨0,clX nu M Is ((M.filter (isT l)).map fun v=>tE v (tx v)),0,false⟩),(1,⟨0,rf0,0,false⟩)],2⟩:St)) (fun k0=>(nu.length-k0)) (fun k0=>(k0<=nu.length)) 0 (cO (.cons rfl rfl (.cons rfl rfl (.cons rfl rfl (.cons rfl rfl (.cons rfl rfl (.cons rfl rfl .nil)))))) (.cons rfl rfl rfl (.cons rfl rfl rfl .nil))) (ag6 _) ?_
 rintro k0 h2
 have hle_k0:=h2
 refine cL (fun hlt19=>?_) (fun hge19=>?_)
 ·obtain⟨vN,hi,hj,h4,hk⟩:=hh nu[k0] (agt _)
  refine IdxG.of ‹_› (OpG.lk (cn Tryz.underlying22 X1 rfl rfl hj hi) ?_)
  refine OpG.lk (lE ac0 rfl (show(vA l[vN])[4]? =some (.v (.bool true))by rw[<-h4];rfl)) (cF ?_)
  refine ArgG.mk (abp M ⟨by have:=hM.len;omega,fun _ _=>trivial⟩ nu[k0]) rfl ?_
  rintro _ ⟨b32,rfl,h5⟩
  refine cB (fun h3=>?_) (fun h3=>?_)
  ·exact absurd (h5.1 h3) hk
  refine⟨by omega,⟨(k0+1),by omega,(cO (.cons rfl rfl (.cons rfl rfl (.cons rfl rfl (.cons rfl rfl (.cons rfl rfl (.cons rfl rfl .nil)))))) (.cons rfl rfl rfl (.cons rfl rfl rfl .nil))),?_⟩⟩
  omega
 refine OpG.lk (Az rfl Tryz.underlying59) (LpG.exit ?_)
 refine cF (LenG.of ?_)
 refine OpG.nw (Jb 3 (len:=l.length) Tryz.underlying62 acu zr97 by97 rfl rfl rfl (by omega) (by omega) (by omega)) rfl (LenG.of ?_)
 refine LpG.on (fun k4:Nat=>(⟨fL [(5,.ptr 1 0 0),(9,.ptr 2 0 0),(12,.sl 3 0 0 l.length),(69,.tree 5 (l.map vA)),(70,.v (.int .i64 ((l.length:Nat):Int))),(71,.v (.int .i64 ((k4:Nat):Int)))],hLz [(1,⟨0,rf0,0,false⟩),(2,⟨0,pbP l nu M Is ((M.filter (isT l)).map fun v=>tE v (tx v)),0,false⟩),(3,⟨0,rF paA ((rgL l).take k4++((List.replicate l.length ((0:Int),(0:Int)))).drop k4),2,false⟩)],4⟩:St)) (fun k4=>(l.length-k4)) (fun k4=>(k4<=l.length)) 0 (cO (.cons rfl rfl (.cons rfl rfl (.cons rfl rfl (.cons rfl rfl (.cons rfl rfl (.cons rfl rfl .nil)))))) (.cons rfl rfl rfl (.cons rfl rfl rfl (.cons (by rfl) rfl (aa nk _ _) .nil)))) (ag6 _) ?_
 rintro k4 h2
 have hle_k4:=h2
 refine cL (fun hlt72=>?_) (fun hge72=>?_)
 ·have hl:k4<((rgL l).take k4++((List.replicate l.length ((0:Int),(0:Int)))).drop k4).length:=by rw[bw (h1.trans List.length_replicate.symm)];simp;omega
  have eL4:((rgL l).take k4++((List.replicate l.length ((0:Int),(0:Int)))).drop k4)[k4]=(0,0):=by rw[k7 (h1.trans List.length_replicate.symm) (by simp;omega) hl];simp
  refine IdxG.of ‹_› (cB (fun h0=>?_) (fun h0=>?_))
  ·have h6:(l[k4].t:Int)=(2:Int):=by simpa using h0
   have h7:l[k4].t=2:=by simpa using h0
   have h8:((rgL l).take k4++((List.replicate l.length ((0:Int),(0:Int)))).drop k4).set k4 (0,l[k4].mx)=((rgL l).take (k4+1)++((List.replicate l.length ((0:Int),(0:Int)))).drop (k4+1)):=el (h1.trans List.length_replicate.symm) (by simp;omega) (fun h=>by simp[rgO,h7])
   refine OpG.lk (ak (k:=k4) nk Tryz.underlying62 acu rfl rfl rfl (by omega) rfl) (OpG.lk (A1 Tryz.underlying97 sz3 rfl rfl rfl rfl rfl rfl) ?_)
   refine OpG.wr (az (k:=k4) (o:=1) (v:=((0,l[k4].mx):Int×Int)) nk sz3 rfl rfl rfl rfl rfl rfl (by rw[bw (h1.trans List.length_replicate.symm)];simp;omega) (by decide) (by rw[eL4];rfl)) rfl ⟨by kernel_rfl,⟨by omega,?_⟩⟩
   refine⟨(k4+1),by omega,(cO (.cons rfl rfl (.cons rfl rfl (.cons rfl rfl (.cons rfl rfl (.cons rfl rfl (.cons rfl rfl .nil)))))) (.cons rfl rfl rfl (.cons rfl rfl rfl (.cons (by(rw[h8];rfl)) rfl (aa nk _ _) .nil)))),?_⟩
   omega
  have h6:¬((l[k4].t:Int)=(2:Int)):=by simpa using h0
  have h7:¬l[k4].t=2:=by simpa using h0
  have h8:((rgL l).take k4++((List.replicate l.length ((0:Int),(0:Int)))).drop k4)=((rgL l).take (k4+1)++((List.replicate l.length ((0:Int),(0:Int)))).drop (k4+1)):=Yb (h1.trans List.length_replicate.symm) (by simp;omega) (fun h=>by simp[rgO,h7])
  refine⟨by omega,⟨(k4+1),by omega,(cO (.cons rfl rfl (.cons rfl rfl (.cons rfl rfl (.cons rfl rfl (.cons rfl rfl (.cons rfl rfl .nil)))))) (.cons rfl rfl rfl (.cons rfl rfl rfl (.cons (by(rw[h8];rfl)) rfl (aa nk _ _) .nil)))),?_⟩⟩
  omega
 refine RegG.via (fun _ h=>cd 3 ⟨0,rF paA (rgL l),2,false⟩ rfl (by rw[dq (h1.trans List.length_replicate.symm) (by simp;omega)]) h) (RegG.via (fun _ h=>br [3] 12 (.tree 2 ((rgL l).map paA)) (bn nk (agy.2 rfl) rfl h1.symm) rfl h) ?_)
 refine ba (ArgG.mk (Pp l nu M Is tx h9 hM ha hb hc hT R hR hd he hf hg) rfl ?_)
 rintro _ ⟨W,rfl⟩
 exact⟨.inr rfl,_,kc rfl (T7.tmp ⟨[],FzP.pure rfl⟩) (T7.cellN Tryz.f20 Y4 rfl rfl rfl rfl rfl ⟨[],FzP.pure rfl⟩) (T7.tmp ⟨[],FzP.pure rfl⟩),⟨_,rfl⟩⟩
set_option maxRecDepth 1000000
noncomputable def RA0(f:FuncId)(a:List AV):Option AV:=Ps Tryz.prog ariO agn (kh Tryz.prog) (fun f=>Nat.beq f 101) 100000 60 f a
theorem Cn{f:FuncId}{a:List AV}{r:AV}(h:RA0 f a=some r):eu Tryz.prog f a r:=F9 mixB Xk q8 h
theorem sol0:∀n:Nat,1<=n->n<=8->PRet Tryz.prog 34 [.v (.int .i64 ((n:Nat):Int)),.tree 3 []] (fun q=>q=.tup [.tree 2 ((List.replicate n (0:Int)).map bI),.agg pf0,.v (.bool true)])
 |0,h,_=>absurd h (by decide)
 |1,_,_=>PRet.of_call (Cn (by kernel_rfl))
 |2,_,_=>PRet.of_call (Cn (by kernel_rfl))
 |3,_,_=>PRet.of_call (Cn (by kernel_rfl))
 |4,_,_=>PRet.of_call (Cn (by kernel_rfl))
 |5,_,_=>PRet.of_call (Cn (by kernel_rfl))
 |6,_,_=>PRet.of_call (Cn (by kernel_rfl))
 |7,_,_=>PRet.of_call (Cn (by kernel_rfl))
 |8,_,_=>PRet.of_call (Cn (by kernel_rfl))
 |_+9,_,h=>absurd h (by omega)
theorem Tn:∀{us ys:List Int} {a r:Int},B1 a->xp us ys a=some r->B1 r
 |us,[],a,r,ha,h=>by
  have:a=r:=by cases us<;>exact Option.some.inj h
  subst this;exact ha
 |[],_::_,_,_,_,h=>by cases h
 |u::us,y::ys,a,r,ha,h=>by
  unfold xp at h
  split at h
  ·next g=>exact Tn g.2 h
  ·cases h
theorem abe{T:OSt}{R:List Int}(h:EndZ T R):∃R':List Int,R'.length=R.length/\(∀x∈R',B1 x)/\EndZ T R':=by
 refine⟨(List.range R.length).map (fun i=>if i<T.U.length then R.getD i 0 else 0),by simp,fun x hx=>?_,h.E,h.I,by simp[h.l],fun i hi=>?_⟩
 ·obtain⟨i,hi,rfl⟩:=ahj.1 hx
  split
  ·next g=>exact Tn Do (h.d i g)
  exact Do
 have hd:=h.d i hi
 by_cases g:i<R.length
 ·rw[hd];simp[List.getD,g,hi]
 rw[hd]
 simp only[List.getD]
 rw[List.getElem?_eq_none (by omega),List.getElem?_eq_none (by simp;omega)]
theorem Kf{n:Nat}{cV:Nat->Int}(l:List PCon)(hl:fy l (fun y=>True))(h1:1<=n)(h2:n<=512)(h0:0<l.length)(hll:l.length<=400)(hc:∀c∈l,CnB c)(hr:∀c∈l,rgC c ((n:Nat):Int))(h:PkC n cV l):∃R:List Int,R.length=n/\(∀x∈R,B1 x)/\PRet Tryz.prog 34 [.v (.int .i64 ((n:Nat):Int)),.tree 3 (l.map cnA)] (fun q=>q=.tup [.tree 2 (R.map bI),.agg pf0,.v (.bool true)]):=by
 have hs:=@ol n l
 obtain⟨T,R,e1,e2,e3⟩:=Ut h1 (by omega) (by omega) (Dx hc) h.sys
 obtain⟨R',g1,g2,g3⟩:=abe e2
 exact⟨R',g1.trans e3,g2,Pm l hl n T R' h1 h2 h0 (by omega) hc hr aa2 V8 g3 e1⟩
abbrev txO(w:List GVal)(v:Int):ByteArray:=(w.getD v.toNat zV).d_
abbrev inO(w:List GVal)(v:Int):Int:=(w.getD v.toNat zV).e_
abbrev eqC(w:List GVal)(v:Int):PCon:=⟨⟨-inO w v,[⟨v,1⟩]⟩,true⟩
abbrev MM(w:List GVal):List Int:=exL mOf w w.length
theorem sv{β:Type}{f:GVal->Int->List β}{w:List GVal}{x:β}:∀{k:Nat},x∈exL f w k->∃j,j<k/\x∈f (w.getD j zV) ((j:Nat):Int)
 |0,h=>by cases h
 |k+1,h=>by
  rcases agz.1 h with h|h
  ·obtain⟨j,h1,h2⟩:=sv h;exact⟨j,by omega,h2⟩
  ·exact⟨k,by omega,h⟩
theorem wg{v:GVal}{k x:Int}(h:x∈mOf v k):x=k/\v.c_≠0:=by
 unfold mOf at h
 split at h
 ·cases h
 exact⟨agy.1 h,by assumption⟩
theorem Ln{v:GVal}{k x:Int}(h:x∈nOf v k):x=k/\v.c_=0:=by
 unfold nOf at h
 split at h
 ·exact⟨agy.1 h,by assumption⟩
 cases h
theorem Z9(w:List GVal):∀k,(exL mOf w k).Pairwise (·<·)
 |0=>.nil
 |k+1=>by
  refine List.pairwise_append.2 ⟨Z9 w k,?_,fun a ha b hb=>?_⟩
  ·unfold mOf;split
   ·exact .nil
   ·exact List.pairwise_singleton ..
  ·obtain⟨j,hj,h⟩:=sv ha
   rw[(wg h).1,(wg hb).1];omega
theorem aaa(w:List GVal):AsN w.length (MM w):=⟨fun v hv=>by
 obtain⟨j,hj,h⟩:=sv hv
 exact⟨j,(wg h).1,hj⟩,Z9 w _⟩
theorem gW{w:List GVal}{k:Nat}(h:k<w.length):w.getD k zV=w[k]:=by simp[List.getD,h]
theorem F1{l:List PVar}{w:List GVal}(hb:Bel l w):∀k,k<=w.length->exL tOf w k=((exL mOf w k).filter (isT l)).map fun v=>(⟨v,0,false,txO w v⟩:PTest)
 |0,_=>rfl
 |k+1,hk=>by
  have h0:k<w.length:=by omega
  have h1:k<l.length:=by have:=hb.1;omega
  show exL tOf w k++_=((exL mOf w k++_).filter _).map _
  rw[F1 hb k (by omega),List.filter_append,ahi]
  congr 1
  have hg:l.getD ((k:Nat):Int).toNat default=l[k]:=gD rfl h1
  rw[gW h0]
  rcases sq (hb.2 k h0 h1)with g|g|g
  ·simp[tOf,mOf,g.1]
  ·have e:isT l ((k:Nat):Int)=false:=by show decide ((l.getD _ default).t=2)=false;rw[hg];exact decide_eq_false (by omega)
   simp only[tOf,mOf,g.1];simp[List.filter,e]
  ·have e:isT l ((k:Nat):Int)=true:=by show decide ((l.getD _ default).t=2)=true;rw[hg];exact decide_eq_true (by omega)
   simp only[tOf,mOf,g.1];simp[List.filter,e,txO,List.getD,h0]
theorem L7{l:List PVar}{w:List GVal}(hb:Bel l w):∀k,k<=w.length->exL iOf w k=((exL mOf w k).filter (isI l)).map (eqC w)
 |0,_=>rfl
 |k+1,hk=>by
  have h0:k<w.length:=by omega
  have h1:k<l.length:=by have:=hb.1;omega
  show exL iOf w k++_=((exL mOf w k++_).filter _).map _
  rw[L7 hb k (by omega),List.filter_append,ahi]
  congr 1
  have hg:l.getD ((k:Nat):Int).toNat default=l[k]:=gD rfl h1
  rw[gW h0]
  rcases sq (hb.2 k h0 h1)with g|g|g
  ·simp[iOf,mOf,g.1]
  ·have e:isI l ((k:Nat):Int)=true:=by show decide ((l.getD _ default).t=1)=true;rw[hg];exact decide_eq_true (by omega)
   simp only[iOf,mOf,g.1];simp[List.filter,e,inO,List.getD,h0]
  ·have e:isI l ((k:Nat):Int)=false:=by show decide ((l.getD _ default).t=1)=false;rw[hg];exact decide_eq_false (by omega)
   simp only[iOf,mOf,g.1];simp[List.filter,e]
theorem abv{l:List PVar}{w:List GVal}(hb:Bel l w):clA (exC w)=clX (exL nOf w w.length) (MM w) (((MM w).filter (isI l)).map (eqC w)) (((MM w).filter (isT l)).map fun v=>tE v (txO w v)):=by
 show[isA _,isA _,.tree 4 [],.tree 3 ((exL iOf w w.length).map cnA),.tree 4 ((exL tOf w w.length).map teA),.tree 2 [],.tree 2 []]=_
 have ht:(((exL mOf w w.length).filter (isT l)).map fun v=>(⟨v,0,false,txO w v⟩:PTest)).map teA=(((MM w).filter (isT l)).map fun v=>tE v (txO w v)).map tsA:=by
  rw[List.map_map,List.map_map];rfl
 rw[F1 hb _ (ag8 _),L7 hb _ (ag8 _),ht]
 rfl
theorem Zl{s:ByteArray}(h:Sv s=true):PrT s:=fun k hk=>by
 have:=List.all_eq_true.1 h k (List.mem_range.2 hk)
 simp only[Oz]at this
 simp at this;omega
theorem fit2{v:GVal}{x:PVar}(h:ua v x=true)(h2:v.c_=2):(((v.d_).size:Nat):Int)<=x.mx/\PrT v.d_:=by
 unfold ua at h
 split at h
 ·next hv=>
  have hc:=(Pa hv).2.2 h2
  rw[ag1 (by omega),ag1 (by omega)]at h
  simp at h
  exact⟨h.2,Zl hc.2.1⟩
 cases h
theorem fit0{v:GVal}{x:PVar}(h:ua v x=true)(h0:v.c_=0):x.nl=true:=by
 unfold ua at h
 split at h
 ·exact h
 cases h
theorem Ee{l:List PVar}{w:List GVal}{v:Int}(hv:v∈MM w):∃j:Nat,∃h:j<w.length,v=((j:Nat):Int)/\w[j].c_≠0:=by
 obtain⟨j,hj,h⟩:=sv hv
 rw[gW hj]at h
 exact⟨j,hj,(wg h).1,(wg h).2⟩
theorem Y0{l:List PVar}{w:List GVal}(hb:Bel l w)(h5:LOk l):PkC l.length (fun j=>(w.getD j zV).e_) (((MM w).filter (isI l)).flatMap (bdO l)++((MM w).filter (isI l)).map (eqC w))/\(∀c∈((MM w).filter (isI l)).flatMap (bdO l)++((MM w).filter (isI l)).map (eqC w),CnB c/\rgC c ((l.length:Nat):Int)\/¬l.length<=512):=by
 have key:∀v∈(MM w).filter (isI l),∃j:Nat,∃h1:j<w.length,∃h2:j<l.length,v=((j:Nat):Int)/\l[j].lo<=w[j].e_/\w[j].e_<=l[j].hi/\-2147483648<=l[j].lo/\l[j].hi<=2147483647/\loO l v=l[j].lo/\hiO l v=l[j].hi/\inO w v=w[j].e_:=by
  intro v hv
  obtain⟨hm,hi⟩:=List.mem_filter.1 hv
  obtain⟨j,hj,e,hk⟩:=Ee (l:=l) hm
  have h0:j<l.length:=by have:=hb.1;omega
  have hg:=gD e h0
  simp only[isI,hg,aht]at hi
  have h3:=h5 _ (agt h0)
  refine⟨j,hj,h0,e,?_⟩
  rcases sq (hb.2 j hj h0)with g|g|g
  ·omega
  ·exact⟨g.2.2.1,g.2.2.2,by omega,by omega,by rw[loO,hg],by rw[hiO,hg],by subst e;simp[inO,List.getD,hj]⟩
  ·omega
 have mem:∀c∈((MM w).filter (isI l)).flatMap (bdO l)++((MM w).filter (isI l)).map (eqC w),∃v∈(MM w).filter (isI l),c=⟨⟨loO l v,[⟨v,-1⟩]⟩,false⟩\/c=⟨⟨-hiO l v,[⟨v,1⟩]⟩,false⟩\/c=eqC w v:=by
  intro c hc
  rcases agz.1 hc with hc|hc
  ·obtain⟨v,hv,hc⟩:=List.mem_flatMap.1 hc
   rcases ahk.1 hc with rfl|hc
   ·exact⟨v,hv,.inl rfl⟩
   ·rw[agy.1 hc];exact⟨v,hv,.inr (.inl rfl)⟩
  ·obtain⟨v,hv,rfl⟩:=ahj.1 hc
   exact⟨v,hv,.inr (.inr rfl)⟩
 refine⟨⟨fun c hc=>?_,fun c hc v b h4=>?_⟩,fun c hc=>?_⟩
 ·obtain⟨v,hv,h⟩:=mem c hc
  obtain⟨j,h1,h2,e,a1,a2,a3,a4,a5,a6,a7⟩:=key v hv
  have ew:(w.getD j zV).e_=w[j].e_:=by rw[gW h1]
  rcases h with rfl|rfl|rfl
  ·exact⟨j,-1,h2,.inr rfl,by rw[e],by simp only[ew,a5];omega,fun h=>by cases h⟩
  ·exact⟨j,1,h2,.inl rfl,by rw[e],by simp only[ew,a6];omega,fun h=>by cases h⟩
  exact⟨j,1,h2,.inl rfl,by rw[e],by simp only[ew,a7];omega,fun _=>by simp only[ew,a7];omega⟩
 ·obtain⟨u,hu,h⟩:=mem c hc
  have hv:u=((v:Nat):Int):=by
   rcases h with rfl|rfl|rfl<;>(injection h4 with h4 _;injection h4 with h4 _)
  subst hv
  exact⟨eqC w _,List.mem_append_right _ (ahj.2 ⟨_,hu,rfl⟩),rfl,1,.inl rfl,rfl⟩
 by_cases hn:l.length<=512
 ·left
  obtain⟨v,hv,h⟩:=mem c hc
  obtain⟨j,h1,h2,e,a1,a2,a3,a4,a5,a6,a7⟩:=key v hv
  have rg:∀(k b:Int) (q:Bool),rgC ⟨⟨k,[⟨v,b⟩]⟩,q⟩ ((l.length:Nat):Int):=fun k b q=>⟨fun i hi=>by
   have:i=0:=by have:i<1:=hi;omega
   subst this;show 0<=v/\v<_;omega,fun i hi=>by have:i+1<1:=hi;omega,by omega,by omega⟩
  have cb:∀(k b:Int) (q:Bool),(-2147483648<=k/\k<=2147483648)->(b=1\/b=-1)->CnB ⟨⟨k,[⟨v,b⟩]⟩,q⟩:=fun k b q hk hb=>⟨⟨by show -4294967295<=k;omega,by show k<=4294967295;omega⟩,fun x hx=>by
   rw[agy.1 hx];rcases hb with rfl|rfl
   ·exact Xj
   ·exact⟨by show(-4294967295:Int)<=-1;decide,by show(-1:Int)<=4294967295;decide⟩,by simp⟩
  rcases h with rfl|rfl|rfl
  ·exact⟨cb _ _ _ (by rw[a5];omega) (.inr rfl),rg _ _ _⟩
  ·exact⟨cb _ _ _ (by rw[a6];omega) (.inl rfl),rg _ _ _⟩
  exact⟨cb _ _ _ (by rw[a7];omega) (.inl rfl),rg _ _ _⟩
 exact .inr hn
theorem Iy{l:List PVar}{w:List GVal}(hb:Bel l w)(h3:LOk l)(h1:1<=l.length)(h8:l.length<=8):PRet Tryz.prog 20 [.tree 5 (l.map vA),.agg (clA (exC w))] (fun q=>∃W:List GVal,q=.tup [.tree 3 (W.map gvA),.agg rf0,.v (.bool true)]):=by
 have h6:=hb.1
 have hM:=aaa w
 rw[h6]at hM
 have hml:=hM.len
 have hNI:((MM w).filter (isI l)).length<=(MM w).length:=List.length_filter_le ..
 obtain⟨h7,h4⟩:=Y0 hb h3
 have h9:fy l (fun _=>True):=⟨by omega,fun _ _=>trivial⟩
 rw[abv hb]
 have h5:(((MM w).filter (isI l)).flatMap (bdO l)).length=2*((MM w).filter (isI l)).length:=by
  generalize(MM w).filter (isI l)=L
  induction L with
  |nil=>rfl
  |cons a r ih=>rw[List.flatMap_cons,agx,ih];show 2+2*r.length=2*(r.length+1);omega
 have ha:∃R:List Int,R.length=l.length/\(∀x∈R,B1 x)/\PRet Tryz.prog 34 [.v (.int .i64 ((l.length:Nat):Int)),.tree 3 ((((MM w).filter (isI l)).flatMap (bdO l)++((MM w).filter (isI l)).map (eqC w)).map cnA)] (fun q=>q=.tup [.tree 2 (R.map bI),.agg pf0,.v (.bool true)]):=by
  by_cases h0:(MM w).filter (isI l)=[]
  ·rw[h0]
   exact⟨List.replicate l.length 0,by simp,fun x hx=>by rw[(List.mem_replicate.1 hx).2];exact Do,sol0 _ h1 h8⟩
  ·have hpos:0<((MM w).filter (isI l)).length:=List.length_pos_iff.2 h0
   exact Kf _ ⟨by rw[agx,h5,ag0];omega,fun _ _=>trivial⟩ h1 (by omega) (by rw[agx];simp only[ag0];omega) (by rw[agx,h5,ag0];omega) (fun c hc=>((h4 c hc).resolve_right (by omega)).1) (fun c hc=>((h4 c hc).resolve_right (by omega)).2) h7
 obtain⟨R,g1,g2,g3⟩:=ha
 refine Nn l _ (MM w) _ (txO w) h9 hM h1 h8 h3 (fun v hv=>?_) R g2 g1 (fun c hc=>?_) (by rw[ag0];omega) g3 (fun v hv=>?_) ?_
 ·obtain⟨hm,ht⟩:=List.mem_filter.1 hv
  obtain⟨j,hj,e,hk⟩:=Ee (l:=l) hm
  have h2:j<l.length:=by omega
  have hg:=gD e h2
  simp only[isT,hg,aht]at ht
  rw[mxO,hg,show txO w v=w[j].d_ by subst e;simp[txO,List.getD,hj]]
  have hf:=hb.2 j hj h2
  refine fit2 hf ?_
  rcases sq hf with g|g|g
  ·exact absurd g.1 hk
  ·omega
  exact g.1
 ·obtain⟨v,hv,rfl⟩:=ahj.1 hc
  simp
 ·obtain⟨j,hj,h⟩:=sv hv
  rw[gW hj]at h
  obtain⟨e,hk⟩:=Ln h
  have h2:j<l.length:=by omega
  refine⟨j,h2,e,fit0 (hb.2 j hj h2) hk,fun hm=>?_⟩
  obtain⟨i,hi,e2,hd⟩:=Ee (l:=l) hm
  have:i=j:=by omega
  subst this;exact hd hk
 have:∀k,(exL nOf w k).length<=k:=fun k=>by
  induction k with
  |zero=>exact ag8 _
  |succ k ih=>
   show(exL nOf w k++_).length<=k+1
   rw[agx]
   have:(nOf (w.getD k zV) ((k:Nat):Int)).length<=1:=by unfold nOf;split<;>simp
   omega
 have:=this w.length;omega
end Go.Proofs.YtmbmbhkemgmhfaaGreatDoor
