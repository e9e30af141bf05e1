/- Texts of the claim. -/
import Derived.Lib.Join
import Derived.Test.YtbhhmbchdponjaaGreatDoorT1
import Derived.Test.YtbhhmbchdponjaaGreatDoorQ2
namespace Go.Proofs
open Go.Shelf
def Tryz.cloB_ren:Go.Shelf.Ren:=⟨fun|41=>149|n=>n,fun|22=>45|23=>48|4=>4|n=>n,fun|n=>n⟩
theorem Tryz.cloB:Go.Proofs.SlLaysE0.n41 Tryz.prog Tryz.cloB_ren:={
 mixed:=by kernel_rfl
 f41:=⟨Tryz.f149.name,by decide,Tryz.func149.trans (congrArg some (by kernel_rfl))⟩
 t4:=Tryz.underlying4
 a4:=Tryz.isAgg4
 z4:=Tryz.sizeOf4
 v4:=Tryz.zeroValue4
 t22:=Tryz.underlying45
 a22:=Tryz.isAgg45
 z22:=Tryz.sizeOf45
 v22:=Tryz.zeroValue45}
end Go.Proofs
namespace Go.Proofs.YtbhhmbchdponjaaGreatDoor
set_option maxRecDepth 1000000
set_option maxHeartbeats 0
open Go.Shelf in
theorem aad:CloneL Tryz.prog 149 2:=⟨⟨Tryz.cloB_ren,Tryz.t48,_,_,rfl,Tryz.cloB,by kernel_rfl,rfl,rfl,rfl,rfl,Tryz.sizeOf48,by decide⟩,by decide⟩
set_option linter.unusedVariables false
set_option linter.unusedSimpArgs false
open Go.RowKit
theorem Ns:B1 1:=⟨by decide,by decide⟩
theorem svI(s:OSt)(k:Nat)(x:ItS):some (sB s)=some (sB {s with I:=s.I.set k x}):=by simp only[sB,List.length_set]
theorem Mc(s:OSt)(x:ItS)(hx:In s x):t8 Tryz.prog 178 [.ptr 1000000 0 0,.agg (itA x)] [(1000000,sB s),(1000001,s1 s),(1000002,s2 s),(1000003,s3 s),(1000004,s4 s),(1000005,s5 s),(1000006,s6 s),(1000007,s7 s)] [(1000000,some (sB s)),(1000001,some (s1 s)),(1000002,some (s2 s)),(1000003,some (s3 s)),(1000004,some (s4 s)),(1000005,some (s5 s)),(1000006,some (s6 s)),(1000007,some (s7 s))] (fun q=>q=.agg (bI (bnd s x))):=by
 obtain⟨_,_,j,h1,h2⟩:=hx
 rw[S5 h1 h2];exact Ak s x j _ h1 (adu h2)
theorem G6:b7 Tryz.prog 149=true:=by kernel_rfl
theorem G5:b7 Tryz.prog 150=true:=by kernel_rfl
theorem Zk:b7 Tryz.prog 174=true:=by kernel_rfl
theorem S4:b7 Tryz.prog 175=true:=by kernel_rfl
theorem adb:(Tryz.prog.info? 242).map (·.bytes)=some 32:=by kernel_rfl
theorem Ae:dt Tryz.prog 118 0=some (0,1):=by kernel_rfl
theorem xj:d9 Tryz.prog 45=some none:=by kernel_rfl
theorem Oc:ao Tryz.prog 165=some 3:=by kernel_rfl
theorem pj:ao Tryz.prog 242=some 2:=by kernel_rfl
theorem Nu:bh Tryz.prog 165=some (.agg #[.int .i64 0,.bool false,.slice none 0 0]):=by kernel_rfl
theorem aai:bh Tryz.prog 242=some (.agg #[.int .i64 0,.slice none 0 0]):=by kernel_rfl
theorem Z3(s s':OSt)(x:ItS)(ho:OOk s)(hx:In s x)(h:Cv s x=some s'):t8 Tryz.prog 175 [.ptr 1000000 0 0,.agg (itA x)] [(1000000,sB s),(1000001,s1 s),(1000002,s2 s),(1000003,s3 s),(1000004,s4 s),(1000005,s5 s),(1000006,s6 s),(1000007,s7 s)] [(1000000,some (sB s')),(1000001,some (s1 s')),(1000002,some (s2 s')),(1000003,some (s3 s')),(1000004,some (s4 s')),(1000005,some (s5 s')),(1000006,some (s6 s')),(1000007,some (s7 s'))] (fun q=>q=.tup []):=by
 obtain⟨y1,y2,y3,y4,y5,y6,y7,y8⟩:=Ao h
 have h8:iq x.g (fun _=>True):=⟨by rw[hx.2.1];have:=ho.n2;omega,fun _ _=>trivial⟩
 have h9:∀y∈s.I,iq y.g (fun _=>True):=fun y hy=>⟨by rw[(ho.I y hy).2.1];have:=ho.n2;omega,fun _ _=>trivial⟩
 refine t8.of_vc kh [10,14,15,23,26,35,44,100035] [] Tryz.func175 rfl Tryz.ntmps175 rfl (by kernel_rfl) (OpG.lk (ck rfl Tryz.underlying215 rfl rfl rfl) ?_)
 refine LpG.on (fun k0:Nat=>(⟨fL [(0,.ptr 1000000 0 0),(3,.ptr 0 0 0),(9,.sl 1000006 s.vI 0 s.I.length),(10,.v (.int .i64 ((s.I.length:Nat):Int))),(11,.v (.int .i64 ((k0:Nat):Int)))],hLz [(0,⟨0,itA x,0,false⟩),(1000000,sB s),(1000001,s1 s),(1000002,s2 s),(1000003,s3 s),(1000004,s4 s),(1000005,s5 s),(1000006,s6 s),(1000007,s7 s)],1⟩:St)) (fun k0=>(s.I.length-k0)) (fun k0=>(k0<=s.I.length/\∀j (hl:j<s.I.length),j<k0->¬x.g=s.I[j].g)) 0 (cO (.cons rfl rfl (.cons rfl rfl (.cons rfl rfl (.cons rfl rfl (.cons rfl rfl .nil))))) (.cons rfl rfl rfl (.cons rfl rfl rfl (.cons rfl rfl (aa ab _ _) (.cons rfl rfl (aa ai _ _) (.cons rfl rfl (aa ah _ _) (.cons rfl rfl (aa ap _ _) (.cons rfl rfl (aa ae _ _) (.cons rfl rfl (aa ag _ _) (.cons rfl rfl (aa aj _ _) .nil)))))))))) ⟨ad7 _,fun j _ h=>absurd h (ad8 j)⟩ ?_
 rintro k0 h5
 obtain⟨hle_k0,h2⟩:=h5
 refine cL (fun h0=>?_) (fun hge12=>?_)
 ·refine OpG.lk (bn (k:=k0) ag Tryz.underlying215 pj rfl rfl rfl h0 rfl h0) (OpG.lk (jp (k:=k0) ag nf rfl rfl h0) ?_)
  refine ArgG.mk (Qa x.g h8 s.I[k0].g (h9 _ (adt h0)) hx.1 (ho.I _ (adt h0)).1 (by rw[hx.2.1];have:=ho.n2;omega)) rfl ?_
  rintro _ rfl
  refine cB (fun h3=>?_) (fun h3=>?_)
  ·have hs:=V5 h h0 (ad5 h3) h2
   obtain⟨_,rfl,h6⟩:=Mc s x hx
   obtain⟨_,rfl,h7⟩:=Mc s s.I[k0] (ho.I _ (adt h0))
   refine OpG.lk (du (ba [(1000000,1000000),(1000001,1000001),(1000002,1000002),(1000003,1000003),(1000004,1000004),(1000005,1000005),(1000006,1000006),(1000007,1000007)] t6 h6 rfl rfl rfl rfl ⟨rfl,sX ab,sX ai,sX ah,sX ap,sX ae,sX ag,sX aj,trivial⟩ ⟨⟨rfl,.inl rfl⟩,au ab,au ai,au ah,au ap,au ae,au ag,au aj,trivial⟩ ⟨rfl,aq ab _ _,aq ai _ _,aq ah _ _,aq ap _ _,aq ae _ _,aq ag _ _,aq aj _ _,trivial⟩ rfl rfl rfl rfl u3 rfl) ⟨⟨.head _,rfl,rfl⟩,⟨.tail _ (.head _),rfl,rfl⟩,⟨.tail _ (.tail _ (.head _)),rfl,rfl⟩,⟨.tail _ (.tail _ (.tail _ (.head _))),rfl,rfl⟩,⟨.tail _ (.tail _ (.tail _ (.tail _ (.head _)))),rfl,rfl⟩,⟨.tail _ (.tail _ (.tail _ (.tail _ (.tail _ (.head _))))),rfl,rfl⟩,⟨.tail _ (.tail _ (.tail _ (.tail _ (.tail _ (.tail _ (.head _)))))),rfl,rfl⟩,⟨.tail _ (.tail _ (.tail _ (.tail _ (.tail _ (.tail _ (.tail _ (.head _))))))),rfl,rfl⟩,trivial⟩) (OpG.lk (du (ba [(1000000,1000000),(1000001,1000001),(1000002,1000002),(1000003,1000003),(1000004,1000004),(1000005,1000005),(1000006,1000006),(1000007,1000007)] t6 h7 rfl rfl rfl rfl ⟨rfl,sX ab,sX ai,sX ah,sX ap,sX ae,sX ag,sX aj,trivial⟩ ⟨⟨rfl,.inl rfl⟩,au ab,au ai,au ah,au ap,au ae,au ag,au aj,trivial⟩ ⟨rfl,aq ab _ _,aq ai _ _,aq ah _ _,aq ap _ _,aq ae _ _,aq ag _ _,aq aj _ _,trivial⟩ rfl rfl rfl rfl u3 rfl) ⟨⟨.head _,rfl,rfl⟩,⟨.tail _ (.head _),rfl,rfl⟩,⟨.tail _ (.tail _ (.head _)),rfl,rfl⟩,⟨.tail _ (.tail _ (.tail _ (.head _))),rfl,rfl⟩,⟨.tail _ (.tail _ (.tail _ (.tail _ (.head _)))),rfl,rfl⟩,⟨.tail _ (.tail _ (.tail _ (.tail _ (.tail _ (.head _))))),rfl,rfl⟩,⟨.tail _ (.tail _ (.tail _ (.tail _ (.tail _ (.tail _ (.head _)))))),rfl,rfl⟩,⟨.tail _ (.tail _ (.tail _ (.tail _ (.tail _ (.tail _ (.tail _ (.head _))))))),rfl,rfl⟩,trivial⟩) ?_)
   refine ArgG.mk (oe (x:=bnd s x) (y:=bnd s s.I[k0]) (ho.bB hx) (ho.bB (ho.I _ (adt h0)))) rfl ?_
   rintro _ rfl
   refine⟨by kernel_rfl,cD (fun h4=>?_) (fun h4=>?_)⟩
   ·rw[ad3 (by have:=Rr.1 h4;omega)]at hs
    subst hs
    refine OpG.lk (bn (k:=k0) ag Tryz.underlying215 pj rfl rfl rfl h0 rfl h0) (OpG.wr (jn (k:=k0) (o:=0) (v:=x) ag pj rfl rfl rfl rfl rfl rfl h0 (by decide) rfl) rfl ?_)
    refine⟨by kernel_rfl,⟨.inr rfl,_,M0.of [] (a8 rfl .nil) rfl ⟨.same (svI s k0 x) (by decide),.same rfl (by decide),.same rfl (by decide),.same rfl (by decide),.same rfl (by decide),.same rfl (by decide),.same rfl (by decide),.same rfl (by decide),trivial⟩ .same,?_⟩⟩
    rfl
   rw[ad1 (by intro h;exact h4 (Rr.2 (by omega)))]at hs
   subst hs
   refine⟨.inr rfl,_,M0.of [] (a8 rfl .nil) rfl ⟨.same rfl (by decide),.same rfl (by decide),.same rfl (by decide),.same rfl (by decide),.same rfl (by decide),.same rfl (by decide),.same rfl (by decide),.same rfl (by decide),trivial⟩ .same,?_⟩
   rfl
  refine⟨by omega,⟨(k0+1),by omega,(cO (.cons rfl rfl (.cons rfl rfl (.cons rfl rfl (.cons rfl rfl (.cons rfl rfl .nil))))) (.cons rfl rfl rfl (.cons rfl rfl rfl (.cons rfl rfl (aa ab _ _) (.cons rfl rfl (aa ai _ _) (.cons rfl rfl (aa ah _ _) (.cons rfl rfl (aa ap _ _) (.cons rfl rfl (aa ae _ _) (.cons rfl rfl (aa ag _ _) (.cons rfl rfl (aa aj _ _) .nil)))))))))),?_⟩⟩
  refine⟨by omega,fun j hl h=>?_⟩
  rcases aea.1 h with h|rfl
  ·exact h2 j hl h
  exact ad4 h3
 obtain⟨⟨z1,z2,z3,z4,z5,z6,z7,z8⟩,rfl⟩:=Qw h (fun j hl=>h2 j hl (by omega))
 refine OpG.mk _ _ _ 2 (b9 ag (l:=s.I) (a:=x) Tryz.underlying215 pj aai adb rfl rfl rfl (er rfl rfl rfl rfl) rfl (by omega) (by omega) (by unfold TV;omega)) rfl rfl ⟨by kernel_rfl,⟨.inl rfl,_,M0.of [] (a8 rfl .nil) rfl ⟨.same rfl (by decide),.same rfl (by decide),.same rfl (by decide),.same rfl (by decide),.same rfl (by decide),.same rfl (by decide),.same rfl (by decide),.same rfl (by decide),trivial⟩ .same,?_⟩⟩
 rfl
theorem acx(g:List Int)(us:List UsS)(s s':OSt)(x:ItS)(sm ok:Bool)(ho:OOk s)(h2:g.length=s.n)(h3:BL g)(hu:∀u∈us,B1 u.n)(h4:us.length<100000)(h0:0<us.length)(h1:us.length=1->us[0].n=1)(h:Cp s g us=some (s',x,sm,ok)):t8 Tryz.prog 174 [.ptr 1000000 0 0,.tree 2 (g.map bI),.tree 3 (us.map usA)] [(1000000,sB s),(1000001,s1 s),(1000002,s2 s),(1000003,s3 s),(1000004,s4 s),(1000005,s5 s),(1000006,s6 s),(1000007,s7 s)] [(1000000,some (sB s')),(1000001,some (s1 s')),(1000002,some (s2 s')),(1000003,some (s3 s')),(1000004,some (s4 s')),(1000005,some (s5 s')),(1000006,some (s6 s')),(1000007,some (s7 s'))] (fun q=>q=.tup [.agg (itA x),.v (.bool sm),.v (.bool ok)]):=by
 have h5:iq g (fun _=>True):=⟨by rw[h2];have:=ho.n2;omega,fun _ _=>trivial⟩
 have h6:iq us (fun _=>True):=⟨by omega,fun _ _=>trivial⟩
 by_cases hc:1<us.length\/dOf g≠1
 ·exact Y6 g h5 us h6 s x sm ok s' ho.n2 h2 h3 hu (fun q hq=>(ho.K q hq).1) h4 h0 h1 h hc
 exact Y8 g h5 us h6 s x sm ok s' ho.n2 h2 h3 hu (fun q hq=>(ho.K q hq).1) h4 h0 h1 h hc
theorem abi(g:List Int)(hg:iq g (fun y=>True))(us:List UsS)(hus:iq us (fun y=>True))(s s':OSt)(ok:Bool)(ho:OOk s)(h4:g.length=s.n)(h5:BL g)(hu:∀u∈us,B1 u.n)(h6:us.length<100000)(h0:0<us.length)(h1:us.length=1->us[0].n=1)(h:xl s g us=some (s',ok)):t8 Tryz.prog 150 [.ptr 1000000 0 0,.tree 2 (g.map bI),.tree 3 (us.map usA)] [(1000000,sB s),(1000001,s1 s),(1000002,s2 s),(1000003,s3 s),(1000004,s4 s),(1000005,s5 s),(1000006,s6 s),(1000007,s7 s)] [(1000000,some (sB s')),(1000001,some (s1 s')),(1000002,some (s2 s')),(1000003,some (s3 s')),(1000004,some (s4 s')),(1000005,some (s5 s')),(1000006,some (s6 s')),(1000007,some (s7 s'))] (fun q=>q=.v (.bool ok)):=by
 obtain⟨s1,x,sm,hd,h3⟩:=Bq h
 obtain⟨h7,_,h8⟩:=El hd ho h0 h5 h4
 refine t8.of_vc kh [14,21] [1,3] Tryz.func150 rfl Tryz.ntmps150 rfl (by kernel_rfl) ?_
 obtain⟨_,rfl,h9⟩:=acx g us s s1 x sm ok ho h4 h5 hu h6 h0 h1 hd
 refine aw (OpG.mk _ _ _ 0 (ba [(1000000,1000000),(1000001,1000001),(1000002,1000002),(1000003,1000003),(1000004,1000004),(1000005,1000005),(1000006,1000006),(1000007,1000007)] Zk h9 rfl rfl rfl rfl ⟨rfl,sX ab,sX ai,sX ah,sX ap,sX ae,sX ag,sX aj,trivial⟩ ⟨⟨rfl,.inl rfl⟩,au ab,au ai,au ah,au ap,au ae,au ag,au aj,trivial⟩ ⟨rfl,aq ab _ _,aq ai _ _,aq ah _ _,aq ap _ _,aq ae _ _,aq ag _ _,aq aj _ _,trivial⟩ rfl rfl rfl rfl u3 rfl) rfl rfl ?_)
 refine cB (fun h2=>?_) (fun h2=>?_)
 ·have ha:=(h3.resolve_right (fun k=>by rw[k.1]at h2;cases h2)).2
  obtain⟨_,rfl,hb⟩:=Z3 s1 s' x h7 h8 ha
  refine aw (OpG.mk _ _ _ 1 (ba [(1000000,1000000),(1000001,1000001),(1000002,1000002),(1000003,1000003),(1000004,1000004),(1000005,1000005),(1000006,1000006),(1000007,1000007)] S4 hb rfl rfl rfl rfl ⟨rfl,sX ab,sX ai,sX ah,sX ap,sX ae,sX ag,sX aj,trivial⟩ ⟨⟨rfl,.inl rfl⟩,au ab,au ai,au ah,au ap,au ae,au ag,au aj,trivial⟩ ⟨rfl,aq ab _ _,aq ai _ _,aq ah _ _,aq ap _ _,aq ae _ _,aq ag _ _,aq aj _ _,trivial⟩ rfl rfl rfl rfl u3 rfl) rfl rfl ?_)
  refine⟨.inr rfl,_,M0.of [] (a8 rfl (.cons (Z5.tmp rfl) .nil)) rfl ⟨.same rfl (by decide),.same rfl (by decide),.same rfl (by decide),.same rfl (by decide),.same rfl (by decide),.same rfl (by decide),.same rfl (by decide),.same rfl (by decide),trivial⟩ .same,?_⟩
  rfl
 have he:=(h3.resolve_left (fun k=>by rw[k.1]at h2;cases h2)).2
 subst he
 refine⟨.inr rfl,_,M0.of [] (a8 rfl (.cons (Z5.tmp rfl) .nil)) rfl ⟨.same rfl (by decide),.same rfl (by decide),.same rfl (by decide),.same rfl (by decide),.same rfl (by decide),.same rfl (by decide),.same rfl (by decide),.same rfl (by decide),trivial⟩ .same,?_⟩
 rfl
theorem Oy(g:List Int)(us:List UsS)(s s':OSt)(ok:Bool)(ho:OOk s)(h2:g.length=s.n)(h3:BL g)(hu:∀u∈us,B1 u.n)(h4:us.length<100000)(h0:0<us.length)(h1:us.length=1->us[0].n=1)(h:xl s g us=some (s',ok)):t8 Tryz.prog 150 [.ptr 1000000 0 0,.tree 2 (g.map bI),.tree 3 (us.map usA)] [(1000000,sB s),(1000001,s1 s),(1000002,s2 s),(1000003,s3 s),(1000004,s4 s),(1000005,s5 s),(1000006,s6 s),(1000007,s7 s)] [(1000000,some (sB s')),(1000001,some (s1 s')),(1000002,some (s2 s')),(1000003,some (s3 s')),(1000004,some (s4 s')),(1000005,some (s5 s')),(1000006,some (s6 s')),(1000007,some (s7 s'))] (fun q=>q=.v (.bool ok)):=
 abi g ⟨by rw[h2];have:=ho.n2;omega,fun _ _=>trivial⟩ us ⟨by omega,fun _ _=>trivial⟩ s s' ok ho h2 h3 hu h4 h0 h1 h
theorem Vy(s s':OSt)(ok:Bool)(ho:OOk s)(hz:s.K.length<=1000000)(h:Zz s=some (s',ok)):t8 Tryz.prog 114 [.ptr 1000000 0 0] [(1000000,sB s),(1000001,s1 s),(1000002,s2 s),(1000003,s3 s),(1000004,s4 s),(1000005,s5 s),(1000006,s6 s),(1000007,s7 s)] [(1000000,some (sB s')),(1000001,some (s1 s')),(1000002,some (s2 s')),(1000003,some (s3 s')),(1000004,some (s4 s')),(1000005,some (s5 s')),(1000006,some (s6 s')),(1000007,some (s7 s'))] (fun q=>q=.v (.bool ok)):=by
 refine t8.of_vc kh [9,18,19,20,21,27,28] [] Tryz.func114 rfl Tryz.ntmps114 rfl (by kernel_rfl) (OpG.lk (ck rfl Tryz.underlying85 rfl rfl rfl) ?_)
 refine LpG.on (fun k0:KO=>(⟨fL [(0,.ptr 1000000 0 0),(9,.v (.int .i64 ((s.K.length:Nat):Int))),(10,.v (.int .i64 ((k0.k:Nat):Int)))],hLz [(1000000,sB k0.s),(1000001,s1 k0.s),(1000002,s2 k0.s),(1000003,s3 k0.s),(1000004,s4 k0.s),(1000005,s5 k0.s),(1000006,s6 k0.s),(1000007,s7 k0.s)],0⟩:St)) (fun k0=>(s.K.length-k0.k)) (fun k0=>(k0.k<=s.K.length/\(Ex (s.K.length-k0.k) k0.k k0.s=some (s',ok)/\OOk k0.s))) (⟨0,s⟩:KO) (cO (.cons rfl rfl (.cons rfl rfl (.cons rfl rfl .nil))) (.cons rfl rfl rfl (.cons rfl rfl (aa ab _ _) (.cons rfl rfl (aa ai _ _) (.cons rfl rfl (aa ah _ _) (.cons rfl rfl (aa ap _ _) (.cons rfl rfl (aa ae _ _) (.cons rfl rfl (aa ag _ _) (.cons rfl rfl (aa aj _ _) .nil))))))))) ⟨ad7 _,⟨h,ho⟩⟩ ?_
 rintro k0 h7
 obtain⟨hle_k0,h0⟩:=h7
 refine cL (fun h4=>?_) (fun h5=>?_)
 ·obtain⟨h3,sx,ok1,hp,h2⟩:=Vz h4 h0.1
  have h6:=h0.2.K _ (adt h3)
  obtain⟨h8,_⟩:=Dt hp h0.2 (Nat.zero_lt_one) h6.1.c h6.2
  obtain⟨_,rfl,h9⟩:=Oy k0.s.K[k0.k].cs [(⟨((k0.k:Nat):Int),1⟩:UsS)] k0.s sx ok1 h0.2 h6.2 h6.1.c (fun u hu=>by rw[ady.1 hu];exact Ns) (by simp) Nat.zero_lt_one (fun _=>rfl) hp
  refine OpG.lk (bn (k:=k0.k) ab Tryz.underlying85 kz rfl rfl rfl h3 rfl h3) (OpG.lk (fu Ae rfl rfl rfl h3) ?_)
  refine OpG.lk (LOp.cellN (k:=k0.k) (o:=0) ab xj rfl rfl h3 rfl) (OpG.lk (LOp.call G6 rfl (CloneL.tree aad (fun _=>rfl) k0.s.K[k0.k].cs (by rw[(h0.2.K _ (adt h3)).2];have:=h0.2.n2;omega))) ?_)
  refine ArgG.mk (qa (n:=1) ⟨by decide,by decide⟩) rfl ?_
  rintro _ rfl
  refine OpG.nw (cm (d4 Tryz.underlying121 Oc Nu rfl rfl rfl rfl) (fun η' h=>bi (f:=usA) (l:=[(⟨((k0.k:Nat):Int),1⟩:UsS)]) (ady.2 rfl) h rfl rfl rfl rfl rfl (fun a _=>⟨rfl,rfl⟩))) rfl (OpG.mk _ _ _ 1 (ba [(1000000,1000000),(1000001,1000001),(1000002,1000002),(1000003,1000003),(1000004,1000004),(1000005,1000005),(1000006,1000006),(1000007,1000007)] G5 h9 rfl rfl rfl rfl ⟨rfl,sX ab,sX ai,sX ah,sX ap,sX ae,sX ag,sX aj,trivial⟩ ⟨⟨rfl,.inl rfl⟩,au ab,au ai,au ah,au ap,au ae,au ag,au aj,trivial⟩ ⟨rfl,aq ab _ _,aq ai _ _,aq ah _ _,aq ap _ _,aq ae _ _,aq ag _ _,aq aj _ _,trivial⟩ rfl rfl rfl rfl u3 rfl) rfl rfl ?_)
  refine cB (fun h1=>?_) (fun h1=>?_)
  ·obtain⟨_,rfl,rfl⟩:=h2.resolve_left (fun k=>by rw[k.1]at h1;cases h1)
   refine⟨.inr rfl,_,M0.of [] (a8 rfl (.cons (Z5.tmp rfl) .nil)) rfl ⟨.same rfl (by decide),.same rfl (by decide),.same rfl (by decide),.same rfl (by decide),.same rfl (by decide),.same rfl (by decide),.same rfl (by decide),.same rfl (by decide),trivial⟩ .same,?_⟩
   rfl
  have hb:=(h2.resolve_right (fun k=>by rw[k.1]at h1;cases h1)).2
  refine⟨by omega,⟨(⟨k0.k+1,sx⟩:KO),(by show s.K.length-(k0.k+1)<s.K.length-k0.k;omega),(cO (.cons rfl rfl (.cons rfl rfl (.cons rfl rfl .nil))) (.cons rfl rfl rfl (.cons rfl rfl (aa ab _ _) (.cons rfl rfl (aa ai _ _) (.cons rfl rfl (aa ah _ _) (.cons rfl rfl (aa ap _ _) (.cons rfl rfl (aa ae _ _) (.cons rfl rfl (aa ag _ _) (.cons rfl rfl (aa aj _ _) .nil))))))))),?_⟩⟩
  exact⟨by show k0.k+1<=_;omega,⟨hb,h8⟩⟩
 obtain⟨he,rfl⟩:=V0 h5 h0.1
 subst he
 refine⟨.inr rfl,_,M0.of [] (a8 rfl (.cons (Z5.tmp rfl) .nil)) rfl ⟨.same rfl (by decide),.same rfl (by decide),.same rfl (by decide),.same rfl (by decide),.same rfl (by decide),.same rfl (by decide),.same rfl (by decide),.same rfl (by decide),trivial⟩ .same,?_⟩
 rfl
def Eo:Nat->Nat->List UInt8
 |0,_=>[]
 |f+1,n=>if n<10 then[UInt8.ofNat (48+n)]else Eo f (n/10)++[UInt8.ofNat (48+n%10)]
def Lc(x:Int):List UInt8:=if x<0 then 45::Eo 20 x.natAbs else Eo 20 x.natAbs
abbrev Ik(x:Int):ByteArray:=⟨(Lc x).toArray⟩
def Z8(l:List UInt8):Nat:=l.foldl (fun a c=>a*10+(c.toNat-48)) 0
theorem Gx{n:Nat}(h:n<10):(UInt8.ofNat (48+n)).toNat=48+n:=by
 rw[UInt8.toNat_ofNat',Nat.mod_eq_of_lt (by omega)]
theorem ve:∀{f n:Nat},n<10^f->Z8 (Eo f n)=n
 |0,n,h=>by simp at h;subst h;rfl
 |f+1,n,h=>by
  unfold Eo;split
  ·next g=>show 0*10+((UInt8.ofNat (48+n)).toNat-48)=n;rw[Gx g];omega
  ·next g=>
   have ih:=ve (f:=f) (n:=n/10) (by rw[Nat.pow_succ]at h;omega)
   have e:=Gx (n:=n%10) (by omega)
   unfold Z8 at ih ⊢
   rw[List.foldl_append,ih]
   simp only[List.foldl_cons,List.foldl_nil,e]
   omega
theorem Ly:∀{f n:Nat},∀c∈Eo f n,48<=c.toNat/\c.toNat<=57
 |0,n,c,h=>by simp[Eo]at h
 |f+1,n,c,h=>by
  unfold Eo at h;split at h
  ·next g=>rw[ady.1 h,Gx g];omega
  ·rcases adz.1 h with h|h
   ·exact Ly c h
   ·rw[ady.1 h,Gx (by omega)];omega
theorem En:∀{f n:Nat},(Eo f n).length<=f
 |0,n=>ad9 _
 |f+1,n=>by
  unfold Eo;split
  ·simp
  ·simp;exact En
theorem Sh{x:Int}:∀c∈Lc x,c≠32:=fun c h e=>by
 subst e;unfold Lc at h;split at h
 ·rcases aek.1 h with h|h
  ·exact absurd h (by decide)
  ·have:=(Ly _ h).1;exact absurd this (by decide)
 ·have:=(Ly _ h).1;exact absurd this (by decide)
theorem Lb{x:Int}:(Lc x).length<=21:=by
 have:=@En 20 x.natAbs
 unfold Lc;split
 ·simp;omega
 ·omega
theorem U4{x y:Int}(hx:B1 x)(hy:B1 y)(h:Lc x=Lc y):x=y:=by
 have px:x.natAbs<10^20:=Nat.lt_of_le_of_lt (show x.natAbs<=4294967295 by omega) (by decide)
 have py:y.natAbs<10^20:=Nat.lt_of_le_of_lt (show y.natAbs<=4294967295 by omega) (by decide)
 unfold Lc at h
 split at h<;>split at h
 ·have:=congrArg Z8 (List.cons.inj h).2
  rw[ve px,ve py]at this;omega
 ·have:=(Ly (45:UInt8) (by rw[<-h];exact List.mem_cons_self ..)).1
  exact absurd this (by decide)
 ·have:=(Ly (45:UInt8) (by rw[h];exact List.mem_cons_self ..)).1
  exact absurd this (by decide)
 ·have:=congrArg Z8 h
  rw[ve px,ve py]at this;omega
theorem Rl{x t:List UInt8}(hx:∀c∈x,c≠32)(ht:t=[]\/∃r,t=32::r):(x++t).takeWhile (fun c=>c !=32)=x:=by
 induction x with
 |nil=>
  rcases ht with rfl|⟨r,rfl⟩
  ·rfl
  ·rfl
 |cons a x ih=>
  have h1:(a !=32)=true:=bne_iff_ne.2 (hx a (List.mem_cons_self ..))
  simp only[List.cons_append,List.takeWhile_cons,h1,if_true]
  rw[ih fun c hc=>hx c (List.mem_cons_of_mem _ hc)]
theorem tl_0(r:List (List UInt8)):Lib.joinTail [32] r=[]\/∃t,Lib.joinTail [32] r=32::t:=by
 cases r with
 |nil=>exact .inl rfl
 |cons a r=>exact .inr ⟨a++Lib.joinTail [32] r,by simp[Lib.joinTail]⟩
theorem Gd:∀{a b:List (List UInt8)} (_:a.length=b.length) (_:∀x∈a,∀c∈x,c≠32) (_:∀x∈b,∀c∈x,c≠32) (_:Lib.join a [32]=Lib.join b [32]),a=b
 |[],[],_,_,_,_=>rfl
 |[],_::_,h,_,_,_=>by simp at h
 |_::_,[],h,_,_,_=>by simp at h
 |x::a,y::b,hl,ha,hb,h=>by
  rw[Lib.join_cons,Lib.join_cons]at h
  have hx:=Rl (ha x (List.mem_cons_self ..)) (tl_0 a)
  have hy:=Rl (hb y (List.mem_cons_self ..)) (tl_0 b)
  have e:x=y:=by rw[<-hx,<-hy,h]
  subst e
  have ht:=List.append_cancel_left h
  congr 1
  cases a with
  |nil=>
   cases b with
   |nil=>rfl
   |cons z b=>simp at hl
  |cons w a=>
   cases b with
   |nil=>simp at hl
   |cons z b=>
    refine Gd (by simpa using hl) (fun x hx=>ha x (List.mem_cons_of_mem _ hx)) (fun x hx=>hb x (List.mem_cons_of_mem _ hx)) ?_
    rw[Lib.join_cons,Lib.join_cons]
    simp only[Lib.joinTail,aei,List.flatten_cons,List.cons_append,List.nil_append]at ht
    have:=(List.cons.inj ht).2
    simpa[Lib.joinTail]using this
def Uv(g:List Int):List UInt8:=Lib.join (g.map Lc) [32]
abbrev yj(g:List Int):ByteArray:=⟨(Uv g).toArray⟩
theorem D6{a b:List Int}(ha:BL a)(hb:BL b)(hl:a.length=b.length)(h:yj a=yj b):a=b:=by
 have h1:Uv a=Uv b:=by have:=congrArg (fun z:ByteArray=>z.data.toList) h;simpa using this
 have h2:=Gd (by simp[hl]) (fun x hx=>by obtain⟨y,_,rfl⟩:=aej.1 hx;exact Sh) (fun x hx=>by obtain⟨y,_,rfl⟩:=aej.1 hx;exact Sh) h1
 refine List.ext_getElem hl fun i h3 h4=>U4 (ha _ (adt h3)) (hb _ (adt h4)) ?_
 have:=congrArg (fun z=>z[i]?) h2
 simpa[h3,h4]using this
theorem X8{r:List (List UInt8)}(h:∀x∈r,x.length<=21):(Lib.joinTail [32] r).length<=22*r.length:=by
 induction r with
 |nil=>exact ad7 _
 |cons a r ih=>
  have:=h a (List.mem_cons_self ..)
  have:=ih fun x hx=>h x (List.mem_cons_of_mem _ hx)
  simp only[Lib.joinTail,aei,List.flatten_cons,adx,aeg,aeh]at*
  omega
theorem Ut{g:List Int}:(Uv g).length<=22*g.length:=by
 unfold Uv
 cases g with
 |nil=>exact ad7 _
 |cons x g=>
  rw[aei,Lib.join_cons,adx]
  have:=@Lb x
  have:=X8 (r:=g.map Lc) (fun y hy=>by obtain⟨z,_,rfl⟩:=aej.1 hy;exact Lb)
  simp only[ad0,aeg]at*
  omega
abbrev Bz(g:List Int):List Int:=g.map fun x=>-x
theorem Kd{g:List Int}(h:BL g):BL (Bz g):=fun x hx=>by
 obtain⟨y,hy,rfl⟩:=aej.1 hx;have:=h y hy;constructor<;>omega
def uh(s:OSt)(g:List Int):Option Nat:=s.I.findIdx? fun y=>decide (y.g=Bz g)
def jk(s:OSt):Nat->Nat->Option (OSt×Int×Int×Bool×Bool)
 |0,_=>some (s,0,0,false,true)
 |f+1,k=>match s.I[k]? with
  |none=>none
  |some x=>match uh s x.g with
   |none=>jk s f (k+1)
   |some o=>if o<k then jk s f (k+1)else match s.I[o]? with
    |none=>none
    |some y=>if B1 (bnd s x+bnd s y)then
     if bnd s x+bnd s y<0 then match xl s (List.replicate s.n 0) [⟨x.a,1⟩,⟨y.a,1⟩]with
      |none=>none
      |some (s',_)=>some (s',0,0,false,false)
     else if bnd s x+bnd s y=0 then some (s,(k:Int),(o:Int),true,true)else jk s f (k+1)
     else none
def FM:Int:=65535
def zf(s:OSt):Option (OSt×Int×Int×Bool×Bool):=if SzS s/\(s.I.map (·.g)).Nodup/\∀x∈s.I,∀c∈x.g,aZ c<=FM then jk s s.I.length 0 else none
section
variable{s:OSt}{R:OSt×Int×Int×Bool×Bool}{k m:Nat}
theorem O4(hk:k<m)(h:jk s (m-k) k=some R)(h0:k<s.I.length):
 (uh s s.I[k].g=none/\jk s (m-(k+1)) (k+1)=some R)\/∃o,uh s s.I[k].g=some o/\((o<k/\jk s (m-(k+1)) (k+1)=some R)\/(¬o<k/\∃ho:o<s.I.length,B1 (bnd s s.I[k]+bnd s s.I[o])/\
  ((bnd s s.I[k]+bnd s s.I[o]<0/\∃s' b,xl s (List.replicate s.n 0) [⟨s.I[k].a,1⟩,⟨s.I[o].a,1⟩]=some (s',b)/\R=(s',0,0,false,false))\/(bnd s s.I[k]+bnd s s.I[o]=0/\R=(s,(k:Int),(o:Int),true,true))\/(0<bnd s s.I[k]+bnd s s.I[o]/\jk s (m-(k+1)) (k+1)=some R)))):=by
 rw[show m-k=(m-(k+1))+1 by omega]at h
 unfold jk at h
 rw[adu h0]at h
 simp only at h
 split at h
 ·next e=>exact .inl ⟨e,h⟩
 ·next o e=>
  refine .inr ⟨o,e,?_⟩
  split at h
  ·next g=>exact .inl ⟨g,h⟩
  ·next g=>
   refine .inr ⟨g,?_⟩
   split at h
   ·cases h
   ·next y ey=>
    obtain⟨ho,rfl⟩:=aen.1 ey
    refine⟨ho,?_⟩
    split at h
    ·next hb=>
     refine⟨hb,?_⟩
     split at h
     ·next hn=>
      split at h
      ·cases h
      ·next s' b ep=>cases h;exact .inl ⟨hn,_,b,ep,rfl⟩
     ·next hn=>
      split at h
      ·next hz=>cases h;exact .inr (.inl ⟨hz,rfl⟩)
      ·next hz=>exact .inr (.inr ⟨by omega,h⟩)
    ·cases h
theorem P6(hn:(s.I.map (·.g)).Nodup){g:List Int}{o:Nat}(h:uh s g=some o):∃ho:o<s.I.length,s.I[o].g=Bz g/\∀a (ha:a<s.I.length),s.I[a].g=Bz g->a=o:=by
 obtain⟨ho,h1,_⟩:=List.findIdx?_eq_some_iff_getElem.1 h
 have e:=ad5 h1
 refine⟨ho,e,fun a ha ea=>?_⟩
 have hp:=List.pairwise_iff_getElem.1 hn
 rcases Nat.lt_trichotomy a o with g|g|g
 ·exact(hp a o (by simpa using ha) (by simpa using ho) g (by simp[ea,e])).elim
 ·exact g
 ·exact(hp o a (by simpa using ho) (by simpa using ha) g (by simp[ea,e])).elim
theorem P5{g:List Int}(h:uh s g=none):∀y∈s.I,y.g≠Bz g:=fun y hy=>by
 have:=List.findIdx?_eq_none_iff.1 h y hy
 exact ad4 this
end
def Nt(x:Int):Prop:=PRet Tryz.prog 212 [.agg (bI x)] (fun q=>q=.v (.string (Ik x)))
def Ii:Prop:=∀ss:List ByteArray,(Lib.join (ss.map (·.data.toList)) [32]).length<=140737488355328->d8 Tryz.prog 213 [.tree 1 (ss.map sA),.v (.string ⟨#[32]⟩)] (.v (.string ⟨(Lib.join (ss.map (·.data.toList)) [32]).toArray⟩))
theorem keyS{g:List Int}:(⟨(Lib.join ((g.map Ik).map (·.data.toList)) [32]).toArray⟩:ByteArray)=yj g:=by
 simp[yj,Uv,Function.comp_def]
theorem Ps{g:List Int}:(Lib.join ((g.map Ik).map (·.data.toList)) [32]).length<=22*g.length:=by
 have:=@Ut g
 unfold Uv at this
 simpa[Function.comp_def]using this
theorem Z4(x:Int):aZ (-x)=aZ x:=by unfold aZ;split<;>split<;>omega
theorem ye{s:OSt}{R:OSt×Int×Int×Bool×Bool}(h:zf s=some R):(SzS s/\(s.I.map (·.g)).Nodup/\∀x∈s.I,∀c∈x.g,aZ c<=FM)/\jk s (s.I.length-0) 0=some R:=by
 unfold zf at h;split at h
 ·next g=>exact⟨g,h⟩
 cases h
theorem O5{s:OSt}{R:OSt×Int×Int×Bool×Bool}{k m:Nat}(hk:¬k<m)(h:jk s (m-k) k=some R):(s,0,0,false,true)=R:=by
 rw[show m-k=0 by omega]at h
 unfold jk at h
 cases h;rfl
theorem Uu{l:List ItS}{k:Nat}(h:k<l.length):(l.take k).map (fun x=>yj x.g)++[yj l[k].g]=(l.take (k+1)).map fun x=>yj x.g:=by
 rw[ad6 h,List.map_append];rfl
theorem Us{s:OSt}(ho:OOk s)(hn:(s.I.map (·.g)).Nodup){k:Nat}(h:k<s.I.length):∀y∈(s.I.take k).map (fun x=>yj x.g),y≠yj s.I[k].g:=fun y hy e=>by
 obtain⟨x,hx,rfl⟩:=aej.1 hy
 obtain⟨a,ha,rfl⟩:=aef hx
 have h0:a<s.I.length/\a<k:=by simp at ha;omega
 rw[List.getElem_take]at e
 have h1:=ho.I _ (adt h0.1)
 have h2:=ho.I _ (adt h)
 have e2:=D6 h1.1 h2.1 (by rw[h1.2.1,h2.2.1]) e
 exact(List.pairwise_iff_getElem.1 hn) a k (by simpa using h0.1) (by simpa using h) h0.2 (by simpa using e2)
theorem Pr{s:OSt}(ho:OOk s)(hn:(s.I.map (·.g)).Nodup){k:Nat}(h:k<s.I.length):match uh s s.I[k].g with
 |none=>∀y∈(s.I.take s.I.length).map (fun x=>yj x.g),y≠yj (Bz s.I[k].g)
 |some j=>∃hj:j<((s.I.take s.I.length).map fun x=>yj x.g).length,((s.I.take s.I.length).map fun x=>yj x.g)[j]=yj (Bz s.I[k].g)/\∀a (h:a<((s.I.take s.I.length).map fun x=>yj x.g).length),((s.I.take s.I.length).map fun x=>yj x.g)[a]=yj (Bz s.I[k].g)->a=j:=by
 have h2:=ho.I _ (adt h)
 rw[List.take_length]
 cases e:uh s s.I[k].g with
 |none=>
  intro y hy g
  obtain⟨x,hx,rfl⟩:=aej.1 hy
  have h1:=ho.I _ hx
  exact P5 e x hx (D6 h1.1 (Kd h2.1) (by rw[h1.2.1];simp[h2.2.1]) g)
 |some j=>
  obtain⟨hj,e1,e2⟩:=P6 hn e
  refine⟨by simpa using hj,by simp[e1],fun a ha g=>?_⟩
  have ha:a<s.I.length:=by simpa using ha
  have h1:=ho.I _ (adt ha)
  rw[List.getElem_map]at g
  exact e2 a ha (D6 h1.1 (Kd h2.1) (by rw[h1.2.1];simp[h2.2.1]) g)
section
variable{s:OSt}{k m:Nat}{hk':k<s.I.length}{R:OSt×Int×Int×Bool×Bool}{X:Nat->Nat->Prop}{Y:Nat->Prop}{N:Prop}
theorem Bt{p:Option Nat}(h:(p=none/\N)\/∃o,p=some o/\((o<k/\N)\/(¬o<k/\Y o)))(hc:p=none\/((p.getD 0:Nat):Int)<(k:Int)):N:=by
 rcases h with h|⟨o,rfl,h|h⟩
 ·exact h.2
 ·exact h.2
 rcases hc with hc|hc
 ·cases hc
 simp at hc;exact absurd hc h.1
theorem T7{p:Option Nat}(h:(p=none/\N)\/∃o,p=some o/\((o<k/\N)\/(¬o<k/\Y o)))(h1:¬p=none)(h2:¬((p.getD 0:Nat):Int)<(k:Int)):∃o,p=some o/\¬o<k/\Y o:=by
 rcases h with h|⟨o,rfl,h|h⟩
 ·exact absurd h.1 h1
 ·exact absurd (by simpa using h.1) h2
 exact⟨o,rfl,h.1,h.2⟩
end
theorem aaj{l:List Int}:(Bz l).length=(List.replicate l.length 0:List Int).length:=by simp
theorem Ma:b7 Tryz.prog 213=true:=by kernel_rfl
theorem by9:(Tryz.prog.info? 9).map (·.bytes)=some 16:=by kernel_rfl
theorem U8:dt Tryz.prog 242 0=some (0,1):=by kernel_rfl
theorem sz9:ao Tryz.prog 9=some 1:=by kernel_rfl
theorem zr9:bh Tryz.prog 9=some (.string ⟨#[]⟩):=by kernel_rfl
theorem Hw(l:List Int)(hl:iq l (fun y=>True))(hb:BL l)(hs:l.length<=1000000):PRet Tryz.prog 177 [.tree 2 (l.map bI)] (fun r=>r=.tree 2 ((Bz l).map bI)):=by
 refine ovT [7,20,100020] [7] Tryz.func177 rfl rfl (LenG.of ?_)
 refine OpG.nw (cr 0 (len:=l.length) Tryz.underlying45 iu Da Er rfl rfl rfl (by omega)) rfl (LenG.of ?_)
 refine LpG.on (fun k0:Nat=>(⟨fL [(0,.tree 2 (l.map bI)),(3,.sl 0 0 0 l.length),(9,.v (.int .i64 ((l.length:Nat):Int))),(10,.v (.int .i64 ((k0:Nat):Int)))],hLz [(0,⟨0,rF bI ((Bz l).take k0++(List.replicate l.length 0).drop k0),2,false⟩)],1⟩:St)) (fun k0=>(l.length-k0)) (fun k0=>(k0<=l.length)) 0 (cO (.cons rfl rfl (.cons rfl rfl (.cons rfl rfl (.cons rfl rfl .nil)))) (.cons (by rfl) rfl (aa ae _ _) .nil)) (ad7 _) ?_
 rintro k0 h0
 have hgr_k0:l.length<=140737488355328:=hl.1
 have hle_k0:=h0
 refine cL (fun hlt11=>?_) (fun hge11=>?_)
 ·refine IdxG.of ‹_› (ArgG.mk (yg (x:=l[k0]) (hb _ (adt ‹_›))) rfl ?_)
  rintro _ rfl
  refine OpG.lk (az (k:=k0) ae Tryz.underlying45 iu rfl rfl rfl (by omega) rfl) (OpG.wr (bj (k:=k0) (o:=0) (v:=-l[k0]) ae iu rfl rfl rfl rfl rfl rfl (by rw[ca aaj];simp;omega) (by decide) rfl) rfl ?_)
  refine⟨by omega,⟨(k0+1),by omega,(cO (.cons rfl rfl (.cons rfl rfl (.cons rfl rfl (.cons rfl rfl .nil)))) (.cons (by(rw[km aaj (by simp;omega) (fun h=>by simp)];rfl)) rfl (aa ae _ _) .nil)),?_⟩⟩
  omega
 refine RegG.via (fun _ h=>c9 0 ⟨0,rF bI (Bz l),2,false⟩ rfl (by rw[ir aaj (by simp;omega)]) h) (aw ?_)
 refine⟨.inr rfl,_,M1.tmp rfl ⟨[0],bz ae (ady.2 rfl) rfl (by simp)⟩,?_⟩
 rfl
theorem X5(g:List Int)(hg:iq g (fun y=>True))(hF:∀x∈g,Nt x)(hJ:Ii)(hs:g.length<=1000):PRet Tryz.prog 176 [.tree 2 (g.map bI)] (fun r=>r=.v (.string (yj g))):=by
 refine ovT [19] [7] Tryz.func176 rfl rfl (LenG.of ?_)
 refine LpG.via (fun _ h=>sc 3 1 rfl 1 rfl h) (LpG.on (fun k0:KL ByteArray=>(⟨fL [(3,.sl 0 k0.L.length 0 k0.L.length),(6,.tree 2 (g.map bI)),(7,.v (.int .i64 ((g.length:Nat):Int))),(8,.v (.int .i64 ((k0.k:Nat):Int)))],hLz [(0,⟨k0.L.length,rF sA k0.L,1,Nat.beq k0.L.length 0⟩)],1⟩:St)) (fun k0=>(g.length-k0.k)) (fun k0=>(k0.k<=g.length/\(k0.L=(g.take k0.k).map Ik))) (⟨0,[]⟩:KL ByteArray) (cO (.cons (by rfl) rfl (.cons rfl rfl (.cons rfl rfl (.cons rfl rfl .nil)))) (.cons (by rfl) rfl (aa cj _ _) .nil)) ⟨ad7 _,rfl⟩ ?_)
 rintro k0 h1
 have hgr_k0:g.length<=140737488355328:=hg.1
 obtain⟨hle_k0,h0⟩:=h1
 refine cL (fun h2=>?_) (fun hge9=>?_)
 ·have hll:k0.L.length=k0.k:=by rw[h0];simp;omega
  refine IdxG.of ‹_› (ArgG.mk ((show Nt g[k0.k]from hF _ (adt ‹_›))) rfl ?_)
  rintro _ rfl
  refine OpG.mk _ _ _ 3 (b9 cj (a:=((Ik g[k0.k]))) Tryz.underlying112 sz9 zr9 by9 rfl rfl rfl (er rfl rfl rfl rfl) rfl (by omega) (by omega) (by unfold TV;omega)) rfl rfl ⟨by omega,⟨(⟨k0.k+1,k0.L++[Ik g[k0.k]]⟩:KL ByteArray),(by show g.length-(k0.k+1)<g.length-k0.k;omega),(cO (.cons (by(rw[adx];rfl)) rfl (.cons rfl rfl (.cons rfl rfl (.cons rfl rfl .nil)))) (.cons (by(rw[adx];rfl)) rfl (aa cj _ _) .nil)),?_⟩⟩
  refine⟨by show k0.k+1<=_;omega,?_⟩
  show k0.L++_=_
  rw[ad6 h2,List.map_append,h0];rfl
 have h4:k0.L=g.map Ik:=by rw[h0,ael (by omega)]
 have h3:=hJ (g.map Ik) (aec Ps (by omega))
 rw[keyS]at h3
 rw[h4]
 refine RegG.via (fun _ h=>bl [0] 3 (.tree 1 ((g.map Ik).map sA)) (ld cj (ady.2 rfl) rfl) rfl h) (aw ?_)
 exact OpG.lk (LOp.call Ma rfl h3) (rV rfl rfl rfl)
theorem Xp(s s':OSt)(i j:Int)(fd ok:Bool)(ho:OOk s)(hi:∀c,aZ c<=FM->Nt c)(hJ:Ii)(h:zf s=some (s',i,j,fd,ok)):t8 Tryz.prog 151 [.ptr 1000000 0 0] [(1000000,sB s),(1000001,s1 s),(1000002,s2 s),(1000003,s3 s),(1000004,s4 s),(1000005,s5 s),(1000006,s6 s),(1000007,s7 s)] [(1000000,some (sB s')),(1000001,some (s1 s')),(1000002,some (s2 s')),(1000003,some (s3 s')),(1000004,some (s4 s')),(1000005,some (s5 s')),(1000006,some (s6 s')),(1000007,some (s7 s'))] (fun q=>q=.tup [.v (.int .i64 i),.v (.int .i64 j),.v (.bool fd),.v (.bool ok)]):=by
 obtain⟨⟨⟨z1,z2,z3,z4,z5,z6,z7,z8⟩,hj,hk⟩,hp⟩:=ye h
 have hF:∀x∈s.I,∀c∈x.g,Nt c/\Nt (-c):=fun x hx c hc=>⟨hi c (hk x hx c hc),hi _ (by rw[Z4];exact hk x hx c hc)⟩
 refine t8.of_vc kh [18,22,23,34,38,39,46,58,65,66,67,77,87,88,89,92,93] [] Tryz.func151 rfl Tryz.ntmps151 rfl (by kernel_rfl) (OpG.nw (LOp.makeMap 0) rfl ?_)
 refine OpG.lk (ck rfl Tryz.underlying215 rfl rfl rfl) (LpG.on (fun k0:Nat=>(⟨fL [(0,.ptr 1000000 0 0),(6,.mp 0 0),(17,.sl 1000006 s.vI 0 s.I.length),(18,.v (.int .i64 ((s.I.length:Nat):Int))),(19,.v (.int .i64 ((k0:Nat):Int)))],hLz [(0,Pm ((s.I.take k0).map fun x=>yj x.g)),(1000000,sB s),(1000001,s1 s),(1000002,s2 s),(1000003,s3 s),(1000004,s4 s),(1000005,s5 s),(1000006,s6 s),(1000007,s7 s)],1⟩:St)) (fun k0=>(s.I.length-k0)) (fun k0=>(k0<=s.I.length)) 0 (cO (.cons rfl rfl (.cons rfl rfl (.cons rfl rfl (.cons rfl rfl (.cons rfl rfl .nil))))) (.cons (by rfl) rfl (oz _ _) (.cons rfl rfl rfl (.cons rfl rfl (aa ab _ _) (.cons rfl rfl (aa ai _ _) (.cons rfl rfl (aa ah _ _) (.cons rfl rfl (aa ap _ _) (.cons rfl rfl (aa ae _ _) (.cons rfl rfl (aa ag _ _) (.cons rfl rfl (aa aj _ _) .nil)))))))))) (ad7 _) ?_)
 rintro k0 h6
 have hle_k0:=h6
 refine cL (fun h2=>?_) (fun hge20=>?_)
 ·refine OpG.lk (bn (k:=k0) ag Tryz.underlying215 pj rfl rfl rfl h2 rfl h2) (OpG.lk (jp (k:=k0) ag nf rfl rfl h2) ?_)
  refine ArgG.mk (X5 s.I[k0].g ⟨by rw[(ho.I _ (adt h2)).2.1];have:=ho.n2;omega,fun _ _=>trivial⟩ (fun x hx=>(hF _ (adt h2) x hx).1) hJ (by rw[(ho.I _ (adt h2)).2.1];exact ho.n2)) rfl ?_
  rintro _ rfl
  refine OpG.wr (Q6 Tryz.underlying246 Tryz.underlying9 rfl rfl rfl (by simp;omega) rfl (Us ho hj h2)) rfl ⟨by omega,⟨(k0+1),by omega,(cO (.cons rfl rfl (.cons rfl rfl (.cons rfl rfl (.cons rfl rfl (.cons rfl rfl .nil))))) (.cons (by(rw[Uu h2];rfl)) rfl (oz _ _) (.cons rfl rfl rfl (.cons rfl rfl (aa ab _ _) (.cons rfl rfl (aa ai _ _) (.cons rfl rfl (aa ah _ _) (.cons rfl rfl (aa ap _ _) (.cons rfl rfl (aa ae _ _) (.cons rfl rfl (aa ag _ _) (.cons rfl rfl (aa aj _ _) .nil)))))))))),?_⟩⟩
  omega
 obtain rfl:k0=s.I.length:=by omega
 refine OpG.lk (ck rfl Tryz.underlying215 rfl rfl rfl) (LpG.on (fun k2:Nat=>(⟨fL [(0,.ptr 1000000 0 0),(6,.mp 0 0),(33,.sl 1000006 s.vI 0 s.I.length),(34,.v (.int .i64 ((s.I.length:Nat):Int))),(35,.v (.int .i64 ((k2:Nat):Int)))],hLz [(0,Pm ((s.I.take s.I.length).map fun x=>yj x.g)),(1000000,sB s),(1000001,s1 s),(1000002,s2 s),(1000003,s3 s),(1000004,s4 s),(1000005,s5 s),(1000006,s6 s),(1000007,s7 s)],1⟩:St)) (fun k2=>(s.I.length-k2)) (fun k2=>(k2<=s.I.length/\jk s (s.I.length-k2) k2=some (s',i,j,fd,ok))) 0 (cO (.cons rfl rfl (.cons rfl rfl (.cons rfl rfl (.cons rfl rfl (.cons rfl rfl .nil))))) (.cons rfl rfl (oz _ _) (.cons rfl rfl rfl (.cons rfl rfl (aa ab _ _) (.cons rfl rfl (aa ai _ _) (.cons rfl rfl (aa ah _ _) (.cons rfl rfl (aa ap _ _) (.cons rfl rfl (aa ae _ _) (.cons rfl rfl (aa ag _ _) (.cons rfl rfl (aa aj _ _) .nil)))))))))) ⟨ad7 _,hp⟩ ?_)
 rintro k2 h6
 obtain⟨hle_k2,h5⟩:=h6
 refine cL (fun h0=>?_) (fun h8=>?_)
 ·have hd:=O4 h0 h5 h0
  refine OpG.lk (bn (k:=k2) ag Tryz.underlying215 pj rfl rfl rfl h0 rfl h0) (OpG.lk (jp (k:=k2) ag nf rfl rfl h0) ?_)
  refine ArgG.mk (Hw s.I[k2].g ⟨by rw[(ho.I _ (adt h0)).2.1];have:=ho.n2;omega,fun _ _=>trivial⟩ (ho.I _ (adt h0)).1 (by rw[(ho.I _ (adt h0)).2.1];have:=ho.n2;omega)) rfl ?_
  rintro _ rfl
  refine ArgG.mk (X5 (Bz s.I[k2].g) ⟨by rw[ad0,(ho.I _ (adt h0)).2.1];have:=ho.n2;omega,fun _ _=>trivial⟩ (fun x hx=>by obtain⟨y,hy,rfl⟩:=aej.1 hx;exact(hF _ (adt h0) y hy).2) hJ (by rw[ad0,(ho.I _ (adt h0)).2.1];exact ho.n2)) rfl ?_
  rintro _ rfl
  refine OpG.lk (M8 (p:=uh s s.I[k2].g) Tryz.underlying246 Tryz.underlying9 zr3 rfl rfl rfl (Pr ho hj h0)) (cB (fun h3=>?_) (fun h3=>?_))
  ·have h9:jk s (s.I.length-(k2+1)) (k2+1)=some (s',i,j,fd,ok):=Bt hd (.inl (by simpa using h3))
   refine cT ⟨by omega,⟨(k2+1),by omega,(cO (.cons rfl rfl (.cons rfl rfl (.cons rfl rfl (.cons rfl rfl (.cons rfl rfl .nil))))) (.cons rfl rfl (oz _ _) (.cons rfl rfl rfl (.cons rfl rfl (aa ab _ _) (.cons rfl rfl (aa ai _ _) (.cons rfl rfl (aa ah _ _) (.cons rfl rfl (aa ap _ _) (.cons rfl rfl (aa ae _ _) (.cons rfl rfl (aa ag _ _) (.cons rfl rfl (aa aj _ _) .nil)))))))))),?_⟩⟩
   exact⟨by omega,h9⟩
  refine cD (fun he=>?_) (fun he=>?_)
  ·have h9:jk s (s.I.length-(k2+1)) (k2+1)=some (s',i,j,fd,ok):=Bt hd (.inr (by omega))
   refine⟨by omega,⟨(k2+1),by omega,(cO (.cons rfl rfl (.cons rfl rfl (.cons rfl rfl (.cons rfl rfl (.cons rfl rfl .nil))))) (.cons rfl rfl (oz _ _) (.cons rfl rfl rfl (.cons rfl rfl (aa ab _ _) (.cons rfl rfl (aa ai _ _) (.cons rfl rfl (aa ah _ _) (.cons rfl rfl (aa ap _ _) (.cons rfl rfl (aa ae _ _) (.cons rfl rfl (aa ag _ _) (.cons rfl rfl (aa aj _ _) .nil)))))))))),?_⟩⟩
   exact⟨by omega,h9⟩
  obtain⟨o,hf,hnk,h4,hl,hm⟩:=T7 hd (fun e=>by rw[e]at h3;simp at h3) (by omega)
  obtain⟨_,rfl,hg⟩:=Mc s s.I[k2] (ho.I _ (adt h0))
  obtain⟨_,rfl,hh⟩:=Mc s s.I[o] (ho.I _ (adt h4))
  refine OpG.lk (du (ba [(1000000,1000000),(1000001,1000001),(1000002,1000002),(1000003,1000003),(1000004,1000004),(1000005,1000005),(1000006,1000006),(1000007,1000007)] t6 hg rfl rfl rfl rfl ⟨rfl,sX ab,sX ai,sX ah,sX ap,sX ae,sX ag,sX aj,trivial⟩ ⟨⟨rfl,.inl rfl⟩,au ab,au ai,au ah,au ap,au ae,au ag,au aj,trivial⟩ ⟨rfl,aq ab _ _,aq ai _ _,aq ah _ _,aq ap _ _,aq ae _ _,aq ag _ _,aq aj _ _,trivial⟩ rfl rfl rfl rfl u3 rfl) ⟨⟨.head _,rfl,rfl⟩,⟨.tail _ (.head _),rfl,rfl⟩,⟨.tail _ (.tail _ (.head _)),rfl,rfl⟩,⟨.tail _ (.tail _ (.tail _ (.head _))),rfl,rfl⟩,⟨.tail _ (.tail _ (.tail _ (.tail _ (.head _)))),rfl,rfl⟩,⟨.tail _ (.tail _ (.tail _ (.tail _ (.tail _ (.head _))))),rfl,rfl⟩,⟨.tail _ (.tail _ (.tail _ (.tail _ (.tail _ (.tail _ (.head _)))))),rfl,rfl⟩,⟨.tail _ (.tail _ (.tail _ (.tail _ (.tail _ (.tail _ (.tail _ (.head _))))))),rfl,rfl⟩,trivial⟩) (OpG.lk (bn (k:=o) ag Tryz.underlying215 pj rfl rfl (by rw[hf];rfl) h4 rfl h4) ?_)
  refine OpG.lk (jp (k:=o) ag nf rfl rfl h4) (OpG.lk (du (ba [(1000000,1000000),(1000001,1000001),(1000002,1000002),(1000003,1000003),(1000004,1000004),(1000005,1000005),(1000006,1000006),(1000007,1000007)] t6 hh rfl rfl rfl rfl ⟨rfl,sX ab,sX ai,sX ah,sX ap,sX ae,sX ag,sX aj,trivial⟩ ⟨⟨rfl,.inl rfl⟩,au ab,au ai,au ah,au ap,au ae,au ag,au aj,trivial⟩ ⟨rfl,aq ab _ _,aq ai _ _,aq ah _ _,aq ap _ _,aq ae _ _,aq ag _ _,aq aj _ _,trivial⟩ rfl rfl rfl rfl u3 rfl) ⟨⟨.head _,rfl,rfl⟩,⟨.tail _ (.head _),rfl,rfl⟩,⟨.tail _ (.tail _ (.head _)),rfl,rfl⟩,⟨.tail _ (.tail _ (.tail _ (.head _))),rfl,rfl⟩,⟨.tail _ (.tail _ (.tail _ (.tail _ (.head _)))),rfl,rfl⟩,⟨.tail _ (.tail _ (.tail _ (.tail _ (.tail _ (.head _))))),rfl,rfl⟩,⟨.tail _ (.tail _ (.tail _ (.tail _ (.tail _ (.tail _ (.head _)))))),rfl,rfl⟩,⟨.tail _ (.tail _ (.tail _ (.tail _ (.tail _ (.tail _ (.tail _ (.head _))))))),rfl,rfl⟩,trivial⟩) ?_)
  refine ArgG.mk (Hc (x:=bnd s s.I[k2]) (y:=bnd s s.I[o]) (ho.bB (ho.I _ (adt h0))) (ho.bB (ho.I _ (adt h4))) hl) rfl ?_
  rintro _ rfl
  refine ArgG.mk (ny (x:=(bnd s s.I[k2]+bnd s s.I[o])) hl) rfl ?_
  rintro _ rfl
  refine⟨by kernel_rfl,cE (fun ha=>?_) (fun ha=>?_)⟩
  ·obtain⟨hneg,s2,bp,hn,hR⟩:=hm.resolve_right (fun k=>by have:=Rr.1 (show sgZ (bnd s s.I[k2]+bnd s s.I[o])<0 by omega);rcases k with k|k<;>omega)
   cases hR
   obtain⟨_,rfl,hq⟩:=Oy (List.replicate s.n 0) [(⟨s.I[k2].a,1⟩:UsS),⟨s.I[o].a,1⟩] s s' bp ho (by simp) (oh _) (fun u hu=>by(rcases aek.1 hu with rfl|hu;exact Ns;rw[ady.1 hu];exact Ns)) (by simp) (by simp) (fun h=>absurd h (by simp)) hn
   refine OpG.nw (cm (cr 2 (len:=s.n) Tryz.underlying45 iu Da Er rfl rfl rfl (by have:=ho.n2;omega)) (fun η' h=>bz ae (ady.2 rfl) h (by simp))) rfl (ArgG.mk (qa (n:=1) ⟨by decide,by decide⟩) rfl ?_)
   rintro _ rfl
   refine OpG.lk (bn (k:=o) ag Tryz.underlying215 pj rfl rfl (by rw[hf];rfl) h4 rfl h4) (OpG.lk (fu U8 rfl rfl rfl h4) ?_)
   refine OpG.lk (LOp.cellN (k:=o) (o:=0) ag aa8 rfl rfl h4 rfl) (ArgG.mk (qa (n:=1) ⟨by decide,by decide⟩) rfl ?_)
   rintro _ rfl
   refine OpG.nw (cm (d4 Tryz.underlying121 Oc Nu rfl rfl rfl rfl) (fun η' h=>bi (f:=usA) (l:=[(⟨s.I[k2].a,1⟩:UsS),⟨s.I[o].a,1⟩]) (ady.2 rfl) h rfl rfl rfl rfl rfl (fun a _=>⟨rfl,rfl⟩))) rfl (OpG.mk _ _ _ 4 (ba [(1000000,1000000),(1000001,1000001),(1000002,1000002),(1000003,1000003),(1000004,1000004),(1000005,1000005),(1000006,1000006),(1000007,1000007)] G5 hq rfl rfl rfl rfl ⟨rfl,sX ab,sX ai,sX ah,sX ap,sX ae,sX ag,sX aj,trivial⟩ ⟨⟨rfl,.inl rfl⟩,au ab,au ai,au ah,au ap,au ae,au ag,au aj,trivial⟩ ⟨rfl,aq ab _ _,aq ai _ _,aq ah _ _,aq ap _ _,aq ae _ _,aq ag _ _,aq aj _ _,trivial⟩ rfl rfl rfl rfl u3 rfl) rfl rfl ?_)
   refine⟨by kernel_rfl,⟨.inr rfl,_,M0.of [] (a8 rfl (.cons (Z5.tmp rfl) (.cons (Z5.tmp rfl) (.cons (Z5.tmp rfl) (.cons (Z5.tmp rfl) .nil))))) rfl ⟨.same rfl (by decide),.same rfl (by decide),.same rfl (by decide),.same rfl (by decide),.same rfl (by decide),.same rfl (by decide),.same rfl (by decide),.same rfl (by decide),trivial⟩ .same,?_⟩⟩
   rfl
  have hb:=hm.resolve_left (fun k=>ha (by unfold sgZ;rw[ad1 (by omega),ad3 k.1]))
  refine cE (fun h7=>?_) (fun h7=>?_)
  ·obtain⟨hz,hR⟩:=hb.resolve_right (fun k=>by have:=sgZ_0.1 h7;omega)
   cases hR
   refine⟨.inr rfl,_,M0.of [] (a8 rfl (.cons (Z5.tmp rfl) (.cons (Z5.tmp rfl) (.cons (Z5.tmp rfl) (.cons (Z5.tmp rfl) .nil))))) rfl ⟨.same rfl (by decide),.same rfl (by decide),.same rfl (by decide),.same rfl (by decide),.same rfl (by decide),.same rfl (by decide),.same rfl (by decide),.same rfl (by decide),trivial⟩ .same,?_⟩
   (rw[hf];rfl)
  have h9:=(hb.resolve_left (fun k=>h7 (sgZ_0.2 k.1))).2
  refine⟨by omega,⟨(k2+1),by omega,(cO (.cons rfl rfl (.cons rfl rfl (.cons rfl rfl (.cons rfl rfl (.cons rfl rfl .nil))))) (.cons rfl rfl (oz _ _) (.cons rfl rfl rfl (.cons rfl rfl (aa ab _ _) (.cons rfl rfl (aa ai _ _) (.cons rfl rfl (aa ah _ _) (.cons rfl rfl (aa ap _ _) (.cons rfl rfl (aa ae _ _) (.cons rfl rfl (aa ag _ _) (.cons rfl rfl (aa aj _ _) .nil)))))))))),?_⟩⟩
  exact⟨by omega,h9⟩
 have hR:=O5 h8 h5
 cases hR
 refine⟨.inr rfl,_,M0.of [] (a8 rfl (.cons (Z5.tmp rfl) (.cons (Z5.tmp rfl) (.cons (Z5.tmp rfl) (.cons (Z5.tmp rfl) .nil))))) rfl ⟨.same rfl (by decide),.same rfl (by decide),.same rfl (by decide),.same rfl (by decide),.same rfl (by decide),.same rfl (by decide),.same rfl (by decide),.same rfl (by decide),trivial⟩ .same,?_⟩
 rfl
def Pn{α β:Type}(f:α->Option β):List α->Option (List β)
 |[]=>some []
 |x::l=>match f x,Pn f l with
  |some y,some r=>some (y::r)
  |_,_=>none
theorem mi{α β:Type}{f:α->Option β}:∀{l:List α} {r:List β} (_:Pn f l=some r),r.length=l.length/\∀i (h:i<l.length) (h':i<r.length),f l[i]=some r[i]
 |[],r,h=>by cases h;exact⟨rfl,fun i h=>absurd h (ad8 i)⟩
 |x::l,r,h=>by
  unfold Pn at h
  split at h
  ·next y r' e1 e2=>
   cases h
   obtain⟨h1,h2⟩:=mi e2
   refine⟨by simp[h1],fun i hi hj=>?_⟩
   cases i with
   |zero=>exact e1
   |succ i=>exact h2 i (by simpa using hi) (by simpa using hj)
  ·cases h
def H0(j p:Nat)(q:Int)(l:List Int):Option (List Int):=match l[j]?,l[p]? with
 |some a,some b=>if B1 (q*b)/\B1 (a-q*b)then some (l.set j (a-q*b))else none
 |_,_=>none
theorem yi{j p:Nat}{q:Int}{l r:List Int}(h:H0 j p q l=some r):∃(hj:j<l.length) (hp:p<l.length),B1 (q*l[p])/\B1 (l[j]-q*l[p])/\r=l.set j (l[j]-q*l[p]):=by
 unfold H0 at h
 split at h
 ·next a b e1 e2=>
  obtain⟨hj,rfl⟩:=aen.1 e1
  obtain⟨hp,rfl⟩:=aen.1 e2
  split at h
  ·next hb=>cases h;exact⟨hj,hp,hb.1,hb.2,rfl⟩
  ·cases h
 ·cases h
theorem ru{l:List Int}{j:Nat}{v:Int}(h:BL l)(hv:B1 v):BL (l.set j v):=fun x hx=>by
 rcases List.mem_or_eq_of_mem_set hx with hx|rfl
 ·exact h x hx
 ·exact hv
def Ya(f:List Int->Option (List Int))(x:ItS):Option ItS:=(f x.g).map fun g=>⟨x.a,g⟩
theorem B8{f:List Int->Option (List Int)}{x y:ItS}(h:Ya f x=some y):f x.g=some y.g/\y.a=x.a:=by
 unfold Ya at h
 cases e:f x.g with
 |none=>rw[e]at h;cases h
 |some g=>rw[e]at h;cases h;exact⟨rfl,rfl⟩
def Sv(f:List Int->Option (List Int))(s:OSt):Option OSt:=if SzS s then match Pn f s.U,Pn (Ya f) s.I with
 |some U,some I=>some {s with U:=U,I:=I}
 |_,_=>none
 else none
theorem w4{f:List Int->Option (List Int)}{s s':OSt}(h:Sv f s=some s'):SzS s/\∃U I,Pn f s.U=some U/\Pn (Ya f) s.I=some I/\s'={s with U:=U,I:=I}:=by
 unfold Sv at h
 split at h
 ·next hz=>
  split at h
  ·next U I e1 e2=>cases h;exact⟨hz,U,I,e1,e2,rfl⟩
  ·cases h
 ·cases h
abbrev Rq(s:OSt)(j p:Nat)(q:Int):Option OSt:=Sv (H0 j p q) s
def Hl(p:Nat)(l:List Int):Option (List Int):=match l[p]? with
 |some b=>some (l.set p (-b))
 |none=>none
theorem xx{p:Nat}{l r:List Int}(h:Hl p l=some r):∃hp:p<l.length,r=l.set p (-l[p]):=by
 unfold Hl at h
 split at h
 ·next b e=>obtain⟨hp,rfl⟩:=aen.1 e;cases h;exact⟨hp,rfl⟩
 ·cases h
abbrev U5(s:OSt)(p:Nat):Option OSt:=Sv (Hl p) s
def Q7(f:List Int->Option (List Int)):Prop:=∀l r,BL l->f l=some r->BL r/\r.length=l.length
theorem B6{j p:Nat}{q:Int}:Q7 (H0 j p q):=fun l r hl h=>by
 obtain⟨hj,hp,_,h2,rfl⟩:=yi h
 exact⟨ru hl h2,by simp⟩
theorem Ku{p:Nat}:Q7 (Hl p):=fun l r hl h=>by
 obtain⟨hp,rfl⟩:=xx h
 have:=hl _ (adt hp)
 exact⟨ru hl ⟨by omega,by omega⟩,by simp⟩
theorem Vp{f:List Int->Option (List Int)}{s s':OSt}(hf:Q7 f)(h:Sv f s=some s')(ho:OOk s):OOk s'/\s'.n=s.n/\s'.K=s.K/\s'.I.length=s.I.length:=by
 obtain⟨_,U,I,e1,e2,rfl⟩:=w4 h
 obtain⟨l1,a1⟩:=mi e1
 obtain⟨l2,a2⟩:=mi e2
 refine⟨⟨ho.n1,ho.n2,ho.K,fun y hy=>?_,l1.trans ho.Ul,fun r hr=>?_,ho.T,ho.Vl,ho.V⟩,rfl,rfl,l2⟩
 ·obtain⟨i,hi,rfl⟩:=aef hy
  have hi:i<I.length:=hi
  have h0:i<s.I.length:=by omega
  obtain⟨g1,g2⟩:=B8 (a2 i h0 hi)
  obtain⟨b1,b2,j,b3,b4⟩:=ho.I _ (adt h0)
  obtain⟨c1,c2⟩:=hf _ _ b1 g1
  exact⟨c1,c2.trans b2,j,g2.trans b3,b4⟩
 ·obtain⟨i,hi,rfl⟩:=aef hr
  have hi:i<U.length:=hi
  have h0:i<s.U.length:=by omega
  obtain⟨b1,b2⟩:=ho.U _ (adt h0)
  obtain⟨c1,c2⟩:=hf _ _ b1 (a1 i h0 hi)
  exact⟨c1,c2.trans b2⟩
def xm(g:List Int):List Int->Nat->Int->Int
 |[],_,p=>p
 |x::r,j,p=>xm g r (j+1) (if x≠0/\(p<0\/aZ x<aZ (g.getD p.toNat 0))then(j:Int)else p)
abbrev n4(g:List Int):Int:=xm g g 0 (-1)
def Ge(g:List Int)(p i:Nat):Nat->Nat->OSt->Bool->Option (OSt×Bool)
 |0,_,s,b=>some (s,b)
 |f+1,j,s,b=>match s.I[i]? with
  |none=>none
  |some x=>match x.g[j]? with
   |none=>none
   |some c=>if j≠p/\c≠0 then(if B1 (flD (g.getD j 0) (g.getD p 0))then match Rq s j p (flD (g.getD j 0) (g.getD p 0))with
    |none=>none
    |some s'=>Ge g p i f (j+1) s' false
    else none)
    else Ge g p i f (j+1) s b
def Pv(i:Nat):Nat->OSt->Option (OSt×Nat)
 |0,_=>none
 |f+1,s=>match s.I[i]? with
  |none=>none
  |some x=>if n4 x.g<0\/x.g.getD (n4 x.g).toNat 0=0 then none else match Ge x.g (n4 x.g).toNat i x.g.length 0 s true with
   |none=>none
   |some (s',true)=>if x.g.getD (n4 x.g).toNat 0<0 then(U5 s' (n4 x.g).toNat).map (·,(n4 x.g).toNat)else some (s',(n4 x.g).toNat)
   |some (s',false)=>Pv i f s'
end Go.Proofs.YtbhhmbchdponjaaGreatDoor
