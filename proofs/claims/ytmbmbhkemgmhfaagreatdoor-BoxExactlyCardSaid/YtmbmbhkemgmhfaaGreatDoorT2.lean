/- Texts of the claim. -/
import Derived.Lib.Join
import Derived.Test.YtmbmbhkemgmhfaaGreatDoorT1
import Derived.Test.YtmbmbhkemgmhfaaGreatDoorQ2
namespace Go.Proofs
open Go.Shelf
def Tryz.cloB_ren:Go.Shelf.Ren:=⟨fun|41=>96|n=>n,fun|22=>66|23=>69|4=>4|n=>n,fun|n=>n⟩
theorem Tryz.cloB:Go.Proofs.SlLaysE0.n41 Tryz.prog Tryz.cloB_ren:={
 mixed:=by kernel_rfl
 f41:=⟨Tryz.f96.name,by decide,Tryz.func96.trans (congrArg some (by kernel_rfl))⟩
 t4:=Tryz.underlying4
 a4:=Tryz.isAgg4
 z4:=Tryz.sizeOf4
 v4:=Tryz.zeroValue4
 t22:=Tryz.underlying66
 a22:=Tryz.isAgg66
 z22:=Tryz.sizeOf66
 v22:=Tryz.zeroValue66}
end Go.Proofs
namespace Go.Proofs.YtmbmbhkemgmhfaaGreatDoor
set_option maxRecDepth 1000000
set_option maxHeartbeats 0
open Go.Shelf in
theorem ac8:CloneL Tryz.prog 96 2:=⟨⟨Tryz.cloB_ren,Tryz.t69,_,_,rfl,Tryz.cloB,by kernel_rfl,rfl,rfl,rfl,rfl,Tryz.sizeOf69,by decide⟩,by decide⟩
set_option linter.unusedVariables false
set_option linter.unusedSimpArgs false
open Go.RowKit
theorem Xj:B1 1:=⟨by decide,by decide⟩
theorem svI(s:OSt)(k:Nat)(x:ItS):some (sB s)=some (sB {s with I:=s.I.set k x}):=by simp only[sB,List.length_set]
theorem Nx(s:OSt)(x:ItS)(hx:Jq s x):o7 Tryz.prog 123 [.ptr 1000000 0 0,.agg (itA x)] [(1000000,sB s),(1000001,s1 s),(1000002,s2 s),(1000003,s3 s),(1000004,s4 s),(1000005,s5 s),(1000006,s6 s),(1000007,s7 s)] [(1000000,some (sB s)),(1000001,some (s1 s)),(1000002,some (s2 s)),(1000003,some (s3 s)),(1000004,some (s4 s)),(1000005,some (s5 s)),(1000006,some (s6 s)),(1000007,some (s7 s))] (fun q=>q=.agg (bI (bnd s x))):=by
 obtain⟨_,_,j,h1,h2⟩:=hx
 rw[Ho h1 h2];exact As s x j _ h1 (agu h2)
theorem ab9:bv Tryz.prog 117=true:=by kernel_rfl
theorem Ty:bv Tryz.prog 118=true:=by kernel_rfl
theorem Rh:bv Tryz.prog 96=true:=by kernel_rfl
theorem Rg:bv Tryz.prog 97=true:=by kernel_rfl
theorem W8:(Tryz.prog.info? 230).map (·.bytes)=some 32:=by kernel_rfl
theorem Wq:cp Tryz.prog 196 0=some (0,1):=by kernel_rfl
theorem Bo:c9 Tryz.prog 66=some none:=by kernel_rfl
theorem Pe:ap Tryz.prog 206=some 3:=by kernel_rfl
theorem lg:ap Tryz.prog 230=some 2:=by kernel_rfl
theorem O5:bi Tryz.prog 206=some (.agg #[.int .i64 0,.bool false,.slice none 0 0]):=by kernel_rfl
theorem Ua:bi Tryz.prog 230=some (.agg #[.int .i64 0,.slice none 0 0]):=by kernel_rfl
theorem ack(s s':OSt)(x:ItS)(ho:OOk s)(hx:Jq s x)(h:Cv s x=some s'):o7 Tryz.prog 118 [.ptr 1000000 0 0,.agg (itA x)] [(1000000,sB s),(1000001,s1 s),(1000002,s2 s),(1000003,s3 s),(1000004,s4 s),(1000005,s5 s),(1000006,s6 s),(1000007,s7 s)] [(1000000,some (sB s')),(1000001,some (s1 s')),(1000002,some (s2 s')),(1000003,some (s3 s')),(1000004,some (s4 s')),(1000005,some (s5 s')),(1000006,some (s6 s')),(1000007,some (s7 s'))] (fun q=>q=.tup []):=by
 obtain⟨y1,y2,y3,y4,y5,y6,y7,y8⟩:=Aw h
 have h8:fy x.g (fun _=>True):=⟨by rw[hx.2.1];have:=ho.n2;omega,fun _ _=>trivial⟩
 have h9:∀y∈s.I,fy y.g (fun _=>True):=fun y hy=>⟨by rw[(ho.I y hy).2.1];have:=ho.n2;omega,fun _ _=>trivial⟩
 refine o7.of_vc ik [10,14,15,23,26,35,44,100035] [] Tryz.func118 rfl Tryz.ntmps118 rfl (by kernel_rfl) (OpG.lk (bo rfl Tryz.underlying198 rfl rfl rfl) ?_)
 refine LpG.on (fun k0:Nat=>(⟨fL [(0,.ptr 1000000 0 0),(3,.ptr 0 0 0),(9,.sl 1000006 s.vI 0 s.I.length),(10,.v (.int .i64 ((s.I.length:Nat):Int))),(11,.v (.int .i64 ((k0:Nat):Int)))],hLz [(0,⟨0,itA x,0,false⟩),(1000000,sB s),(1000001,s1 s),(1000002,s2 s),(1000003,s3 s),(1000004,s4 s),(1000005,s5 s),(1000006,s6 s),(1000007,s7 s)],1⟩:St)) (fun k0=>(s.I.length-k0)) (fun k0=>(k0<=s.I.length/\∀j (hl:j<s.I.length),j<k0->¬x.g=s.I[j].g)) 0 (cO (.cons rfl rfl (.cons rfl rfl (.cons rfl rfl (.cons rfl rfl (.cons rfl rfl .nil))))) (.cons rfl rfl rfl (.cons rfl rfl rfl (.cons rfl rfl (aa ag _ _) (.cons rfl rfl (aa ai _ _) (.cons rfl rfl (aa ah _ _) (.cons rfl rfl (aa ao _ _) (.cons rfl rfl (aa ab _ _) (.cons rfl rfl (aa ae _ _) (.cons rfl rfl (aa aj _ _) .nil)))))))))) ⟨ag6 _,fun j _ h=>absurd h (ag7 j)⟩ ?_
 rintro k0 h5
 obtain⟨hle_k0,h2⟩:=h5
 refine cL (fun h0=>?_) (fun hge12=>?_)
 ·refine OpG.lk (bl (k:=k0) ae Tryz.underlying198 lg rfl rfl rfl h0 rfl h0) (OpG.lk (fu (k:=k0) ae lp rfl rfl h0) ?_)
  refine ArgG.mk (Qy x.g h8 s.I[k0].g (h9 _ (agt h0)) hx.1 (ho.I _ (agt h0)).1 (by rw[hx.2.1];have:=ho.n2;omega)) rfl ?_
  rintro _ rfl
  refine cB (fun h3=>?_) (fun h3=>?_)
  ·have hs:=Xm h h0 (ag4 h3) h2
   obtain⟨_,rfl,h6⟩:=Nx s x hx
   obtain⟨_,rfl,h7⟩:=Nx s s.I[k0] (ho.I _ (agt h0))
   refine OpG.lk (cw (a8 [(1000000,1000000),(1000001,1000001),(1000002,1000002),(1000003,1000003),(1000004,1000004),(1000005,1000005),(1000006,1000006),(1000007,1000007)] tk h6 rfl rfl rfl rfl ⟨rfl,sX ag,sX ai,sX ah,sX ao,sX ab,sX ae,sX aj,trivial⟩ ⟨⟨rfl,.inl rfl⟩,av ag,av ai,av ah,av ao,av ab,av ae,av aj,trivial⟩ ⟨rfl,au ag _ _,au ai _ _,au ah _ _,au ao _ _,au ab _ _,au ae _ _,au aj _ _,trivial⟩ rfl rfl rfl rfl rr rfl) ⟨⟨.head _,rfl,rfl⟩,⟨.tail _ (.head _),rfl,rfl⟩,⟨.tail _ (.tail _ (.head _)),rfl,rfl⟩,⟨.tail _ (.tail _ (.tail _ (.head _))),rfl,rfl⟩,⟨.tail _ (.tail _ (.tail _ (.tail _ (.head _)))),rfl,rfl⟩,⟨.tail _ (.tail _ (.tail _ (.tail _ (.tail _ (.head _))))),rfl,rfl⟩,⟨.tail _ (.tail _ (.tail _ (.tail _ (.tail _ (.tail _ (.head _)))))),rfl,rfl⟩,⟨.tail _ (.tail _ (.tail _ (.tail _ (.tail _ (.tail _ (.tail _ (.head _))))))),rfl,rfl⟩,trivial⟩) (OpG.lk (cw (a8 [(1000000,1000000),(1000001,1000001),(1000002,1000002),(1000003,1000003),(1000004,1000004),(1000005,1000005),(1000006,1000006),(1000007,1000007)] tk h7 rfl rfl rfl rfl ⟨rfl,sX ag,sX ai,sX ah,sX ao,sX ab,sX ae,sX aj,trivial⟩ ⟨⟨rfl,.inl rfl⟩,av ag,av ai,av ah,av ao,av ab,av ae,av aj,trivial⟩ ⟨rfl,au ag _ _,au ai _ _,au ah _ _,au ao _ _,au ab _ _,au ae _ _,au aj _ _,trivial⟩ rfl rfl rfl rfl rr rfl) ⟨⟨.head _,rfl,rfl⟩,⟨.tail _ (.head _),rfl,rfl⟩,⟨.tail _ (.tail _ (.head _)),rfl,rfl⟩,⟨.tail _ (.tail _ (.tail _ (.head _))),rfl,rfl⟩,⟨.tail _ (.tail _ (.tail _ (.tail _ (.head _)))),rfl,rfl⟩,⟨.tail _ (.tail _ (.tail _ (.tail _ (.tail _ (.head _))))),rfl,rfl⟩,⟨.tail _ (.tail _ (.tail _ (.tail _ (.tail _ (.tail _ (.head _)))))),rfl,rfl⟩,⟨.tail _ (.tail _ (.tail _ (.tail _ (.tail _ (.tail _ (.tail _ (.head _))))))),rfl,rfl⟩,trivial⟩) ?_)
   refine ArgG.mk (l9 (x:=bnd s x) (y:=bnd s s.I[k0]) (ho.bB hx) (ho.bB (ho.I _ (agt h0)))) rfl ?_
   rintro _ rfl
   refine⟨by kernel_rfl,cD (fun h4=>?_) (fun h4=>?_)⟩
   ·rw[ag2 (by have:=Sl.1 h4;omega)]at hs
    subst hs
    refine OpG.lk (bl (k:=k0) ae Tryz.underlying198 lg rfl rfl rfl h0 rfl h0) (OpG.wr (jl (k:=k0) (o:=0) (v:=x) ae lg rfl rfl rfl rfl rfl rfl h0 (by decide) rfl) rfl ?_)
    refine⟨by kernel_rfl,⟨.inr rfl,_,Fg.of [] (aw rfl .nil) rfl ⟨.same (svI s k0 x) (by decide),.same rfl (by decide),.same rfl (by decide),.same rfl (by decide),.same rfl (by decide),.same rfl (by decide),.same rfl (by decide),.same rfl (by decide),trivial⟩ .same,?_⟩⟩
    rfl
   rw[ag1 (by intro h;exact h4 (Sl.2 (by omega)))]at hs
   subst hs
   refine⟨.inr rfl,_,Fg.of [] (aw rfl .nil) rfl ⟨.same rfl (by decide),.same rfl (by decide),.same rfl (by decide),.same rfl (by decide),.same rfl (by decide),.same rfl (by decide),.same rfl (by decide),.same rfl (by decide),trivial⟩ .same,?_⟩
   rfl
  refine⟨by omega,⟨(k0+1),by omega,(cO (.cons rfl rfl (.cons rfl rfl (.cons rfl rfl (.cons rfl rfl (.cons rfl rfl .nil))))) (.cons rfl rfl rfl (.cons rfl rfl rfl (.cons rfl rfl (aa ag _ _) (.cons rfl rfl (aa ai _ _) (.cons rfl rfl (aa ah _ _) (.cons rfl rfl (aa ao _ _) (.cons rfl rfl (aa ab _ _) (.cons rfl rfl (aa ae _ _) (.cons rfl rfl (aa aj _ _) .nil)))))))))),?_⟩⟩
  refine⟨by omega,fun j hl h=>?_⟩
  rcases ag9.1 h with h|rfl
  ·exact h2 j hl h
  exact ag3 h3
 obtain⟨⟨z1,z2,z3,z4,z5,z6,z7,z8⟩,rfl⟩:=Rp h (fun j hl=>h2 j hl (by omega))
 refine OpG.mk _ _ _ 2 (bh ae (l:=s.I) (a:=x) Tryz.underlying198 lg Ua W8 rfl rfl rfl (ce rfl rfl rfl rfl) rfl (by omega) (by omega) (by unfold TV;omega)) rfl rfl ⟨by kernel_rfl,⟨.inl rfl,_,Fg.of [] (aw rfl .nil) rfl ⟨.same rfl (by decide),.same rfl (by decide),.same rfl (by decide),.same rfl (by decide),.same rfl (by decide),.same rfl (by decide),.same rfl (by decide),.same rfl (by decide),trivial⟩ .same,?_⟩⟩
 rfl
theorem afs(g:List Int)(us:List UsS)(s s':OSt)(x:ItS)(sm ok:Bool)(ho:OOk s)(h2:g.length=s.n)(h3:BL g)(hu:∀u∈us,B1 u.n)(h4:us.length<100000)(h0:0<us.length)(h1:us.length=1->us[0].n=1)(h:Iw s g us=some (s',x,sm,ok)):o7 Tryz.prog 117 [.ptr 1000000 0 0,.tree 2 (g.map bI),.tree 3 (us.map usA)] [(1000000,sB s),(1000001,s1 s),(1000002,s2 s),(1000003,s3 s),(1000004,s4 s),(1000005,s5 s),(1000006,s6 s),(1000007,s7 s)] [(1000000,some (sB s')),(1000001,some (s1 s')),(1000002,some (s2 s')),(1000003,some (s3 s')),(1000004,some (s4 s')),(1000005,some (s5 s')),(1000006,some (s6 s')),(1000007,some (s7 s'))] (fun q=>q=.tup [.agg (itA x),.v (.bool sm),.v (.bool ok)]):=by
 have h5:fy g (fun _=>True):=⟨by rw[h2];have:=ho.n2;omega,fun _ _=>trivial⟩
 have h6:fy us (fun _=>True):=⟨by omega,fun _ _=>trivial⟩
 by_cases hc:1<us.length\/dOf g≠1
 ·exact abm g h5 us h6 s x sm ok s' ho.n2 h2 h3 hu (fun q hq=>(ho.K q hq).1) h4 h0 h1 h hc
 exact abo g h5 us h6 s x sm ok s' ho.n2 h2 h3 hu (fun q hq=>(ho.K q hq).1) h4 h0 h1 h hc
theorem aed(g:List Int)(hg:fy g (fun y=>True))(us:List UsS)(hus:fy us (fun y=>True))(s s':OSt)(ok:Bool)(ho:OOk s)(h4:g.length=s.n)(h5:BL g)(hu:∀u∈us,B1 u.n)(h6:us.length<100000)(h0:0<us.length)(h1:us.length=1->us[0].n=1)(h:Dk s g us=some (s',ok)):o7 Tryz.prog 97 [.ptr 1000000 0 0,.tree 2 (g.map bI),.tree 3 (us.map usA)] [(1000000,sB s),(1000001,s1 s),(1000002,s2 s),(1000003,s3 s),(1000004,s4 s),(1000005,s5 s),(1000006,s6 s),(1000007,s7 s)] [(1000000,some (sB s')),(1000001,some (s1 s')),(1000002,some (s2 s')),(1000003,some (s3 s')),(1000004,some (s4 s')),(1000005,some (s5 s')),(1000006,some (s6 s')),(1000007,some (s7 s'))] (fun q=>q=.v (.bool ok)):=by
 obtain⟨s1,x,sm,hd,h3⟩:=Br h
 obtain⟨h7,_,h8⟩:=Ez hd ho h0 h5 h4
 refine o7.of_vc ik [14,21] [1,3] Tryz.func97 rfl Tryz.ntmps97 rfl (by kernel_rfl) ?_
 obtain⟨_,rfl,h9⟩:=afs g us s s1 x sm ok ho h4 h5 hu h6 h0 h1 hd
 refine ba (OpG.mk _ _ _ 0 (a8 [(1000000,1000000),(1000001,1000001),(1000002,1000002),(1000003,1000003),(1000004,1000004),(1000005,1000005),(1000006,1000006),(1000007,1000007)] ab9 h9 rfl rfl rfl rfl ⟨rfl,sX ag,sX ai,sX ah,sX ao,sX ab,sX ae,sX aj,trivial⟩ ⟨⟨rfl,.inl rfl⟩,av ag,av ai,av ah,av ao,av ab,av ae,av aj,trivial⟩ ⟨rfl,au ag _ _,au ai _ _,au ah _ _,au ao _ _,au ab _ _,au ae _ _,au aj _ _,trivial⟩ rfl rfl rfl rfl rr rfl) rfl rfl ?_)
 refine cB (fun h2=>?_) (fun h2=>?_)
 ·have ha:=(h3.resolve_right (fun k=>by rw[k.1]at h2;cases h2)).2
  obtain⟨_,rfl,hb⟩:=ack s1 s' x h7 h8 ha
  refine ba (OpG.mk _ _ _ 1 (a8 [(1000000,1000000),(1000001,1000001),(1000002,1000002),(1000003,1000003),(1000004,1000004),(1000005,1000005),(1000006,1000006),(1000007,1000007)] Ty hb rfl rfl rfl rfl ⟨rfl,sX ag,sX ai,sX ah,sX ao,sX ab,sX ae,sX aj,trivial⟩ ⟨⟨rfl,.inl rfl⟩,av ag,av ai,av ah,av ao,av ab,av ae,av aj,trivial⟩ ⟨rfl,au ag _ _,au ai _ _,au ah _ _,au ao _ _,au ab _ _,au ae _ _,au aj _ _,trivial⟩ rfl rfl rfl rfl rr rfl) rfl rfl ?_)
  refine⟨.inr rfl,_,Fg.of [] (aw rfl (.cons (acn.tmp rfl) .nil)) rfl ⟨.same rfl (by decide),.same rfl (by decide),.same rfl (by decide),.same rfl (by decide),.same rfl (by decide),.same rfl (by decide),.same rfl (by decide),.same rfl (by decide),trivial⟩ .same,?_⟩
  rfl
 have he:=(h3.resolve_left (fun k=>by rw[k.1]at h2;cases h2)).2
 subst he
 refine⟨.inr rfl,_,Fg.of [] (aw rfl (.cons (acn.tmp rfl) .nil)) rfl ⟨.same rfl (by decide),.same rfl (by decide),.same rfl (by decide),.same rfl (by decide),.same rfl (by decide),.same rfl (by decide),.same rfl (by decide),.same rfl (by decide),trivial⟩ .same,?_⟩
 rfl
theorem Pz(g:List Int)(us:List UsS)(s s':OSt)(ok:Bool)(ho:OOk s)(h2:g.length=s.n)(h3:BL g)(hu:∀u∈us,B1 u.n)(h4:us.length<100000)(h0:0<us.length)(h1:us.length=1->us[0].n=1)(h:Dk s g us=some (s',ok)):o7 Tryz.prog 97 [.ptr 1000000 0 0,.tree 2 (g.map bI),.tree 3 (us.map usA)] [(1000000,sB s),(1000001,s1 s),(1000002,s2 s),(1000003,s3 s),(1000004,s4 s),(1000005,s5 s),(1000006,s6 s),(1000007,s7 s)] [(1000000,some (sB s')),(1000001,some (s1 s')),(1000002,some (s2 s')),(1000003,some (s3 s')),(1000004,some (s4 s')),(1000005,some (s5 s')),(1000006,some (s6 s')),(1000007,some (s7 s'))] (fun q=>q=.v (.bool ok)):=
 aed g ⟨by rw[h2];have:=ho.n2;omega,fun _ _=>trivial⟩ us ⟨by omega,fun _ _=>trivial⟩ s s' ok ho h2 h3 hu h4 h0 h1 h
theorem Xf(s s':OSt)(ok:Bool)(ho:OOk s)(hz:s.K.length<=1000000)(h:adb s=some (s',ok)):o7 Tryz.prog 72 [.ptr 1000000 0 0] [(1000000,sB s),(1000001,s1 s),(1000002,s2 s),(1000003,s3 s),(1000004,s4 s),(1000005,s5 s),(1000006,s6 s),(1000007,s7 s)] [(1000000,some (sB s')),(1000001,some (s1 s')),(1000002,some (s2 s')),(1000003,some (s3 s')),(1000004,some (s4 s')),(1000005,some (s5 s')),(1000006,some (s6 s')),(1000007,some (s7 s'))] (fun q=>q=.v (.bool ok)):=by
 refine o7.of_vc ik [9,18,19,20,21,27,28] [] Tryz.func72 rfl Tryz.ntmps72 rfl (by kernel_rfl) (OpG.lk (bo rfl Tryz.underlying131 rfl rfl rfl) ?_)
 refine LpG.on (fun k0:KO=>(⟨fL [(0,.ptr 1000000 0 0),(9,.v (.int .i64 ((s.K.length:Nat):Int))),(10,.v (.int .i64 ((k0.k:Nat):Int)))],hLz [(1000000,sB k0.s),(1000001,s1 k0.s),(1000002,s2 k0.s),(1000003,s3 k0.s),(1000004,s4 k0.s),(1000005,s5 k0.s),(1000006,s6 k0.s),(1000007,s7 k0.s)],0⟩:St)) (fun k0=>(s.K.length-k0.k)) (fun k0=>(k0.k<=s.K.length/\(I4 (s.K.length-k0.k) k0.k k0.s=some (s',ok)/\OOk k0.s))) (⟨0,s⟩:KO) (cO (.cons rfl rfl (.cons rfl rfl (.cons rfl rfl .nil))) (.cons rfl rfl rfl (.cons rfl rfl (aa ag _ _) (.cons rfl rfl (aa ai _ _) (.cons rfl rfl (aa ah _ _) (.cons rfl rfl (aa ao _ _) (.cons rfl rfl (aa ab _ _) (.cons rfl rfl (aa ae _ _) (.cons rfl rfl (aa aj _ _) .nil))))))))) ⟨ag6 _,⟨h,ho⟩⟩ ?_
 rintro k0 h7
 obtain⟨hle_k0,h0⟩:=h7
 refine cL (fun h4=>?_) (fun h5=>?_)
 ·obtain⟨h3,sx,ok1,hp,h2⟩:=Xg h4 h0.1
  have h6:=h0.2.K _ (agt h3)
  obtain⟨h8,_⟩:=D9 hp h0.2 (Nat.zero_lt_one) h6.1.c h6.2
  obtain⟨_,rfl,h9⟩:=Pz k0.s.K[k0.k].cs [(⟨((k0.k:Nat):Int),1⟩:UsS)] k0.s sx ok1 h0.2 h6.2 h6.1.c (fun u hu=>by rw[agy.1 hu];exact Xj) (by simp) Nat.zero_lt_one (fun _=>rfl) hp
  refine OpG.lk (bl (k:=k0.k) ag Tryz.underlying131 xh rfl rfl rfl h3 rfl h3) (OpG.lk (fv Wq rfl rfl rfl h3) ?_)
  refine OpG.lk (LOp.cellN (k:=k0.k) (o:=0) ag Bo rfl rfl h3 rfl) (OpG.lk (LOp.call Rh rfl (CloneL.tree ac8 (fun _=>rfl) k0.s.K[k0.k].cs (by rw[(h0.2.K _ (agt h3)).2];have:=h0.2.n2;omega))) ?_)
  refine ArgG.mk (nq (n:=1) ⟨by decide,by decide⟩) rfl ?_
  rintro _ rfl
  refine OpG.nw (fx (je Tryz.underlying228 Pe O5 rfl rfl rfl rfl) (fun η' h=>cx (f:=usA) (l:=[(⟨((k0.k:Nat):Int),1⟩:UsS)]) (agy.2 rfl) h rfl rfl rfl rfl rfl (fun a _=>⟨rfl,rfl⟩))) rfl (OpG.mk _ _ _ 1 (a8 [(1000000,1000000),(1000001,1000001),(1000002,1000002),(1000003,1000003),(1000004,1000004),(1000005,1000005),(1000006,1000006),(1000007,1000007)] Rg h9 rfl rfl rfl rfl ⟨rfl,sX ag,sX ai,sX ah,sX ao,sX ab,sX ae,sX aj,trivial⟩ ⟨⟨rfl,.inl rfl⟩,av ag,av ai,av ah,av ao,av ab,av ae,av aj,trivial⟩ ⟨rfl,au ag _ _,au ai _ _,au ah _ _,au ao _ _,au ab _ _,au ae _ _,au aj _ _,trivial⟩ rfl rfl rfl rfl rr rfl) rfl rfl ?_)
  refine cB (fun h1=>?_) (fun h1=>?_)
  ·obtain⟨_,rfl,rfl⟩:=h2.resolve_left (fun k=>by rw[k.1]at h1;cases h1)
   refine⟨.inr rfl,_,Fg.of [] (aw rfl (.cons (acn.tmp rfl) .nil)) rfl ⟨.same rfl (by decide),.same rfl (by decide),.same rfl (by decide),.same rfl (by decide),.same rfl (by decide),.same rfl (by decide),.same rfl (by decide),.same rfl (by decide),trivial⟩ .same,?_⟩
   rfl
  have hb:=(h2.resolve_right (fun k=>by rw[k.1]at h1;cases h1)).2
  refine⟨by omega,⟨(⟨k0.k+1,sx⟩:KO),(by show s.K.length-(k0.k+1)<s.K.length-k0.k;omega),(cO (.cons rfl rfl (.cons rfl rfl (.cons rfl rfl .nil))) (.cons rfl rfl rfl (.cons rfl rfl (aa ag _ _) (.cons rfl rfl (aa ai _ _) (.cons rfl rfl (aa ah _ _) (.cons rfl rfl (aa ao _ _) (.cons rfl rfl (aa ab _ _) (.cons rfl rfl (aa ae _ _) (.cons rfl rfl (aa aj _ _) .nil))))))))),?_⟩⟩
  exact⟨by show k0.k+1<=_;omega,⟨hb,h8⟩⟩
 obtain⟨he,rfl⟩:=Xh h5 h0.1
 subst he
 refine⟨.inr rfl,_,Fg.of [] (aw rfl (.cons (acn.tmp rfl) .nil)) rfl ⟨.same rfl (by decide),.same rfl (by decide),.same rfl (by decide),.same rfl (by decide),.same rfl (by decide),.same rfl (by decide),.same rfl (by decide),.same rfl (by decide),trivial⟩ .same,?_⟩
 rfl
def E4:Nat->Nat->List UInt8
 |0,_=>[]
 |f+1,n=>if n<10 then[UInt8.ofNat (48+n)]else E4 f (n/10)++[UInt8.ofNat (48+n%10)]
def Mq(x:Int):List UInt8:=if x<0 then 45::E4 20 x.natAbs else E4 20 x.natAbs
abbrev Jp(x:Int):ByteArray:=⟨(Mq x).toArray⟩
def act(l:List UInt8):Nat:=l.foldl (fun a c=>a*10+(c.toNat-48)) 0
theorem He{n:Nat}(h:n<10):(UInt8.ofNat (48+n)).toNat=48+n:=by
 rw[UInt8.toNat_ofNat',Nat.mod_eq_of_lt (by omega)]
theorem uz:∀{f n:Nat},n<10^f->act (E4 f n)=n
 |0,n,h=>by simp at h;subst h;rfl
 |f+1,n,h=>by
  unfold E4;split
  ·next g=>show 0*10+((UInt8.ofNat (48+n)).toNat-48)=n;rw[He g];omega
  ·next g=>
   have ih:=uz (f:=f) (n:=n/10) (by rw[Nat.pow_succ]at h;omega)
   have e:=He (n:=n%10) (by omega)
   unfold act at ih ⊢
   rw[List.foldl_append,ih]
   simp only[List.foldl_cons,List.foldl_nil,e]
   omega
theorem Nj:∀{f n:Nat},∀c∈E4 f n,48<=c.toNat/\c.toNat<=57
 |0,n,c,h=>by simp[E4]at h
 |f+1,n,c,h=>by
  unfold E4 at h;split at h
  ·next g=>rw[agy.1 h,He g];omega
  ·rcases agz.1 h with h|h
   ·exact Nj c h
   ·rw[agy.1 h,He (by omega)];omega
theorem E3:∀{f n:Nat},(E4 f n).length<=f
 |0,n=>ag8 _
 |f+1,n=>by
  unfold E4;split
  ·simp
  ·simp;exact E3
theorem Tg{x:Int}:∀c∈Mq x,c≠32:=fun c h e=>by
 subst e;unfold Mq at h;split at h
 ·rcases ahk.1 h with h|h
  ·exact absurd h (by decide)
  ·have:=(Nj _ h).1;exact absurd this (by decide)
 ·have:=(Nj _ h).1;exact absurd this (by decide)
theorem Mp{x:Int}:(Mq x).length<=21:=by
 have:=@E3 20 x.natAbs
 unfold Mq;split
 ·simp;omega
 ·omega
theorem Wk{x y:Int}(hx:B1 x)(hy:B1 y)(h:Mq x=Mq y):x=y:=by
 have px:x.natAbs<10^20:=Nat.lt_of_le_of_lt (show x.natAbs<=4294967295 by omega) (by decide)
 have py:y.natAbs<10^20:=Nat.lt_of_le_of_lt (show y.natAbs<=4294967295 by omega) (by decide)
 unfold Mq at h
 split at h<;>split at h
 ·have:=congrArg act (List.cons.inj h).2
  rw[uz px,uz py]at this;omega
 ·have:=(Nj (45:UInt8) (by rw[<-h];exact List.mem_cons_self ..)).1
  exact absurd this (by decide)
 ·have:=(Nj (45:UInt8) (by rw[h];exact List.mem_cons_self ..)).1
  exact absurd this (by decide)
 ·have:=congrArg act h
  rw[uz px,uz py]at this;omega
theorem Sh{x t:List UInt8}(hx:∀c∈x,c≠32)(ht:t=[]\/∃r,t=32::r):(x++t).takeWhile (fun c=>c !=32)=x:=by
 induction x with
 |nil=>
  rcases ht with rfl|⟨r,rfl⟩
  ·rfl
  ·rfl
 |cons a x ih=>
  have h1:(a !=32)=true:=bne_iff_ne.2 (hx a (List.mem_cons_self ..))
  simp only[List.cons_append,List.takeWhile_cons,h1,if_true]
  rw[ih fun c hc=>hx c (List.mem_cons_of_mem _ hc)]
theorem tl_0(r:List (List UInt8)):Lib.joinTail [32] r=[]\/∃t,Lib.joinTail [32] r=32::t:=by
 cases r with
 |nil=>exact .inl rfl
 |cons a r=>exact .inr ⟨a++Lib.joinTail [32] r,by simp[Lib.joinTail]⟩
theorem Gt:∀{a b:List (List UInt8)} (_:a.length=b.length) (_:∀x∈a,∀c∈x,c≠32) (_:∀x∈b,∀c∈x,c≠32) (_:Lib.join a [32]=Lib.join b [32]),a=b
 |[],[],_,_,_,_=>rfl
 |[],_::_,h,_,_,_=>by simp at h
 |_::_,[],h,_,_,_=>by simp at h
 |x::a,y::b,hl,ha,hb,h=>by
  rw[Lib.join_cons,Lib.join_cons]at h
  have hx:=Sh (ha x (List.mem_cons_self ..)) (tl_0 a)
  have hy:=Sh (hb y (List.mem_cons_self ..)) (tl_0 b)
  have e:x=y:=by rw[<-hx,<-hy,h]
  subst e
  have ht:=List.append_cancel_left h
  congr 1
  cases a with
  |nil=>
   cases b with
   |nil=>rfl
   |cons z b=>simp at hl
  |cons w a=>
   cases b with
   |nil=>simp at hl
   |cons z b=>
    refine Gt (by simpa using hl) (fun x hx=>ha x (List.mem_cons_of_mem _ hx)) (fun x hx=>hb x (List.mem_cons_of_mem _ hx)) ?_
    rw[Lib.join_cons,Lib.join_cons]
    simp only[Lib.joinTail,ahh,List.flatten_cons,List.cons_append,List.nil_append]at ht
    have:=(List.cons.inj ht).2
    simpa[Lib.joinTail]using this
def V7(g:List Int):List UInt8:=Lib.join (g.map Mq) [32]
abbrev yh(g:List Int):ByteArray:=⟨(V7 g).toArray⟩
theorem El{a b:List Int}(ha:BL a)(hb:BL b)(hl:a.length=b.length)(h:yh a=yh b):a=b:=by
 have h1:V7 a=V7 b:=by have:=congrArg (fun z:ByteArray=>z.data.toList) h;simpa using this
 have h2:=Gt (by simp[hl]) (fun x hx=>by obtain⟨y,_,rfl⟩:=ahj.1 hx;exact Tg) (fun x hx=>by obtain⟨y,_,rfl⟩:=ahj.1 hx;exact Tg) h1
 refine List.ext_getElem hl fun i h3 h4=>Wk (ha _ (agt h3)) (hb _ (agt h4)) ?_
 have:=congrArg (fun z=>z[i]?) h2
 simpa[h3,h4]using this
theorem aar{r:List (List UInt8)}(h:∀x∈r,x.length<=21):(Lib.joinTail [32] r).length<=22*r.length:=by
 induction r with
 |nil=>exact ag6 _
 |cons a r ih=>
  have:=h a (List.mem_cons_self ..)
  have:=ih fun x hx=>h x (List.mem_cons_of_mem _ hx)
  simp only[Lib.joinTail,ahh,List.flatten_cons,agx,ahf,ahg]at*
  omega
theorem V5{g:List Int}:(V7 g).length<=22*g.length:=by
 unfold V7
 cases g with
 |nil=>exact ag6 _
 |cons x g=>
  rw[ahh,Lib.join_cons,agx]
  have:=@Mp x
  have:=aar (r:=g.map Mq) (fun y hy=>by obtain⟨z,_,rfl⟩:=ahj.1 hy;exact Mp)
  simp only[ag0,ahf]at*
  omega
abbrev rq(g:List Int):List Int:=g.map fun x=>-x
theorem Lk{g:List Int}(h:BL g):BL (rq g):=fun x hx=>by
 obtain⟨y,hy,rfl⟩:=ahj.1 hx;have:=h y hy;constructor<;>omega
def wj(s:OSt)(g:List Int):Option Nat:=s.I.findIdx? fun y=>decide (y.g=rq g)
def ly(s:OSt):Nat->Nat->Option (OSt×Int×Int×Bool×Bool)
 |0,_=>some (s,0,0,false,true)
 |f+1,k=>match s.I[k]? with
  |none=>none
  |some x=>match wj s x.g with
   |none=>ly s f (k+1)
   |some o=>if o<k then ly s f (k+1)else match s.I[o]? with
    |none=>none
    |some y=>if B1 (bnd s x+bnd s y)then
     if bnd s x+bnd s y<0 then match Dk s (List.replicate s.n 0) [⟨x.a,1⟩,⟨y.a,1⟩]with
      |none=>none
      |some (s',_)=>some (s',0,0,false,false)
     else if bnd s x+bnd s y=0 then some (s,(k:Int),(o:Int),true,true)else ly s f (k+1)
     else none
def FM:Int:=65535
def vu(s:OSt):Option (OSt×Int×Int×Bool×Bool):=if SzS s/\(s.I.map (·.g)).Nodup/\∀x∈s.I,∀c∈x.g,aZ c<=FM then ly s s.I.length 0 else none
section
variable{s:OSt}{R:OSt×Int×Int×Bool×Bool}{k m:Nat}
theorem P3(hk:k<m)(h:ly s (m-k) k=some R)(h0:k<s.I.length):
 (wj s s.I[k].g=none/\ly s (m-(k+1)) (k+1)=some R)\/∃o,wj s s.I[k].g=some o/\((o<k/\ly s (m-(k+1)) (k+1)=some R)\/(¬o<k/\∃ho:o<s.I.length,B1 (bnd s s.I[k]+bnd s s.I[o])/\
  ((bnd s s.I[k]+bnd s s.I[o]<0/\∃s' b,Dk s (List.replicate s.n 0) [⟨s.I[k].a,1⟩,⟨s.I[o].a,1⟩]=some (s',b)/\R=(s',0,0,false,false))\/(bnd s s.I[k]+bnd s s.I[o]=0/\R=(s,(k:Int),(o:Int),true,true))\/(0<bnd s s.I[k]+bnd s s.I[o]/\ly s (m-(k+1)) (k+1)=some R)))):=by
 rw[show m-k=(m-(k+1))+1 by omega]at h
 unfold ly at h
 rw[agu h0]at h
 simp only at h
 split at h
 ·next e=>exact .inl ⟨e,h⟩
 ·next o e=>
  refine .inr ⟨o,e,?_⟩
  split at h
  ·next g=>exact .inl ⟨g,h⟩
  ·next g=>
   refine .inr ⟨g,?_⟩
   split at h
   ·cases h
   ·next y ey=>
    obtain⟨ho,rfl⟩:=ahn.1 ey
    refine⟨ho,?_⟩
    split at h
    ·next hb=>
     refine⟨hb,?_⟩
     split at h
     ·next hn=>
      split at h
      ·cases h
      ·next s' b ep=>cases h;exact .inl ⟨hn,_,b,ep,rfl⟩
     ·next hn=>
      split at h
      ·next hz=>cases h;exact .inr (.inl ⟨hz,rfl⟩)
      ·next hz=>exact .inr (.inr ⟨by omega,h⟩)
    ·cases h
theorem Qt(hn:(s.I.map (·.g)).Nodup){g:List Int}{o:Nat}(h:wj s g=some o):∃ho:o<s.I.length,s.I[o].g=rq g/\∀a (ha:a<s.I.length),s.I[a].g=rq g->a=o:=by
 obtain⟨ho,h1,_⟩:=List.findIdx?_eq_some_iff_getElem.1 h
 have e:=ag4 h1
 refine⟨ho,e,fun a ha ea=>?_⟩
 have hp:=List.pairwise_iff_getElem.1 hn
 rcases Nat.lt_trichotomy a o with g|g|g
 ·exact(hp a o (by simpa using ha) (by simpa using ho) g (by simp[ea,e])).elim
 ·exact g
 ·exact(hp o a (by simpa using ho) (by simpa using ha) g (by simp[ea,e])).elim
theorem Qs{g:List Int}(h:wj s g=none):∀y∈s.I,y.g≠rq g:=fun y hy=>by
 have:=List.findIdx?_eq_none_iff.1 h y hy
 exact ag3 this
end
def O3(x:Int):Prop:=PRet Tryz.prog 156 [.agg (bI x)] (fun q=>q=.v (.string (Jp x)))
def Jl:Prop:=∀ss:List ByteArray,(Lib.join (ss.map (·.data.toList)) [32]).length<=140737488355328->eu Tryz.prog 157 [.tree 1 (ss.map sA),.v (.string ⟨#[32]⟩)] (.v (.string ⟨(Lib.join (ss.map (·.data.toList)) [32]).toArray⟩))
theorem keyS{g:List Int}:(⟨(Lib.join ((g.map Jp).map (·.data.toList)) [32]).toArray⟩:ByteArray)=yh g:=by
 simp[yh,V7,Function.comp_def]
theorem Qk{g:List Int}:(Lib.join ((g.map Jp).map (·.data.toList)) [32]).length<=22*g.length:=by
 have:=@V5 g
 unfold V7 at this
 simpa[Function.comp_def]using this
theorem acl(x:Int):aZ (-x)=aZ x:=by unfold aZ;split<;>split<;>omega
theorem yd{s:OSt}{R:OSt×Int×Int×Bool×Bool}(h:vu s=some R):(SzS s/\(s.I.map (·.g)).Nodup/\∀x∈s.I,∀c∈x.g,aZ c<=FM)/\ly s (s.I.length-0) 0=some R:=by
 unfold vu at h;split at h
 ·next g=>exact⟨g,h⟩
 cases h
theorem P4{s:OSt}{R:OSt×Int×Int×Bool×Bool}{k m:Nat}(hk:¬k<m)(h:ly s (m-k) k=some R):(s,0,0,false,true)=R:=by
 rw[show m-k=0 by omega]at h
 unfold ly at h
 cases h;rfl
theorem V6{l:List ItS}{k:Nat}(h:k<l.length):(l.take k).map (fun x=>yh x.g)++[yh l[k].g]=(l.take (k+1)).map fun x=>yh x.g:=by
 rw[ag5 h,ahi];rfl
theorem V4{s:OSt}(ho:OOk s)(hn:(s.I.map (·.g)).Nodup){k:Nat}(h:k<s.I.length):∀y∈(s.I.take k).map (fun x=>yh x.g),y≠yh s.I[k].g:=fun y hy e=>by
 obtain⟨x,hx,rfl⟩:=ahj.1 hy
 obtain⟨a,ha,rfl⟩:=ahe hx
 have h0:a<s.I.length/\a<k:=by simp at ha;omega
 rw[List.getElem_take]at e
 have h1:=ho.I _ (agt h0.1)
 have h2:=ho.I _ (agt h)
 have e2:=El h1.1 h2.1 (by rw[h1.2.1,h2.2.1]) e
 exact(List.pairwise_iff_getElem.1 hn) a k (by simpa using h0.1) (by simpa using h) h0.2 (by simpa using e2)
theorem Qj{s:OSt}(ho:OOk s)(hn:(s.I.map (·.g)).Nodup){k:Nat}(h:k<s.I.length):match wj s s.I[k].g with
 |none=>∀y∈(s.I.take s.I.length).map (fun x=>yh x.g),y≠yh (rq s.I[k].g)
 |some j=>∃hj:j<((s.I.take s.I.length).map fun x=>yh x.g).length,((s.I.take s.I.length).map fun x=>yh x.g)[j]=yh (rq s.I[k].g)/\∀a (h:a<((s.I.take s.I.length).map fun x=>yh x.g).length),((s.I.take s.I.length).map fun x=>yh x.g)[a]=yh (rq s.I[k].g)->a=j:=by
 have h2:=ho.I _ (agt h)
 rw[List.take_length]
 cases e:wj s s.I[k].g with
 |none=>
  intro y hy g
  obtain⟨x,hx,rfl⟩:=ahj.1 hy
  have h1:=ho.I _ hx
  exact Qs e x hx (El h1.1 (Lk h2.1) (by rw[h1.2.1];simp[h2.2.1]) g)
 |some j=>
  obtain⟨hj,e1,e2⟩:=Qt hn e
  refine⟨by simpa using hj,by simp[e1],fun a ha g=>?_⟩
  have ha:a<s.I.length:=by simpa using ha
  have h1:=ho.I _ (agt ha)
  rw[List.getElem_map]at g
  exact e2 a ha (El h1.1 (Lk h2.1) (by rw[h1.2.1];simp[h2.2.1]) g)
section
variable{s:OSt}{k m:Nat}{hk':k<s.I.length}{R:OSt×Int×Int×Bool×Bool}{X:Nat->Nat->Prop}{Y:Nat->Prop}{N:Prop}
theorem Bw{p:Option Nat}(h:(p=none/\N)\/∃o,p=some o/\((o<k/\N)\/(¬o<k/\Y o)))(hc:p=none\/((p.getD 0:Nat):Int)<(k:Int)):N:=by
 rcases h with h|⟨o,rfl,h|h⟩
 ·exact h.2
 ·exact h.2
 rcases hc with hc|hc
 ·cases hc
 simp at hc;exact absurd hc h.1
theorem Vh{p:Option Nat}(h:(p=none/\N)\/∃o,p=some o/\((o<k/\N)\/(¬o<k/\Y o)))(h1:¬p=none)(h2:¬((p.getD 0:Nat):Int)<(k:Int)):∃o,p=some o/\¬o<k/\Y o:=by
 rcases h with h|⟨o,rfl,h|h⟩
 ·exact absurd h.1 h1
 ·exact absurd (by simpa using h.1) h2
 exact⟨o,rfl,h.1,h.2⟩
end
theorem adg{l:List Int}:(rq l).length=(List.replicate l.length 0:List Int).length:=by simp
theorem Nw:bv Tryz.prog 157=true:=by kernel_rfl
theorem by9:(Tryz.prog.info? 9).map (·.bytes)=some 16:=by kernel_rfl
theorem Wo:cp Tryz.prog 230 0=some (0,1):=by kernel_rfl
theorem Sq:c9 Tryz.prog 3=some none:=by kernel_rfl
theorem sz9:ap Tryz.prog 9=some 1:=by kernel_rfl
theorem zr3:bi Tryz.prog 3=some (.int .i64 0):=by kernel_rfl
theorem zr9:bi Tryz.prog 9=some (.string ⟨#[]⟩):=by kernel_rfl
theorem If(l:List Int)(hl:fy l (fun y=>True))(hb:BL l)(hs:l.length<=1000000):PRet Tryz.prog 120 [.tree 2 (l.map bI)] (fun r=>r=.tree 2 ((rq l).map bI)):=by
 refine ovT [7,20,100020] [7] Tryz.func120 rfl rfl (LenG.of ?_)
 refine OpG.nw (cq 0 (len:=l.length) Tryz.underlying66 jf Dj E6 rfl rfl rfl (by omega)) rfl (LenG.of ?_)
 refine LpG.on (fun k0:Nat=>(⟨fL [(0,.tree 2 (l.map bI)),(3,.sl 0 0 0 l.length),(9,.v (.int .i64 ((l.length:Nat):Int))),(10,.v (.int .i64 ((k0:Nat):Int)))],hLz [(0,⟨0,rF bI ((rq l).take k0++(List.replicate l.length 0).drop k0),2,false⟩)],1⟩:St)) (fun k0=>(l.length-k0)) (fun k0=>(k0<=l.length)) 0 (cO (.cons rfl rfl (.cons rfl rfl (.cons rfl rfl (.cons rfl rfl .nil)))) (.cons (by rfl) rfl (aa ab _ _) .nil)) (ag6 _) ?_
 rintro k0 h0
 have hgr_k0:l.length<=140737488355328:=hl.1
 have hle_k0:=h0
 refine cL (fun hlt11=>?_) (fun hge11=>?_)
 ·refine IdxG.of ‹_› (ArgG.mk (v8 (x:=l[k0]) (hb _ (agt ‹_›))) rfl ?_)
  rintro _ rfl
  refine OpG.lk (ak (k:=k0) ab Tryz.underlying66 jf rfl rfl rfl (by omega) rfl) (OpG.wr (az (k:=k0) (o:=0) (v:=-l[k0]) ab jf rfl rfl rfl rfl rfl rfl (by rw[bw adg];simp;omega) (by decide) rfl) rfl ?_)
  refine⟨by omega,⟨(k0+1),by omega,(cO (.cons rfl rfl (.cons rfl rfl (.cons rfl rfl (.cons rfl rfl .nil)))) (.cons (by(rw[el adg (by simp;omega) (fun h=>by simp)];rfl)) rfl (aa ab _ _) .nil)),?_⟩⟩
  omega
 refine RegG.via (fun _ h=>cd 0 ⟨0,rF bI (rq l),2,false⟩ rfl (by rw[dq adg (by simp;omega)]) h) (ba ?_)
 refine⟨.inr rfl,_,Og.tmp rfl ⟨[0],bn ab (agy.2 rfl) rfl (by simp)⟩,?_⟩
 rfl
theorem aaj(g:List Int)(hg:fy g (fun y=>True))(hF:∀x∈g,O3 x)(hJ:Jl)(hs:g.length<=1000):PRet Tryz.prog 119 [.tree 2 (g.map bI)] (fun r=>r=.v (.string (yh g))):=by
 refine ovT [19] [7] Tryz.func119 rfl rfl (LenG.of ?_)
 refine LpG.via (fun _ h=>ic 3 1 rfl 1 rfl h) (LpG.on (fun k0:KL ByteArray=>(⟨fL [(3,.sl 0 k0.L.length 0 k0.L.length),(6,.tree 2 (g.map bI)),(7,.v (.int .i64 ((g.length:Nat):Int))),(8,.v (.int .i64 ((k0.k:Nat):Int)))],hLz [(0,⟨k0.L.length,rF sA k0.L,1,Nat.beq k0.L.length 0⟩)],1⟩:St)) (fun k0=>(g.length-k0.k)) (fun k0=>(k0.k<=g.length/\(k0.L=(g.take k0.k).map Jp))) (⟨0,[]⟩:KL ByteArray) (cO (.cons (by rfl) rfl (.cons rfl rfl (.cons rfl rfl (.cons rfl rfl .nil)))) (.cons (by rfl) rfl (aa bt _ _) .nil)) ⟨ag6 _,rfl⟩ ?_)
 rintro k0 h1
 have hgr_k0:g.length<=140737488355328:=hg.1
 obtain⟨hle_k0,h0⟩:=h1
 refine cL (fun h2=>?_) (fun hge9=>?_)
 ·have hll:k0.L.length=k0.k:=by rw[h0];simp;omega
  refine IdxG.of ‹_› (ArgG.mk ((show O3 g[k0.k]from hF _ (agt ‹_›))) rfl ?_)
  rintro _ rfl
  refine OpG.mk _ _ _ 3 (bh bt (a:=((Jp g[k0.k]))) Tryz.underlying121 sz9 zr9 by9 rfl rfl rfl (ce rfl rfl rfl rfl) rfl (by omega) (by omega) (by unfold TV;omega)) rfl rfl ⟨by omega,⟨(⟨k0.k+1,k0.L++[Jp g[k0.k]]⟩:KL ByteArray),(by show g.length-(k0.k+1)<g.length-k0.k;omega),(cO (.cons (by(rw[agx];rfl)) rfl (.cons rfl rfl (.cons rfl rfl (.cons rfl rfl .nil)))) (.cons (by(rw[agx];rfl)) rfl (aa bt _ _) .nil)),?_⟩⟩
  refine⟨by show k0.k+1<=_;omega,?_⟩
  show k0.L++_=_
  rw[ag5 h2,ahi,h0];rfl
 have h4:k0.L=g.map Jp:=by rw[h0,ahl (by omega)]
 have h3:=hJ (g.map Jp) (ahb Qk (by omega))
 rw[keyS]at h3
 rw[h4]
 refine RegG.via (fun _ h=>br [0] 3 (.tree 1 ((g.map Jp).map sA)) (FzP.rows bt (agy.2 rfl) rfl) rfl h) (ba ?_)
 exact OpG.lk (LOp.call Nw rfl h3) (rV rfl rfl rfl)
theorem Zs(s s':OSt)(i j:Int)(fd ok:Bool)(ho:OOk s)(hi:∀c,aZ c<=FM->O3 c)(hJ:Jl)(h:vu s=some (s',i,j,fd,ok)):o7 Tryz.prog 98 [.ptr 1000000 0 0] [(1000000,sB s),(1000001,s1 s),(1000002,s2 s),(1000003,s3 s),(1000004,s4 s),(1000005,s5 s),(1000006,s6 s),(1000007,s7 s)] [(1000000,some (sB s')),(1000001,some (s1 s')),(1000002,some (s2 s')),(1000003,some (s3 s')),(1000004,some (s4 s')),(1000005,some (s5 s')),(1000006,some (s6 s')),(1000007,some (s7 s'))] (fun q=>q=.tup [.v (.int .i64 i),.v (.int .i64 j),.v (.bool fd),.v (.bool ok)]):=by
 obtain⟨⟨⟨z1,z2,z3,z4,z5,z6,z7,z8⟩,hj,hk⟩,hp⟩:=yd h
 have hF:∀x∈s.I,∀c∈x.g,O3 c/\O3 (-c):=fun x hx c hc=>⟨hi c (hk x hx c hc),hi _ (by rw[acl];exact hk x hx c hc)⟩
 refine o7.of_vc ik [18,22,23,34,38,39,46,58,65,66,67,77,87,88,89,92,93] [] Tryz.func98 rfl Tryz.ntmps98 rfl (by kernel_rfl) (OpG.nw (LOp.makeMap 0) rfl ?_)
 refine OpG.lk (bo rfl Tryz.underlying198 rfl rfl rfl) (LpG.on (fun k0:Nat=>(⟨fL [(0,.ptr 1000000 0 0),(6,.mp 0 0),(17,.sl 1000006 s.vI 0 s.I.length),(18,.v (.int .i64 ((s.I.length:Nat):Int))),(19,.v (.int .i64 ((k0:Nat):Int)))],hLz [(0,Qe ((s.I.take k0).map fun x=>yh x.g)),(1000000,sB s),(1000001,s1 s),(1000002,s2 s),(1000003,s3 s),(1000004,s4 s),(1000005,s5 s),(1000006,s6 s),(1000007,s7 s)],1⟩:St)) (fun k0=>(s.I.length-k0)) (fun k0=>(k0<=s.I.length)) 0 (cO (.cons rfl rfl (.cons rfl rfl (.cons rfl rfl (.cons rfl rfl (.cons rfl rfl .nil))))) (.cons (by rfl) rfl (ou _ _) (.cons rfl rfl rfl (.cons rfl rfl (aa ag _ _) (.cons rfl rfl (aa ai _ _) (.cons rfl rfl (aa ah _ _) (.cons rfl rfl (aa ao _ _) (.cons rfl rfl (aa ab _ _) (.cons rfl rfl (aa ae _ _) (.cons rfl rfl (aa aj _ _) .nil)))))))))) (ag6 _) ?_)
 rintro k0 h6
 have hle_k0:=h6
 refine cL (fun h2=>?_) (fun hge20=>?_)
 ·refine OpG.lk (bl (k:=k0) ae Tryz.underlying198 lg rfl rfl rfl h2 rfl h2) (OpG.lk (fu (k:=k0) ae lp rfl rfl h2) ?_)
  refine ArgG.mk (aaj s.I[k0].g ⟨by rw[(ho.I _ (agt h2)).2.1];have:=ho.n2;omega,fun _ _=>trivial⟩ (fun x hx=>(hF _ (agt h2) x hx).1) hJ (by rw[(ho.I _ (agt h2)).2.1];exact ho.n2)) rfl ?_
  rintro _ rfl
  refine OpG.wr (R2 Tryz.underlying234 Tryz.underlying9 rfl rfl rfl (by simp;omega) rfl (V4 ho hj h2)) rfl ⟨by omega,⟨(k0+1),by omega,(cO (.cons rfl rfl (.cons rfl rfl (.cons rfl rfl (.cons rfl rfl (.cons rfl rfl .nil))))) (.cons (by(rw[V6 h2];rfl)) rfl (ou _ _) (.cons rfl rfl rfl (.cons rfl rfl (aa ag _ _) (.cons rfl rfl (aa ai _ _) (.cons rfl rfl (aa ah _ _) (.cons rfl rfl (aa ao _ _) (.cons rfl rfl (aa ab _ _) (.cons rfl rfl (aa ae _ _) (.cons rfl rfl (aa aj _ _) .nil)))))))))),?_⟩⟩
  omega
 obtain rfl:k0=s.I.length:=by omega
 refine OpG.lk (bo rfl Tryz.underlying198 rfl rfl rfl) (LpG.on (fun k2:Nat=>(⟨fL [(0,.ptr 1000000 0 0),(6,.mp 0 0),(33,.sl 1000006 s.vI 0 s.I.length),(34,.v (.int .i64 ((s.I.length:Nat):Int))),(35,.v (.int .i64 ((k2:Nat):Int)))],hLz [(0,Qe ((s.I.take s.I.length).map fun x=>yh x.g)),(1000000,sB s),(1000001,s1 s),(1000002,s2 s),(1000003,s3 s),(1000004,s4 s),(1000005,s5 s),(1000006,s6 s),(1000007,s7 s)],1⟩:St)) (fun k2=>(s.I.length-k2)) (fun k2=>(k2<=s.I.length/\ly s (s.I.length-k2) k2=some (s',i,j,fd,ok))) 0 (cO (.cons rfl rfl (.cons rfl rfl (.cons rfl rfl (.cons rfl rfl (.cons rfl rfl .nil))))) (.cons rfl rfl (ou _ _) (.cons rfl rfl rfl (.cons rfl rfl (aa ag _ _) (.cons rfl rfl (aa ai _ _) (.cons rfl rfl (aa ah _ _) (.cons rfl rfl (aa ao _ _) (.cons rfl rfl (aa ab _ _) (.cons rfl rfl (aa ae _ _) (.cons rfl rfl (aa aj _ _) .nil)))))))))) ⟨ag6 _,hp⟩ ?_)
 rintro k2 h6
 obtain⟨hle_k2,h5⟩:=h6
 refine cL (fun h0=>?_) (fun h8=>?_)
 ·have hd:=P3 h0 h5 h0
  refine OpG.lk (bl (k:=k2) ae Tryz.underlying198 lg rfl rfl rfl h0 rfl h0) (OpG.lk (fu (k:=k2) ae lp rfl rfl h0) ?_)
  refine ArgG.mk (If s.I[k2].g ⟨by rw[(ho.I _ (agt h0)).2.1];have:=ho.n2;omega,fun _ _=>trivial⟩ (ho.I _ (agt h0)).1 (by rw[(ho.I _ (agt h0)).2.1];have:=ho.n2;omega)) rfl ?_
  rintro _ rfl
  refine ArgG.mk (aaj (rq s.I[k2].g) ⟨by rw[ag0,(ho.I _ (agt h0)).2.1];have:=ho.n2;omega,fun _ _=>trivial⟩ (fun x hx=>by obtain⟨y,hy,rfl⟩:=ahj.1 hx;exact(hF _ (agt h0) y hy).2) hJ (by rw[ag0,(ho.I _ (agt h0)).2.1];exact ho.n2)) rfl ?_
  rintro _ rfl
  refine OpG.lk (Ol (p:=wj s s.I[k2].g) Tryz.underlying234 Tryz.underlying9 zr3 rfl rfl rfl (Qj ho hj h0)) (cB (fun h3=>?_) (fun h3=>?_))
  ·have h9:ly s (s.I.length-(k2+1)) (k2+1)=some (s',i,j,fd,ok):=Bw hd (.inl (by simpa using h3))
   refine cT ⟨by omega,⟨(k2+1),by omega,(cO (.cons rfl rfl (.cons rfl rfl (.cons rfl rfl (.cons rfl rfl (.cons rfl rfl .nil))))) (.cons rfl rfl (ou _ _) (.cons rfl rfl rfl (.cons rfl rfl (aa ag _ _) (.cons rfl rfl (aa ai _ _) (.cons rfl rfl (aa ah _ _) (.cons rfl rfl (aa ao _ _) (.cons rfl rfl (aa ab _ _) (.cons rfl rfl (aa ae _ _) (.cons rfl rfl (aa aj _ _) .nil)))))))))),?_⟩⟩
   exact⟨by omega,h9⟩
  refine cD (fun he=>?_) (fun he=>?_)
  ·have h9:ly s (s.I.length-(k2+1)) (k2+1)=some (s',i,j,fd,ok):=Bw hd (.inr (by omega))
   refine⟨by omega,⟨(k2+1),by omega,(cO (.cons rfl rfl (.cons rfl rfl (.cons rfl rfl (.cons rfl rfl (.cons rfl rfl .nil))))) (.cons rfl rfl (ou _ _) (.cons rfl rfl rfl (.cons rfl rfl (aa ag _ _) (.cons rfl rfl (aa ai _ _) (.cons rfl rfl (aa ah _ _) (.cons rfl rfl (aa ao _ _) (.cons rfl rfl (aa ab _ _) (.cons rfl rfl (aa ae _ _) (.cons rfl rfl (aa aj _ _) .nil)))))))))),?_⟩⟩
   exact⟨by omega,h9⟩
  obtain⟨o,hf,hnk,h4,hl,hm⟩:=Vh hd (fun e=>by rw[e]at h3;simp at h3) (by omega)
  obtain⟨_,rfl,hg⟩:=Nx s s.I[k2] (ho.I _ (agt h0))
  obtain⟨_,rfl,hh⟩:=Nx s s.I[o] (ho.I _ (agt h4))
  refine OpG.lk (cw (a8 [(1000000,1000000),(1000001,1000001),(1000002,1000002),(1000003,1000003),(1000004,1000004),(1000005,1000005),(1000006,1000006),(1000007,1000007)] tk hg rfl rfl rfl rfl ⟨rfl,sX ag,sX ai,sX ah,sX ao,sX ab,sX ae,sX aj,trivial⟩ ⟨⟨rfl,.inl rfl⟩,av ag,av ai,av ah,av ao,av ab,av ae,av aj,trivial⟩ ⟨rfl,au ag _ _,au ai _ _,au ah _ _,au ao _ _,au ab _ _,au ae _ _,au aj _ _,trivial⟩ rfl rfl rfl rfl rr rfl) ⟨⟨.head _,rfl,rfl⟩,⟨.tail _ (.head _),rfl,rfl⟩,⟨.tail _ (.tail _ (.head _)),rfl,rfl⟩,⟨.tail _ (.tail _ (.tail _ (.head _))),rfl,rfl⟩,⟨.tail _ (.tail _ (.tail _ (.tail _ (.head _)))),rfl,rfl⟩,⟨.tail _ (.tail _ (.tail _ (.tail _ (.tail _ (.head _))))),rfl,rfl⟩,⟨.tail _ (.tail _ (.tail _ (.tail _ (.tail _ (.tail _ (.head _)))))),rfl,rfl⟩,⟨.tail _ (.tail _ (.tail _ (.tail _ (.tail _ (.tail _ (.tail _ (.head _))))))),rfl,rfl⟩,trivial⟩) (OpG.lk (bl (k:=o) ae Tryz.underlying198 lg rfl rfl (by rw[hf];rfl) h4 rfl h4) ?_)
  refine OpG.lk (fu (k:=o) ae lp rfl rfl h4) (OpG.lk (cw (a8 [(1000000,1000000),(1000001,1000001),(1000002,1000002),(1000003,1000003),(1000004,1000004),(1000005,1000005),(1000006,1000006),(1000007,1000007)] tk hh rfl rfl rfl rfl ⟨rfl,sX ag,sX ai,sX ah,sX ao,sX ab,sX ae,sX aj,trivial⟩ ⟨⟨rfl,.inl rfl⟩,av ag,av ai,av ah,av ao,av ab,av ae,av aj,trivial⟩ ⟨rfl,au ag _ _,au ai _ _,au ah _ _,au ao _ _,au ab _ _,au ae _ _,au aj _ _,trivial⟩ rfl rfl rfl rfl rr rfl) ⟨⟨.head _,rfl,rfl⟩,⟨.tail _ (.head _),rfl,rfl⟩,⟨.tail _ (.tail _ (.head _)),rfl,rfl⟩,⟨.tail _ (.tail _ (.tail _ (.head _))),rfl,rfl⟩,⟨.tail _ (.tail _ (.tail _ (.tail _ (.head _)))),rfl,rfl⟩,⟨.tail _ (.tail _ (.tail _ (.tail _ (.tail _ (.head _))))),rfl,rfl⟩,⟨.tail _ (.tail _ (.tail _ (.tail _ (.tail _ (.tail _ (.head _)))))),rfl,rfl⟩,⟨.tail _ (.tail _ (.tail _ (.tail _ (.tail _ (.tail _ (.tail _ (.head _))))))),rfl,rfl⟩,trivial⟩) ?_)
  refine ArgG.mk (ww (x:=bnd s s.I[k2]) (y:=bnd s s.I[o]) (ho.bB (ho.I _ (agt h0))) (ho.bB (ho.I _ (agt h4))) hl) rfl ?_
  rintro _ rfl
  refine ArgG.mk (lh (x:=(bnd s s.I[k2]+bnd s s.I[o])) hl) rfl ?_
  rintro _ rfl
  refine⟨by kernel_rfl,cE (fun ha=>?_) (fun ha=>?_)⟩
  ·obtain⟨hneg,s2,bp,hn,hR⟩:=hm.resolve_right (fun k=>by have:=Sl.1 (show sgZ (bnd s s.I[k2]+bnd s s.I[o])<0 by omega);rcases k with k|k<;>omega)
   cases hR
   obtain⟨_,rfl,hq⟩:=Pz (List.replicate s.n 0) [(⟨s.I[k2].a,1⟩:UsS),⟨s.I[o].a,1⟩] s s' bp ho (by simp) (tl _) (fun u hu=>by(rcases ahk.1 hu with rfl|hu;exact Xj;rw[agy.1 hu];exact Xj)) (by simp) (by simp) (fun h=>absurd h (by simp)) hn
   refine OpG.nw (fx (cq 2 (len:=s.n) Tryz.underlying66 jf Dj E6 rfl rfl rfl (by have:=ho.n2;omega)) (fun η' h=>bn ab (agy.2 rfl) h (by simp))) rfl (ArgG.mk (nq (n:=1) ⟨by decide,by decide⟩) rfl ?_)
   rintro _ rfl
   refine OpG.lk (bl (k:=o) ae Tryz.underlying198 lg rfl rfl (by rw[hf];rfl) h4 rfl h4) (OpG.lk (fv Wo rfl rfl rfl h4) ?_)
   refine OpG.lk (LOp.cellN (k:=o) (o:=0) ae Sq rfl rfl h4 rfl) (ArgG.mk (nq (n:=1) ⟨by decide,by decide⟩) rfl ?_)
   rintro _ rfl
   refine OpG.nw (fx (je Tryz.underlying228 Pe O5 rfl rfl rfl rfl) (fun η' h=>cx (f:=usA) (l:=[(⟨s.I[k2].a,1⟩:UsS),⟨s.I[o].a,1⟩]) (agy.2 rfl) h rfl rfl rfl rfl rfl (fun a _=>⟨rfl,rfl⟩))) rfl (OpG.mk _ _ _ 4 (a8 [(1000000,1000000),(1000001,1000001),(1000002,1000002),(1000003,1000003),(1000004,1000004),(1000005,1000005),(1000006,1000006),(1000007,1000007)] Rg hq rfl rfl rfl rfl ⟨rfl,sX ag,sX ai,sX ah,sX ao,sX ab,sX ae,sX aj,trivial⟩ ⟨⟨rfl,.inl rfl⟩,av ag,av ai,av ah,av ao,av ab,av ae,av aj,trivial⟩ ⟨rfl,au ag _ _,au ai _ _,au ah _ _,au ao _ _,au ab _ _,au ae _ _,au aj _ _,trivial⟩ rfl rfl rfl rfl rr rfl) rfl rfl ?_)
   refine⟨by kernel_rfl,⟨.inr rfl,_,Fg.of [] (aw rfl (.cons (acn.tmp rfl) (.cons (acn.tmp rfl) (.cons (acn.tmp rfl) (.cons (acn.tmp rfl) .nil))))) rfl ⟨.same rfl (by decide),.same rfl (by decide),.same rfl (by decide),.same rfl (by decide),.same rfl (by decide),.same rfl (by decide),.same rfl (by decide),.same rfl (by decide),trivial⟩ .same,?_⟩⟩
   rfl
  have hb:=hm.resolve_left (fun k=>ha (by unfold sgZ;rw[ag1 (by omega),ag2 k.1]))
  refine cE (fun h7=>?_) (fun h7=>?_)
  ·obtain⟨hz,hR⟩:=hb.resolve_right (fun k=>by have:=sgZ_0.1 h7;omega)
   cases hR
   refine⟨.inr rfl,_,Fg.of [] (aw rfl (.cons (acn.tmp rfl) (.cons (acn.tmp rfl) (.cons (acn.tmp rfl) (.cons (acn.tmp rfl) .nil))))) rfl ⟨.same rfl (by decide),.same rfl (by decide),.same rfl (by decide),.same rfl (by decide),.same rfl (by decide),.same rfl (by decide),.same rfl (by decide),.same rfl (by decide),trivial⟩ .same,?_⟩
   (rw[hf];rfl)
  have h9:=(hb.resolve_left (fun k=>h7 (sgZ_0.2 k.1))).2
  refine⟨by omega,⟨(k2+1),by omega,(cO (.cons rfl rfl (.cons rfl rfl (.cons rfl rfl (.cons rfl rfl (.cons rfl rfl .nil))))) (.cons rfl rfl (ou _ _) (.cons rfl rfl rfl (.cons rfl rfl (aa ag _ _) (.cons rfl rfl (aa ai _ _) (.cons rfl rfl (aa ah _ _) (.cons rfl rfl (aa ao _ _) (.cons rfl rfl (aa ab _ _) (.cons rfl rfl (aa ae _ _) (.cons rfl rfl (aa aj _ _) .nil)))))))))),?_⟩⟩
  exact⟨by omega,h9⟩
 have hR:=P4 h8 h5
 cases hR
 refine⟨.inr rfl,_,Fg.of [] (aw rfl (.cons (acn.tmp rfl) (.cons (acn.tmp rfl) (.cons (acn.tmp rfl) (.cons (acn.tmp rfl) .nil))))) rfl ⟨.same rfl (by decide),.same rfl (by decide),.same rfl (by decide),.same rfl (by decide),.same rfl (by decide),.same rfl (by decide),.same rfl (by decide),.same rfl (by decide),trivial⟩ .same,?_⟩
 rfl
def Lp{α β:Type}(f:α->Option β):List α->Option (List β)
 |[]=>some []
 |x::l=>match f x,Lp f l with
  |some y,some r=>some (y::r)
  |_,_=>none
theorem mm{α β:Type}{f:α->Option β}:∀{l:List α} {r:List β} (_:Lp f l=some r),r.length=l.length/\∀i (h:i<l.length) (h':i<r.length),f l[i]=some r[i]
 |[],r,h=>by cases h;exact⟨rfl,fun i h=>absurd h (ag7 i)⟩
 |x::l,r,h=>by
  unfold Lp at h
  split at h
  ·next y r' e1 e2=>
   cases h
   obtain⟨h1,h2⟩:=mm e2
   refine⟨by simp[h1],fun i hi hj=>?_⟩
   cases i with
   |zero=>exact e1
   |succ i=>exact h2 i (by simpa using hi) (by simpa using hj)
  ·cases h
def Ih(j p:Nat)(q:Int)(l:List Int):Option (List Int):=match l[j]?,l[p]? with
 |some a,some b=>if B1 (q*b)/\B1 (a-q*b)then some (l.set j (a-q*b))else none
 |_,_=>none
theorem yg{j p:Nat}{q:Int}{l r:List Int}(h:Ih j p q l=some r):∃(hj:j<l.length) (hp:p<l.length),B1 (q*l[p])/\B1 (l[j]-q*l[p])/\r=l.set j (l[j]-q*l[p]):=by
 unfold Ih at h
 split at h
 ·next a b e1 e2=>
  obtain⟨hj,rfl⟩:=ahn.1 e1
  obtain⟨hp,rfl⟩:=ahn.1 e2
  split at h
  ·next hb=>cases h;exact⟨hj,hp,hb.1,hb.2,rfl⟩
  ·cases h
 ·cases h
theorem q9{l:List Int}{j:Nat}{v:Int}(h:BL l)(hv:B1 v):BL (l.set j v):=fun x hx=>by
 rcases List.mem_or_eq_of_mem_set hx with hx|rfl
 ·exact h x hx
 ·exact hv
def V9(f:List Int->Option (List Int))(x:ItS):Option ItS:=(f x.g).map fun g=>⟨x.a,g⟩
theorem B6{f:List Int->Option (List Int)}{x y:ItS}(h:V9 f x=some y):f x.g=some y.g/\y.a=x.a:=by
 unfold V9 at h
 cases e:f x.g with
 |none=>rw[e]at h;cases h
 |some g=>rw[e]at h;cases h;exact⟨rfl,rfl⟩
def Q9(f:List Int->Option (List Int))(s:OSt):Option OSt:=if SzS s then match Lp f s.U,Lp (V9 f) s.I with
 |some U,some I=>some {s with U:=U,I:=I}
 |_,_=>none
 else none
theorem wn{f:List Int->Option (List Int)}{s s':OSt}(h:Q9 f s=some s'):SzS s/\∃U I,Lp f s.U=some U/\Lp (V9 f) s.I=some I/\s'={s with U:=U,I:=I}:=by
 unfold Q9 at h
 split at h
 ·next hz=>
  split at h
  ·next U I e1 e2=>cases h;exact⟨hz,U,I,e1,e2,rfl⟩
  ·cases h
 ·cases h
abbrev Sk(s:OSt)(j p:Nat)(q:Int):Option OSt:=Q9 (Ih j p q) s
def tu(p:Nat)(l:List Int):Option (List Int):=match l[p]? with
 |some b=>some (l.set p (-b))
 |none=>none
theorem xu{p:Nat}{l r:List Int}(h:tu p l=some r):∃hp:p<l.length,r=l.set p (-l[p]):=by
 unfold tu at h
 split at h
 ·next b e=>obtain⟨hp,rfl⟩:=ahn.1 e;cases h;exact⟨hp,rfl⟩
 ·cases h
abbrev Ik(s:OSt)(p:Nat):Option OSt:=Q9 (tu p) s
def R3(f:List Int->Option (List Int)):Prop:=∀l r,BL l->f l=some r->BL r/\r.length=l.length
theorem B5{j p:Nat}{q:Int}:R3 (Ih j p q):=fun l r hl h=>by
 obtain⟨hj,hp,_,h2,rfl⟩:=yg h
 exact⟨q9 hl h2,by simp⟩
theorem L3{p:Nat}:R3 (tu p):=fun l r hl h=>by
 obtain⟨hp,rfl⟩:=xu h
 have:=hl _ (agt hp)
 exact⟨q9 hl ⟨by omega,by omega⟩,by simp⟩
theorem W6{f:List Int->Option (List Int)}{s s':OSt}(hf:R3 f)(h:Q9 f s=some s')(ho:OOk s):OOk s'/\s'.n=s.n/\s'.K=s.K/\s'.I.length=s.I.length:=by
 obtain⟨_,U,I,e1,e2,rfl⟩:=wn h
 obtain⟨l1,a1⟩:=mm e1
 obtain⟨l2,a2⟩:=mm e2
 refine⟨⟨ho.n1,ho.n2,ho.K,fun y hy=>?_,l1.trans ho.Ul,fun r hr=>?_,ho.T,ho.Vl,ho.V⟩,rfl,rfl,l2⟩
 ·obtain⟨i,hi,rfl⟩:=ahe hy
  have hi:i<I.length:=hi
  have h0:i<s.I.length:=by omega
  obtain⟨g1,g2⟩:=B6 (a2 i h0 hi)
  obtain⟨b1,b2,j,b3,b4⟩:=ho.I _ (agt h0)
  obtain⟨c1,c2⟩:=hf _ _ b1 g1
  exact⟨c1,c2.trans b2,j,g2.trans b3,b4⟩
 ·obtain⟨i,hi,rfl⟩:=ahe hr
  have hi:i<U.length:=hi
  have h0:i<s.U.length:=by omega
  obtain⟨b1,b2⟩:=ho.U _ (agt h0)
  obtain⟨c1,c2⟩:=hf _ _ b1 (a1 i h0 hi)
  exact⟨c1,c2.trans b2⟩
def pc(g:List Int):List Int->Nat->Int->Int
 |[],_,p=>p
 |x::r,j,p=>pc g r (j+1) (if x≠0/\(p<0\/aZ x<aZ (g.getD p.toNat 0))then(j:Int)else p)
abbrev mj(g:List Int):Int:=pc g g 0 (-1)
def B7(g:List Int)(p i:Nat):Nat->Nat->OSt->Bool->Option (OSt×Bool)
 |0,_,s,b=>some (s,b)
 |f+1,j,s,b=>match s.I[i]? with
  |none=>none
  |some x=>match x.g[j]? with
   |none=>none
   |some c=>if j≠p/\c≠0 then(if B1 (flD (g.getD j 0) (g.getD p 0))then match Sk s j p (flD (g.getD j 0) (g.getD p 0))with
    |none=>none
    |some s'=>B7 g p i f (j+1) s' false
    else none)
    else B7 g p i f (j+1) s b
def Gv(i:Nat):Nat->OSt->Option (OSt×Nat)
 |0,_=>none
 |f+1,s=>match s.I[i]? with
  |none=>none
  |some x=>if mj x.g<0\/x.g.getD (mj x.g).toNat 0=0 then none else match B7 x.g (mj x.g).toNat i x.g.length 0 s true with
   |none=>none
   |some (s',true)=>if x.g.getD (mj x.g).toNat 0<0 then(Ik s' (mj x.g).toNat).map (·,(mj x.g).toNat)else some (s',(mj x.g).toNat)
   |some (s',false)=>Gv i f s'
end Go.Proofs.YtmbmbhkemgmhfaaGreatDoor
