/- Texts of the claim. -/
import Derived.Lib.Join
import Derived.Test.YtbhhmbchdponjaaGreatDoorT1
import Derived.Test.YtbhhmbchdponjaaGreatDoorQ2
namespace Go.Proofs
open Go.Shelf
def Tryz.cloB_ren:Go.Shelf.Ren:=⟨fun|41=>149|n=>n,fun|22=>45|23=>48|4=>4|n=>n,fun|n=>n⟩
theorem Tryz.cloB:Go.Proofs.SlLaysE0.n41 Tryz.prog Tryz.cloB_ren:={
 mixed:=by kernel_rfl
 f41:=⟨Tryz.f149.name,by decide,Tryz.func149.trans (congrArg some (by kernel_rfl))⟩
 t4:=Tryz.underlying4
 a4:=Tryz.isAgg4
 z4:=Tryz.sizeOf4
 v4:=Tryz.zeroValue4
 t22:=Tryz.underlying45
 a22:=Tryz.isAgg45
 z22:=Tryz.sizeOf45
 v22:=Tryz.zeroValue45}
end Go.Proofs
namespace Go.Proofs.YtbhhmbchdponjaaGreatDoor
set_option maxRecDepth 1000000
set_option maxHeartbeats 0
open Go.Shelf in
theorem ace:CloneL Tryz.prog 149 2:=⟨⟨Tryz.cloB_ren,Tryz.t48,_,_,rfl,Tryz.cloB,by kernel_rfl,rfl,rfl,rfl,rfl,Tryz.sizeOf48,by decide⟩,by decide⟩
set_option linter.unusedVariables false
set_option linter.unusedSimpArgs false
open Go.RowKit
theorem qu:B1 1:=⟨by decide,by decide⟩
theorem svI(s:OSt)(k:Nat)(x:ItS):some (sB s)=some (sB {s with I:=s.I.set k x}):=by simp only[sB,List.length_set]
theorem Ms(s:OSt)(x:ItS)(hx:I7 s x):qa Tryz.prog 178 [.ptr 1000000 0 0,.agg (itA x)] [(1000000,sB s),(1000001,s1 s),(1000002,s2 s),(1000003,s3 s),(1000004,s4 s),(1000005,s5 s),(1000006,s6 s),(1000007,s7 s)] [(1000000,some (sB s)),(1000001,some (s1 s)),(1000002,some (s2 s)),(1000003,some (s3 s)),(1000004,some (s4 s)),(1000005,some (s5 s)),(1000006,some (s6 s)),(1000007,some (s7 s))] (fun q=>q=.agg (bI (bnd s x))):=by
 obtain⟨_,_,j,h1,h2⟩:=hx
 rw[T5 h1 h2];exact An s x j _ h1 (agt h2)
theorem Hk:bw Tryz.prog 149=true:=by kernel_rfl
theorem Hj:bw Tryz.prog 150=true:=by kernel_rfl
theorem aa3:bw Tryz.prog 174=true:=by kernel_rfl
theorem T2:bw Tryz.prog 175=true:=by kernel_rfl
theorem aga:(Tryz.prog.info? 242).map (·.bytes)=some 32:=by kernel_rfl
theorem wl:dx Tryz.prog 118 0=some (0,1):=by kernel_rfl
theorem vu:ej Tryz.prog 45=some none:=by kernel_rfl
theorem Ou:ao Tryz.prog 165=some 3:=by kernel_rfl
theorem pk:ao Tryz.prog 242=some 2:=by kernel_rfl
theorem N6:bj Tryz.prog 165=some (.agg #[.int .i64 0,.bool false,.slice none 0 0]):=by kernel_rfl
theorem acn:bj Tryz.prog 242=some (.agg #[.int .i64 0,.slice none 0 0]):=by kernel_rfl
theorem abl(s s':OSt)(x:ItS)(ho:OOk s)(hx:I7 s x)(h:xg s x=some s'):qa Tryz.prog 175 [.ptr 1000000 0 0,.agg (itA x)] [(1000000,sB s),(1000001,s1 s),(1000002,s2 s),(1000003,s3 s),(1000004,s4 s),(1000005,s5 s),(1000006,s6 s),(1000007,s7 s)] [(1000000,some (sB s')),(1000001,some (s1 s')),(1000002,some (s2 s')),(1000003,some (s3 s')),(1000004,some (s4 s')),(1000005,some (s5 s')),(1000006,some (s6 s')),(1000007,some (s7 s'))] (fun q=>q=.tup []):=by
 obtain⟨y1,y2,y3,y4,y5,y6,y7,y8⟩:=Ar h
 have hi:ip x.g (fun _=>True):=⟨by rw[hx.2.1];have:=ho.n2;omega,fun _ _=>trivial⟩
 have hj:∀y∈s.I,ip y.g (fun _=>True):=fun y hy=>⟨by rw[(ho.I y hy).2.1];have:=ho.n2;omega,fun _ _=>trivial⟩
 refine qa.of_vc jc [10,14,15,23,26,35,44,100035] [] Tryz.func175 rfl Tryz.ntmps175 rfl (by kernel_rfl) (OpG.lk (cd rfl Tryz.underlying215 rfl rfl rfl) ?_)
 refine LpG.on (fun k0:Nat=>(⟨fL [(0,.ptr 1000000 0 0),(3,.ptr 0 0 0),(9,.sl 1000006 s.vI 0 s.I.length),(10,.v (.int .i64 ((s.I.length:Nat):Int))),(11,.v (.int .i64 ((k0:Nat):Int)))],hLz [(0,⟨0,itA x,0,false⟩),(1000000,sB s),(1000001,s1 s),(1000002,s2 s),(1000003,s3 s),(1000004,s4 s),(1000005,s5 s),(1000006,s6 s),(1000007,s7 s)],1⟩:St)) (fun k0=>(s.I.length-k0)) (fun k0=>(k0<=s.I.length/\∀j (hl:j<s.I.length),j<k0->¬x.g=s.I[j].g)) 0 (cO (.cons rfl rfl (.cons rfl rfl (.cons rfl rfl (.cons rfl rfl (.cons rfl rfl .nil))))) (.cons rfl rfl rfl (.cons rfl rfl rfl (.cons rfl rfl (aa ab _ _) (.cons rfl rfl (aa ai _ _) (.cons rfl rfl (aa ah _ _) (.cons rfl rfl (aa ap _ _) (.cons rfl rfl (aa ae _ _) (.cons rfl rfl (aa ag _ _) (.cons rfl rfl (aa aj _ _) .nil)))))))))) ⟨ag5 _,fun j _ h=>absurd h (ag6 j)⟩ ?_
 rintro k0 hf
 obtain⟨hle_k0,hc⟩:=hf
 refine cL (fun ha=>?_) (fun hge12=>?_)
 ·refine OpG.lk (br (k:=k0) ag Tryz.underlying215 pk rfl rfl rfl ha rfl ha) (OpG.lk (jz (k:=k0) ag m9 rfl rfl ha) ?_)
  refine ArgG.mk (Gz x.g hi s.I[k0].g (hj _ (ags ha)) hx.1 (ho.I _ (ags ha)).1 (by rw[hx.2.1];have:=ho.n2;omega)) rfl ?_
  rintro _ rfl
  refine cB (fun hd=>?_) (fun hd=>?_)
  ·have hs:=Xg h ha (ag3 hd) hc
   obtain⟨_,rfl,hg⟩:=Ms s x hx
   obtain⟨_,rfl,hh⟩:=Ms s s.I[k0] (ho.I _ (ags ha))
   refine OpG.lk (co (a8 [(1000000,1000000),(1000001,1000001),(1000002,1000002),(1000003,1000003),(1000004,1000004),(1000005,1000005),(1000006,1000006),(1000007,1000007)] t6 hg rfl rfl rfl rfl ⟨rfl,sX ab,sX ai,sX ah,sX ap,sX ae,sX ag,sX aj,trivial⟩ ⟨⟨rfl,.inl rfl⟩,au ab,au ai,au ah,au ap,au ae,au ag,au aj,trivial⟩ ⟨rfl,aq ab _ _,aq ai _ _,aq ah _ _,aq ap _ _,aq ae _ _,aq ag _ _,aq aj _ _,trivial⟩ rfl rfl rfl rfl uz rfl) ⟨⟨.head _,rfl,rfl⟩,⟨.tail _ (.head _),rfl,rfl⟩,⟨.tail _ (.tail _ (.head _)),rfl,rfl⟩,⟨.tail _ (.tail _ (.tail _ (.head _))),rfl,rfl⟩,⟨.tail _ (.tail _ (.tail _ (.tail _ (.head _)))),rfl,rfl⟩,⟨.tail _ (.tail _ (.tail _ (.tail _ (.tail _ (.head _))))),rfl,rfl⟩,⟨.tail _ (.tail _ (.tail _ (.tail _ (.tail _ (.tail _ (.head _)))))),rfl,rfl⟩,⟨.tail _ (.tail _ (.tail _ (.tail _ (.tail _ (.tail _ (.tail _ (.head _))))))),rfl,rfl⟩,trivial⟩) (OpG.lk (co (a8 [(1000000,1000000),(1000001,1000001),(1000002,1000002),(1000003,1000003),(1000004,1000004),(1000005,1000005),(1000006,1000006),(1000007,1000007)] t6 hh rfl rfl rfl rfl ⟨rfl,sX ab,sX ai,sX ah,sX ap,sX ae,sX ag,sX aj,trivial⟩ ⟨⟨rfl,.inl rfl⟩,au ab,au ai,au ah,au ap,au ae,au ag,au aj,trivial⟩ ⟨rfl,aq ab _ _,aq ai _ _,aq ah _ _,aq ap _ _,aq ae _ _,aq ag _ _,aq aj _ _,trivial⟩ rfl rfl rfl rfl uz rfl) ⟨⟨.head _,rfl,rfl⟩,⟨.tail _ (.head _),rfl,rfl⟩,⟨.tail _ (.tail _ (.head _)),rfl,rfl⟩,⟨.tail _ (.tail _ (.tail _ (.head _))),rfl,rfl⟩,⟨.tail _ (.tail _ (.tail _ (.tail _ (.head _)))),rfl,rfl⟩,⟨.tail _ (.tail _ (.tail _ (.tail _ (.tail _ (.head _))))),rfl,rfl⟩,⟨.tail _ (.tail _ (.tail _ (.tail _ (.tail _ (.tail _ (.head _)))))),rfl,rfl⟩,⟨.tail _ (.tail _ (.tail _ (.tail _ (.tail _ (.tail _ (.tail _ (.head _))))))),rfl,rfl⟩,trivial⟩) ?_)
   refine ArgG.mk (nk (x:=bnd s x) (y:=bnd s s.I[k0]) (ho.bB hx) (ho.bB (ho.I _ (ags ha)))) rfl ?_
   rintro _ rfl
   refine⟨by kernel_rfl,cD (fun he=>?_) (fun he=>?_)⟩
   ·rw[ag1 (by have:=R9.1 he;omega)]at hs
    subst hs
    refine OpG.lk (br (k:=k0) ag Tryz.underlying215 pk rfl rfl rfl ha rfl ha) (OpG.wr (jw (k:=k0) (o:=0) (v:=x) ag pk rfl rfl rfl rfl rfl rfl ha (by decide) rfl) rfl ?_)
    refine⟨by kernel_rfl,⟨.inr rfl,_,Nf.of [] (az rfl .nil) rfl ⟨.same (svI s k0 x) (by decide),.same rfl (by decide),.same rfl (by decide),.same rfl (by decide),.same rfl (by decide),.same rfl (by decide),.same rfl (by decide),.same rfl (by decide),trivial⟩ .same,?_⟩⟩
    rfl
   rw[ag0 (by intro h;exact he (R9.2 (by omega)))]at hs
   subst hs
   refine⟨.inr rfl,_,Nf.of [] (az rfl .nil) rfl ⟨.same rfl (by decide),.same rfl (by decide),.same rfl (by decide),.same rfl (by decide),.same rfl (by decide),.same rfl (by decide),.same rfl (by decide),.same rfl (by decide),trivial⟩ .same,?_⟩
   rfl
  refine⟨by omega,⟨(k0+1),by omega,(cO (.cons rfl rfl (.cons rfl rfl (.cons rfl rfl (.cons rfl rfl (.cons rfl rfl .nil))))) (.cons rfl rfl rfl (.cons rfl rfl rfl (.cons rfl rfl (aa ab _ _) (.cons rfl rfl (aa ai _ _) (.cons rfl rfl (aa ah _ _) (.cons rfl rfl (aa ap _ _) (.cons rfl rfl (aa ae _ _) (.cons rfl rfl (aa ag _ _) (.cons rfl rfl (aa aj _ _) .nil)))))))))),?_⟩⟩
  refine⟨by omega,fun j hl h=>?_⟩
  rcases ag8.1 h with h|rfl
  ·exact hc j hl h
  exact ag2 hd
 obtain⟨⟨z1,z2,z3,z4,z5,z6,z7,z8⟩,rfl⟩:=Ra h (fun j hl=>hc j hl (by omega))
 refine OpG.mk _ _ _ 2 (b9 ag (l:=s.I) (a:=x) Tryz.underlying215 pk acn aga rfl rfl rfl (dv rfl rfl rfl rfl) rfl (by omega) (by omega) (by unfold TV;omega)) rfl rfl ⟨by kernel_rfl,⟨.inl rfl,_,Nf.of [] (az rfl .nil) rfl ⟨.same rfl (by decide),.same rfl (by decide),.same rfl (by decide),.same rfl (by decide),.same rfl (by decide),.same rfl (by decide),.same rfl (by decide),.same rfl (by decide),trivial⟩ .same,?_⟩⟩
 rfl
theorem afs(g:List Int)(us:List UsS)(s s':OSt)(x:ItS)(sm ok:Bool)(ho:OOk s)(ha:g.length=s.n)(hb:BL g)(hu:∀u∈us,B1 u.n)(hd:us.length<100000)(h0:0<us.length)(h1:us.length=1->us[0].n=1)(h:Cm s g us=some (s',x,sm,ok)):qa Tryz.prog 174 [.ptr 1000000 0 0,.tree 2 (g.map bI),.tree 3 (us.map usA)] [(1000000,sB s),(1000001,s1 s),(1000002,s2 s),(1000003,s3 s),(1000004,s4 s),(1000005,s5 s),(1000006,s6 s),(1000007,s7 s)] [(1000000,some (sB s')),(1000001,some (s1 s')),(1000002,some (s2 s')),(1000003,some (s3 s')),(1000004,some (s4 s')),(1000005,some (s5 s')),(1000006,some (s6 s')),(1000007,some (s7 s'))] (fun q=>q=.tup [.agg (itA x),.v (.bool sm),.v (.bool ok)]):=by
 have he:ip g (fun _=>True):=⟨by rw[ha];have:=ho.n2;omega,fun _ _=>trivial⟩
 have hf:ip us (fun _=>True):=⟨by omega,fun _ _=>trivial⟩
 by_cases hc:1<us.length\/dOf g≠1
 ·exact aaq g he us hf s x sm ok s' ho.n2 ha hb hu (fun q hq=>(ho.K q hq).1) hd h0 h1 h hc
 exact aas g he us hf s x sm ok s' ho.n2 ha hb hu (fun q hq=>(ho.K q hq).1) hd h0 h1 h hc
theorem adq(g:List Int)(hg:ip g (fun y=>True))(us:List UsS)(hus:ip us (fun y=>True))(s s':OSt)(ok:Bool)(ho:OOk s)(hf:g.length=s.n)(hh:BL g)(hu:∀u∈us,B1 u.n)(hi:us.length<100000)(h0:0<us.length)(h1:us.length=1->us[0].n=1)(h:xf s g us=some (s',ok)):qa Tryz.prog 150 [.ptr 1000000 0 0,.tree 2 (g.map bI),.tree 3 (us.map usA)] [(1000000,sB s),(1000001,s1 s),(1000002,s2 s),(1000003,s3 s),(1000004,s4 s),(1000005,s5 s),(1000006,s6 s),(1000007,s7 s)] [(1000000,some (sB s')),(1000001,some (s1 s')),(1000002,some (s2 s')),(1000003,some (s3 s')),(1000004,some (s4 s')),(1000005,some (s5 s')),(1000006,some (s6 s')),(1000007,some (s7 s'))] (fun q=>q=.v (.bool ok)):=by
 obtain⟨s1,x,sm,hd,hc⟩:=Br h
 obtain⟨hj,_,hk⟩:=Eh hd ho h0 hh hf
 refine qa.of_vc jc [14,21] [1,3] Tryz.func150 rfl Tryz.ntmps150 rfl (by kernel_rfl) ?_
 obtain⟨_,rfl,hl⟩:=afs g us s s1 x sm ok ho hf hh hu hi h0 h1 hd
 refine aw (OpG.mk _ _ _ 0 (a8 [(1000000,1000000),(1000001,1000001),(1000002,1000002),(1000003,1000003),(1000004,1000004),(1000005,1000005),(1000006,1000006),(1000007,1000007)] aa3 hl rfl rfl rfl rfl ⟨rfl,sX ab,sX ai,sX ah,sX ap,sX ae,sX ag,sX aj,trivial⟩ ⟨⟨rfl,.inl rfl⟩,au ab,au ai,au ah,au ap,au ae,au ag,au aj,trivial⟩ ⟨rfl,aq ab _ _,aq ai _ _,aq ah _ _,aq ap _ _,aq ae _ _,aq ag _ _,aq aj _ _,trivial⟩ rfl rfl rfl rfl uz rfl) rfl rfl ?_)
 refine cB (fun hb=>?_) (fun hb=>?_)
 ·have ha:=(hc.resolve_right (fun k=>by rw[k.1]at hb;cases hb)).2
  obtain⟨_,rfl,hm⟩:=abl s1 s' x hj hk ha
  refine aw (OpG.mk _ _ _ 1 (a8 [(1000000,1000000),(1000001,1000001),(1000002,1000002),(1000003,1000003),(1000004,1000004),(1000005,1000005),(1000006,1000006),(1000007,1000007)] T2 hm rfl rfl rfl rfl ⟨rfl,sX ab,sX ai,sX ah,sX ap,sX ae,sX ag,sX aj,trivial⟩ ⟨⟨rfl,.inl rfl⟩,au ab,au ai,au ah,au ap,au ae,au ag,au aj,trivial⟩ ⟨rfl,aq ab _ _,aq ai _ _,aq ah _ _,aq ap _ _,aq ae _ _,aq ag _ _,aq aj _ _,trivial⟩ rfl rfl rfl rfl uz rfl) rfl rfl ?_)
  refine⟨.inr rfl,_,Nf.of [] (az rfl (.cons (abn.tmp rfl) .nil)) rfl ⟨.same rfl (by decide),.same rfl (by decide),.same rfl (by decide),.same rfl (by decide),.same rfl (by decide),.same rfl (by decide),.same rfl (by decide),.same rfl (by decide),trivial⟩ .same,?_⟩
  rfl
 have he:=(hc.resolve_left (fun k=>by rw[k.1]at hb;cases hb)).2
 subst he
 refine⟨.inr rfl,_,Nf.of [] (az rfl (.cons (abn.tmp rfl) .nil)) rfl ⟨.same rfl (by decide),.same rfl (by decide),.same rfl (by decide),.same rfl (by decide),.same rfl (by decide),.same rfl (by decide),.same rfl (by decide),.same rfl (by decide),trivial⟩ .same,?_⟩
 rfl
theorem Pd(g:List Int)(us:List UsS)(s s':OSt)(ok:Bool)(ho:OOk s)(ha:g.length=s.n)(hb:BL g)(hu:∀u∈us,B1 u.n)(hc:us.length<100000)(h0:0<us.length)(h1:us.length=1->us[0].n=1)(h:xf s g us=some (s',ok)):qa Tryz.prog 150 [.ptr 1000000 0 0,.tree 2 (g.map bI),.tree 3 (us.map usA)] [(1000000,sB s),(1000001,s1 s),(1000002,s2 s),(1000003,s3 s),(1000004,s4 s),(1000005,s5 s),(1000006,s6 s),(1000007,s7 s)] [(1000000,some (sB s')),(1000001,some (s1 s')),(1000002,some (s2 s')),(1000003,some (s3 s')),(1000004,some (s4 s')),(1000005,some (s5 s')),(1000006,some (s6 s')),(1000007,some (s7 s'))] (fun q=>q=.v (.bool ok)):=
 adq g ⟨by rw[ha];have:=ho.n2;omega,fun _ _=>trivial⟩ us ⟨by omega,fun _ _=>trivial⟩ s s' ok ho ha hb hu hc h0 h1 h
theorem Xb(s s':OSt)(ok:Bool)(ho:OOk s)(hz:s.K.length<=1000000)(h:acg s=some (s',ok)):qa Tryz.prog 114 [.ptr 1000000 0 0] [(1000000,sB s),(1000001,s1 s),(1000002,s2 s),(1000003,s3 s),(1000004,s4 s),(1000005,s5 s),(1000006,s6 s),(1000007,s7 s)] [(1000000,some (sB s')),(1000001,some (s1 s')),(1000002,some (s2 s')),(1000003,some (s3 s')),(1000004,some (s4 s')),(1000005,some (s5 s')),(1000006,some (s6 s')),(1000007,some (s7 s'))] (fun q=>q=.v (.bool ok)):=by
 refine qa.of_vc jc [9,18,19,20,21,27,28] [] Tryz.func114 rfl Tryz.ntmps114 rfl (by kernel_rfl) (OpG.lk (cd rfl Tryz.underlying85 rfl rfl rfl) ?_)
 refine LpG.on (fun k0:KO=>(⟨fL [(0,.ptr 1000000 0 0),(9,.v (.int .i64 ((s.K.length:Nat):Int))),(10,.v (.int .i64 ((k0.k:Nat):Int)))],hLz [(1000000,sB k0.s),(1000001,s1 k0.s),(1000002,s2 k0.s),(1000003,s3 k0.s),(1000004,s4 k0.s),(1000005,s5 k0.s),(1000006,s6 k0.s),(1000007,s7 k0.s)],0⟩:St)) (fun k0=>(s.K.length-k0.k)) (fun k0=>(k0.k<=s.K.length/\(Mv (s.K.length-k0.k) k0.k k0.s=some (s',ok)/\OOk k0.s))) (⟨0,s⟩:KO) (cO (.cons rfl rfl (.cons rfl rfl (.cons rfl rfl .nil))) (.cons rfl rfl rfl (.cons rfl rfl (aa ab _ _) (.cons rfl rfl (aa ai _ _) (.cons rfl rfl (aa ah _ _) (.cons rfl rfl (aa ap _ _) (.cons rfl rfl (aa ae _ _) (.cons rfl rfl (aa ag _ _) (.cons rfl rfl (aa aj _ _) .nil))))))))) ⟨ag5 _,⟨h,ho⟩⟩ ?_
 rintro k0 hj
 obtain⟨hle_k0,ha⟩:=hj
 refine cL (fun hg=>?_) (fun hh=>?_)
 ·obtain⟨hf,sx,ok1,hp,hd⟩:=Xc hg ha.1
  have hi:=ha.2.K _ (ags hf)
  obtain⟨hk,_⟩:=Dr hp ha.2 (Nat.zero_lt_one) hi.1.c hi.2
  obtain⟨_,rfl,hl⟩:=Pd k0.s.K[k0.k].cs [(⟨((k0.k:Nat):Int),1⟩:UsS)] k0.s sx ok1 ha.2 hi.2 hi.1.c (fun u hu=>by rw[agx.1 hu];exact qu) (by simp) Nat.zero_lt_one (fun _=>rfl) hp
  refine OpG.lk (br (k:=k0.k) ab Tryz.underlying85 jt rfl rfl rfl hf rfl hf) (OpG.lk (ic wl rfl rfl rfl hf) ?_)
  refine OpG.lk (LOp.cellN (k:=k0.k) (o:=0) ab vu rfl rfl hf rfl) (OpG.lk (LOp.call Hk rfl (CloneL.tree ace (fun _=>rfl) k0.s.K[k0.k].cs (by rw[(ha.2.K _ (ags hf)).2];have:=ha.2.n2;omega))) ?_)
  refine ArgG.mk (pm (n:=1) ⟨by decide,by decide⟩) rfl ?_
  rintro _ rfl
  refine OpG.nw (bq (cj Tryz.underlying121 Ou N6 rfl rfl rfl rfl) (fun η' h=>bc (f:=usA) (l:=[(⟨((k0.k:Nat):Int),1⟩:UsS)]) (agx.2 rfl) h rfl rfl rfl rfl rfl (fun a _=>⟨rfl,rfl⟩))) rfl (OpG.mk _ _ _ 1 (a8 [(1000000,1000000),(1000001,1000001),(1000002,1000002),(1000003,1000003),(1000004,1000004),(1000005,1000005),(1000006,1000006),(1000007,1000007)] Hj hl rfl rfl rfl rfl ⟨rfl,sX ab,sX ai,sX ah,sX ap,sX ae,sX ag,sX aj,trivial⟩ ⟨⟨rfl,.inl rfl⟩,au ab,au ai,au ah,au ap,au ae,au ag,au aj,trivial⟩ ⟨rfl,aq ab _ _,aq ai _ _,aq ah _ _,aq ap _ _,aq ae _ _,aq ag _ _,aq aj _ _,trivial⟩ rfl rfl rfl rfl uz rfl) rfl rfl ?_)
  refine cB (fun hc=>?_) (fun hc=>?_)
  ·obtain⟨_,rfl,rfl⟩:=hd.resolve_left (fun k=>by rw[k.1]at hc;cases hc)
   refine⟨.inr rfl,_,Nf.of [] (az rfl (.cons (abn.tmp rfl) .nil)) rfl ⟨.same rfl (by decide),.same rfl (by decide),.same rfl (by decide),.same rfl (by decide),.same rfl (by decide),.same rfl (by decide),.same rfl (by decide),.same rfl (by decide),trivial⟩ .same,?_⟩
   rfl
  have hb:=(hd.resolve_right (fun k=>by rw[k.1]at hc;cases hc)).2
  refine⟨by omega,⟨(⟨k0.k+1,sx⟩:KO),(by show s.K.length-(k0.k+1)<s.K.length-k0.k;omega),(cO (.cons rfl rfl (.cons rfl rfl (.cons rfl rfl .nil))) (.cons rfl rfl rfl (.cons rfl rfl (aa ab _ _) (.cons rfl rfl (aa ai _ _) (.cons rfl rfl (aa ah _ _) (.cons rfl rfl (aa ap _ _) (.cons rfl rfl (aa ae _ _) (.cons rfl rfl (aa ag _ _) (.cons rfl rfl (aa aj _ _) .nil))))))))),?_⟩⟩
  exact⟨by show k0.k+1<=_;omega,⟨hb,hk⟩⟩
 obtain⟨he,rfl⟩:=Xd hh ha.1
 subst he
 refine⟨.inr rfl,_,Nf.of [] (az rfl (.cons (abn.tmp rfl) .nil)) rfl ⟨.same rfl (by decide),.same rfl (by decide),.same rfl (by decide),.same rfl (by decide),.same rfl (by decide),.same rfl (by decide),.same rfl (by decide),.same rfl (by decide),trivial⟩ .same,?_⟩
 rfl
def Ek:Nat->Nat->List UInt8
 |0,_=>[]
 |f+1,n=>if n<10 then[UInt8.ofNat (48+n)]else Ek f (n/10)++[UInt8.ofNat (48+n%10)]
def Lq(x:Int):List UInt8:=if x<0 then 45::Ek 20 x.natAbs else Ek 20 x.natAbs
abbrev I5(x:Int):ByteArray:=⟨(Lq x).toArray⟩
def abr(l:List UInt8):Nat:=l.foldl (fun a c=>a*10+(c.toNat-48)) 0
theorem Hb{n:Nat}(h:n<10):(UInt8.ofNat (48+n)).toNat=48+n:=by
 rw[UInt8.toNat_ofNat',Nat.mod_eq_of_lt (by omega)]
theorem vb:∀{f n:Nat},n<10^f->abr (Ek f n)=n
 |0,n,h=>by simp at h;subst h;rfl
 |f+1,n,h=>by
  unfold Ek;split
  ·next g=>show 0*10+((UInt8.ofNat (48+n)).toNat-48)=n;rw[Hb g];omega
  ·next g=>
   have ih:=vb (f:=f) (n:=n/10) (by rw[Nat.pow_succ]at h;omega)
   have e:=Hb (n:=n%10) (by omega)
   unfold abr at ih ⊢
   rw[List.foldl_append,ih]
   simp only[List.foldl_cons,List.foldl_nil,e]
   omega
theorem Ma:∀{f n:Nat},∀c∈Ek f n,48<=c.toNat/\c.toNat<=57
 |0,n,c,h=>by simp[Ek]at h
 |f+1,n,c,h=>by
  unfold Ek at h;split at h
  ·next g=>rw[agx.1 h,Hb g];omega
  ·rcases agy.1 h with h|h
   ·exact Ma c h
   ·rw[agx.1 h,Hb (by omega)];omega
theorem Ej:∀{f n:Nat},(Ek f n).length<=f
 |0,n=>ag7 _
 |f+1,n=>by
  unfold Ek;split
  ·simp
  ·simp;exact Ej
theorem Tf{x:Int}:∀c∈Lq x,c≠32:=fun c h e=>by
 subst e;unfold Lq at h;split at h
 ·rcases ahi.1 h with h|h
  ·exact absurd h (by decide)
  ·have:=(Ma _ h).1;exact absurd this (by decide)
 ·have:=(Ma _ h).1;exact absurd this (by decide)
theorem Lp{x:Int}:(Lq x).length<=21:=by
 have:=@Ej 20 x.natAbs
 unfold Lq;split
 ·simp;omega
 ·omega
theorem V7{x y:Int}(hx:B1 x)(hy:B1 y)(h:Lq x=Lq y):x=y:=by
 have px:x.natAbs<10^20:=Nat.lt_of_le_of_lt (show x.natAbs<=4294967295 by omega) (by decide)
 have py:y.natAbs<10^20:=Nat.lt_of_le_of_lt (show y.natAbs<=4294967295 by omega) (by decide)
 unfold Lq at h
 split at h<;>split at h
 ·have:=congrArg abr (List.cons.inj h).2
  rw[vb px,vb py]at this;omega
 ·have:=(Ma (45:UInt8) (by rw[<-h];exact List.mem_cons_self ..)).1
  exact absurd this (by decide)
 ·have:=(Ma (45:UInt8) (by rw[h];exact List.mem_cons_self ..)).1
  exact absurd this (by decide)
 ·have:=congrArg abr h
  rw[vb px,vb py]at this;omega
theorem R0{x t:List UInt8}(hx:∀c∈x,c≠32)(ht:t=[]\/∃r,t=32::r):(x++t).takeWhile (fun c=>c !=32)=x:=by
 induction x with
 |nil=>
  rcases ht with rfl|⟨r,rfl⟩
  ·rfl
  ·rfl
 |cons a x ih=>
  have h1:(a !=32)=true:=bne_iff_ne.2 (hx a (List.mem_cons_self ..))
  simp only[List.cons_append,List.takeWhile_cons,h1,if_true]
  rw[ih fun c hc=>hx c (List.mem_cons_of_mem _ hc)]
theorem tl_0(r:List (List UInt8)):Lib.joinTail [32] r=[]\/∃t,Lib.joinTail [32] r=32::t:=by
 cases r with
 |nil=>exact .inl rfl
 |cons a r=>exact .inr ⟨a++Lib.joinTail [32] r,by simp[Lib.joinTail]⟩
theorem Gn:∀{a b:List (List UInt8)} (_:a.length=b.length) (_:∀x∈a,∀c∈x,c≠32) (_:∀x∈b,∀c∈x,c≠32) (_:Lib.join a [32]=Lib.join b [32]),a=b
 |[],[],_,_,_,_=>rfl
 |[],_::_,h,_,_,_=>by simp at h
 |_::_,[],h,_,_,_=>by simp at h
 |x::a,y::b,hl,ha,hb,h=>by
  rw[Lib.join_cons,Lib.join_cons]at h
  have hx:=R0 (ha x (List.mem_cons_self ..)) (tl_0 a)
  have hy:=R0 (hb y (List.mem_cons_self ..)) (tl_0 b)
  have e:x=y:=by rw[<-hx,<-hy,h]
  subst e
  have ht:=List.append_cancel_left h
  congr 1
  cases a with
  |nil=>
   cases b with
   |nil=>rfl
   |cons z b=>simp at hl
  |cons w a=>
   cases b with
   |nil=>simp at hl
   |cons z b=>
    refine Gn (by simpa using hl) (fun x hx=>ha x (List.mem_cons_of_mem _ hx)) (fun x hx=>hb x (List.mem_cons_of_mem _ hx)) ?_
    rw[Lib.join_cons,Lib.join_cons]
    simp only[Lib.joinTail,ahg,List.flatten_cons,List.cons_append,List.nil_append]at ht
    have:=(List.cons.inj ht).2
    simpa[Lib.joinTail]using this
def Vv(g:List Int):List UInt8:=Lib.join (g.map Lq) [32]
abbrev xo(g:List Int):ByteArray:=⟨(Vv g).toArray⟩
theorem D0{a b:List Int}(ha:BL a)(hb:BL b)(hl:a.length=b.length)(h:xo a=xo b):a=b:=by
 have h1:Vv a=Vv b:=by have:=congrArg (fun z:ByteArray=>z.data.toList) h;simpa using this
 have h2:=Gn (by simp[hl]) (fun x hx=>by obtain⟨y,_,rfl⟩:=ahh.1 hx;exact Tf) (fun x hx=>by obtain⟨y,_,rfl⟩:=ahh.1 hx;exact Tf) h1
 refine List.ext_getElem hl fun i h3 h4=>V7 (ha _ (ags h3)) (hb _ (ags h4)) ?_
 have:=congrArg (fun z=>z[i]?) h2
 simpa[h3,h4]using this
theorem Zs{r:List (List UInt8)}(h:∀x∈r,x.length<=21):(Lib.joinTail [32] r).length<=22*r.length:=by
 induction r with
 |nil=>exact ag5 _
 |cons a r ih=>
  have:=h a (List.mem_cons_self ..)
  have:=ih fun x hx=>h x (List.mem_cons_of_mem _ hx)
  simp only[Lib.joinTail,ahg,List.flatten_cons,agw,ahe,ahf]at*
  omega
theorem Vt{g:List Int}:(Vv g).length<=22*g.length:=by
 unfold Vv
 cases g with
 |nil=>exact ag5 _
 |cons x g=>
  rw[ahg,Lib.join_cons,agw]
  have:=@Lp x
  have:=Zs (r:=g.map Lq) (fun y hy=>by obtain⟨z,_,rfl⟩:=ahh.1 hy;exact Lp)
  simp only[agz,ahe]at*
  omega
abbrev By(g:List Int):List Int:=g.map fun x=>-x
theorem Kr{g:List Int}(h:BL g):BL (By g):=fun x hx=>by
 obtain⟨y,hy,rfl⟩:=ahh.1 hx;have:=h y hy;constructor<;>omega
def uh(s:OSt)(g:List Int):Option Nat:=s.I.findIdx? fun y=>decide (y.g=By g)
def ia(s:OSt):Nat->Nat->Option (OSt×Int×Int×Bool×Bool)
 |0,_=>some (s,0,0,false,true)
 |f+1,k=>match s.I[k]? with
  |none=>none
  |some x=>match uh s x.g with
   |none=>ia s f (k+1)
   |some o=>if o<k then ia s f (k+1)else match s.I[o]? with
    |none=>none
    |some y=>if B1 (bnd s x+bnd s y)then
     if bnd s x+bnd s y<0 then match xf s (List.replicate s.n 0) [⟨x.a,1⟩,⟨y.a,1⟩]with
      |none=>none
      |some (s',_)=>some (s',0,0,false,false)
     else if bnd s x+bnd s y=0 then some (s,(k:Int),(o:Int),true,true)else ia s f (k+1)
     else none
def FM:Int:=65535
def nm(s:OSt):Option (OSt×Int×Int×Bool×Bool):=if SzS s/\(s.I.map (·.g)).Nodup/\∀x∈s.I,∀c∈x.g,aZ c<=FM then ia s s.I.length 0 else none
section
variable{s:OSt}{R:OSt×Int×Int×Bool×Bool}{k m:Nat}
theorem Pj(hk:k<m)(h:ia s (m-k) k=some R)(ha:k<s.I.length):
 (uh s s.I[k].g=none/\ia s (m-(k+1)) (k+1)=some R)\/∃o,uh s s.I[k].g=some o/\((o<k/\ia s (m-(k+1)) (k+1)=some R)\/(¬o<k/\∃ho:o<s.I.length,B1 (bnd s s.I[k]+bnd s s.I[o])/\
  ((bnd s s.I[k]+bnd s s.I[o]<0/\∃s' b,xf s (List.replicate s.n 0) [⟨s.I[k].a,1⟩,⟨s.I[o].a,1⟩]=some (s',b)/\R=(s',0,0,false,false))\/(bnd s s.I[k]+bnd s s.I[o]=0/\R=(s,(k:Int),(o:Int),true,true))\/(0<bnd s s.I[k]+bnd s s.I[o]/\ia s (m-(k+1)) (k+1)=some R)))):=by
 rw[show m-k=(m-(k+1))+1 by omega]at h
 unfold ia at h
 rw[agt ha]at h
 simp only at h
 split at h
 ·next e=>exact .inl ⟨e,h⟩
 ·next o e=>
  refine .inr ⟨o,e,?_⟩
  split at h
  ·next g=>exact .inl ⟨g,h⟩
  ·next g=>
   refine .inr ⟨g,?_⟩
   split at h
   ·cases h
   ·next y ey=>
    obtain⟨ho,rfl⟩:=ahl.1 ey
    refine⟨ho,?_⟩
    split at h
    ·next hb=>
     refine⟨hb,?_⟩
     split at h
     ·next hn=>
      split at h
      ·cases h
      ·next s' b ep=>cases h;exact .inl ⟨hn,_,b,ep,rfl⟩
     ·next hn=>
      split at h
      ·next hz=>cases h;exact .inr (.inl ⟨hz,rfl⟩)
      ·next hz=>exact .inr (.inr ⟨by omega,h⟩)
    ·cases h
theorem Qh(hn:(s.I.map (·.g)).Nodup){g:List Int}{o:Nat}(h:uh s g=some o):∃ho:o<s.I.length,s.I[o].g=By g/\∀a (ha:a<s.I.length),s.I[a].g=By g->a=o:=by
 obtain⟨ho,h1,_⟩:=List.findIdx?_eq_some_iff_getElem.1 h
 have e:=ag3 h1
 refine⟨ho,e,fun a ha ea=>?_⟩
 have hp:=List.pairwise_iff_getElem.1 hn
 rcases Nat.lt_trichotomy a o with g|g|g
 ·exact(hp a o (by simpa using ha) (by simpa using ho) g (by simp[ea,e])).elim
 ·exact g
 ·exact(hp o a (by simpa using ho) (by simpa using ha) g (by simp[ea,e])).elim
theorem Qg{g:List Int}(h:uh s g=none):∀y∈s.I,y.g≠By g:=fun y hy=>by
 have:=List.findIdx?_eq_none_iff.1 h y hy
 exact ag2 this
end
def Nt(x:Int):Prop:=PRet Tryz.prog 212 [.agg (bI x)] (fun q=>q=.v (.string (I5 x)))
def I3:Prop:=∀ss:List ByteArray,(Lib.join (ss.map (·.data.toList)) [32]).length<=140737488355328->b8 Tryz.prog 213 [.tree 1 (ss.map sA),.v (.string ⟨#[32]⟩)] (.v (.string ⟨(Lib.join (ss.map (·.data.toList)) [32]).toArray⟩))
theorem keyS{g:List Int}:(⟨(Lib.join ((g.map I5).map (·.data.toList)) [32]).toArray⟩:ByteArray)=xo g:=by
 simp[xo,Vv,Function.comp_def]
theorem P5{g:List Int}:(Lib.join ((g.map I5).map (·.data.toList)) [32]).length<=22*g.length:=by
 have:=@Vt g
 unfold Vv at this
 simpa[Function.comp_def]using this
theorem abm(x:Int):aZ (-x)=aZ x:=by unfold aZ;split<;>split<;>omega
theorem yd{s:OSt}{R:OSt×Int×Int×Bool×Bool}(h:nm s=some R):(SzS s/\(s.I.map (·.g)).Nodup/\∀x∈s.I,∀c∈x.g,aZ c<=FM)/\ia s (s.I.length-0) 0=some R:=by
 unfold nm at h;split at h
 ·next g=>exact⟨g,h⟩
 cases h
theorem Pk{s:OSt}{R:OSt×Int×Int×Bool×Bool}{k m:Nat}(hk:¬k<m)(h:ia s (m-k) k=some R):(s,0,0,false,true)=R:=by
 rw[show m-k=0 by omega]at h
 unfold ia at h
 cases h;rfl
theorem Vu{l:List ItS}{k:Nat}(h:k<l.length):(l.take k).map (fun x=>xo x.g)++[xo l[k].g]=(l.take (k+1)).map fun x=>xo x.g:=by
 rw[ag4 h,List.map_append];rfl
theorem Vs{s:OSt}(ho:OOk s)(hn:(s.I.map (·.g)).Nodup){k:Nat}(h:k<s.I.length):∀y∈(s.I.take k).map (fun x=>xo x.g),y≠xo s.I[k].g:=fun y hy e=>by
 obtain⟨x,hx,rfl⟩:=ahh.1 hy
 obtain⟨a,ha,rfl⟩:=ahd hx
 have hb:a<s.I.length/\a<k:=by simp at ha;omega
 rw[List.getElem_take]at e
 have h1:=ho.I _ (ags hb.1)
 have h2:=ho.I _ (ags h)
 have e2:=D0 h1.1 h2.1 (by rw[h1.2.1,h2.2.1]) e
 exact(List.pairwise_iff_getElem.1 hn) a k (by simpa using hb.1) (by simpa using h) hb.2 (by simpa using e2)
theorem P4{s:OSt}(ho:OOk s)(hn:(s.I.map (·.g)).Nodup){k:Nat}(h:k<s.I.length):match uh s s.I[k].g with
 |none=>∀y∈(s.I.take s.I.length).map (fun x=>xo x.g),y≠xo (By s.I[k].g)
 |some j=>∃hj:j<((s.I.take s.I.length).map fun x=>xo x.g).length,((s.I.take s.I.length).map fun x=>xo x.g)[j]=xo (By s.I[k].g)/\∀a (h:a<((s.I.take s.I.length).map fun x=>xo x.g).length),((s.I.take s.I.length).map fun x=>xo x.g)[a]=xo (By s.I[k].g)->a=j:=by
 have h2:=ho.I _ (ags h)
 rw[List.take_length]
 cases e:uh s s.I[k].g with
 |none=>
  intro y hy g
  obtain⟨x,hx,rfl⟩:=ahh.1 hy
  have h1:=ho.I _ hx
  exact Qg e x hx (D0 h1.1 (Kr h2.1) (by rw[h1.2.1];simp[h2.2.1]) g)
 |some j=>
  obtain⟨hj,e1,e2⟩:=Qh hn e
  refine⟨by simpa using hj,by simp[e1],fun a ha g=>?_⟩
  have ha:a<s.I.length:=by simpa using ha
  have h1:=ho.I _ (ags ha)
  rw[List.getElem_map]at g
  exact e2 a ha (D0 h1.1 (Kr h2.1) (by rw[h1.2.1];simp[h2.2.1]) g)
section
variable{s:OSt}{k m:Nat}{hk':k<s.I.length}{R:OSt×Int×Int×Bool×Bool}{X:Nat->Nat->Prop}{Y:Nat->Prop}{N:Prop}
theorem Bu{p:Option Nat}(h:(p=none/\N)\/∃o,p=some o/\((o<k/\N)\/(¬o<k/\Y o)))(hc:p=none\/((p.getD 0:Nat):Int)<(k:Int)):N:=by
 rcases h with h|⟨o,rfl,h|h⟩
 ·exact h.2
 ·exact h.2
 rcases hc with hc|hc
 ·cases hc
 simp at hc;exact absurd hc h.1
theorem U6{p:Option Nat}(h:(p=none/\N)\/∃o,p=some o/\((o<k/\N)\/(¬o<k/\Y o)))(h1:¬p=none)(h2:¬((p.getD 0:Nat):Int)<(k:Int)):∃o,p=some o/\¬o<k/\Y o:=by
 rcases h with h|⟨o,rfl,h|h⟩
 ·exact absurd h.1 h1
 ·exact absurd (by simpa using h.1) h2
 exact⟨o,rfl,h.1,h.2⟩
end
theorem aco{l:List Int}:(By l).length=(List.replicate l.length 0:List Int).length:=by simp
theorem Mo:bw Tryz.prog 213=true:=by kernel_rfl
theorem by9:(Tryz.prog.info? 9).map (·.bytes)=some 16:=by kernel_rfl
theorem We:dx Tryz.prog 242 0=some (0,1):=by kernel_rfl
theorem sz9:ao Tryz.prog 9=some 1:=by kernel_rfl
theorem zr9:bj Tryz.prog 9=some (.string ⟨#[]⟩):=by kernel_rfl
theorem Id(l:List Int)(hl:ip l (fun y=>True))(hb:BL l)(hs:l.length<=1000000):PRet Tryz.prog 177 [.tree 2 (l.map bI)] (fun r=>r=.tree 2 ((By l).map bI)):=by
 refine ovT [7,20,100020] [7] Tryz.func177 rfl rfl (LenG.of ?_)
 refine OpG.nw (cv 0 (len:=l.length) Tryz.underlying45 ik A4 Db rfl rfl rfl (by omega)) rfl (LenG.of ?_)
 refine LpG.on (fun k0:Nat=>(⟨fL [(0,.tree 2 (l.map bI)),(3,.sl 0 0 0 l.length),(9,.v (.int .i64 ((l.length:Nat):Int))),(10,.v (.int .i64 ((k0:Nat):Int)))],hLz [(0,⟨0,rF bI ((By l).take k0++(List.replicate l.length 0).drop k0),2,false⟩)],1⟩:St)) (fun k0=>(l.length-k0)) (fun k0=>(k0<=l.length)) 0 (cO (.cons rfl rfl (.cons rfl rfl (.cons rfl rfl (.cons rfl rfl .nil)))) (.cons (by rfl) rfl (aa ae _ _) .nil)) (ag5 _) ?_
 rintro k0 ha
 have hgr_k0:l.length<=140737488355328:=hl.1
 have hle_k0:=ha
 refine cL (fun hlt11=>?_) (fun hge11=>?_)
 ·refine IdxG.of ‹_› (ArgG.mk (wc (x:=l[k0]) (hb _ (ags ‹_›))) rfl ?_)
  rintro _ rfl
  refine OpG.lk (av (k:=k0) ae Tryz.underlying45 ik rfl rfl rfl (by omega) rfl) (OpG.wr (bl (k:=k0) (o:=0) (v:=-l[k0]) ae ik rfl rfl rfl rfl rfl rfl (by rw[cb aco];simp;omega) (by decide) rfl) rfl ?_)
  refine⟨by omega,⟨(k0+1),by omega,(cO (.cons rfl rfl (.cons rfl rfl (.cons rfl rfl (.cons rfl rfl .nil)))) (.cons (by(rw[j7 aco (by simp;omega) (fun h=>by simp)];rfl)) rfl (aa ae _ _) .nil)),?_⟩⟩
  omega
 refine RegG.via (fun _ h=>ck 0 ⟨0,rF bI (By l),2,false⟩ rfl (by rw[ig aco (by simp;omega)]) h) (aw ?_)
 refine⟨.inr rfl,_,Ng.tmp rfl ⟨[0],b7 ae (agx.2 rfl) rfl (by simp)⟩,?_⟩
 rfl
theorem Vr(g:List Int)(hg:ip g (fun y=>True))(hF:∀x∈g,Nt x)(hJ:I3)(hs:g.length<=1000):PRet Tryz.prog 176 [.tree 2 (g.map bI)] (fun r=>r=.v (.string (xo g))):=by
 refine ovT [19] [7] Tryz.func176 rfl rfl (LenG.of ?_)
 refine LpG.via (fun _ h=>ry 3 1 rfl 1 rfl h) (LpG.on (fun k0:KL ByteArray=>(⟨fL [(3,.sl 0 k0.L.length 0 k0.L.length),(6,.tree 2 (g.map bI)),(7,.v (.int .i64 ((g.length:Nat):Int))),(8,.v (.int .i64 ((k0.k:Nat):Int)))],hLz [(0,⟨k0.L.length,rF sA k0.L,1,Nat.beq k0.L.length 0⟩)],1⟩:St)) (fun k0=>(g.length-k0.k)) (fun k0=>(k0.k<=g.length/\(k0.L=(g.take k0.k).map I5))) (⟨0,[]⟩:KL ByteArray) (cO (.cons (by rfl) rfl (.cons rfl rfl (.cons rfl rfl (.cons rfl rfl .nil)))) (.cons (by rfl) rfl (aa cr _ _) .nil)) ⟨ag5 _,rfl⟩ ?_)
 rintro k0 hb
 have hgr_k0:g.length<=140737488355328:=hg.1
 obtain⟨hle_k0,ha⟩:=hb
 refine cL (fun hc=>?_) (fun hge9=>?_)
 ·have hll:k0.L.length=k0.k:=by rw[ha];simp;omega
  refine IdxG.of ‹_› (ArgG.mk ((show Nt g[k0.k]from hF _ (ags ‹_›))) rfl ?_)
  rintro _ rfl
  refine OpG.mk _ _ _ 3 (b9 cr (a:=((I5 g[k0.k]))) Tryz.underlying112 sz9 zr9 by9 rfl rfl rfl (dv rfl rfl rfl rfl) rfl (by omega) (by omega) (by unfold TV;omega)) rfl rfl ⟨by omega,⟨(⟨k0.k+1,k0.L++[I5 g[k0.k]]⟩:KL ByteArray),(by show g.length-(k0.k+1)<g.length-k0.k;omega),(cO (.cons (by(rw[agw];rfl)) rfl (.cons rfl rfl (.cons rfl rfl (.cons rfl rfl .nil)))) (.cons (by(rw[agw];rfl)) rfl (aa cr _ _) .nil)),?_⟩⟩
  refine⟨by show k0.k+1<=_;omega,?_⟩
  show k0.L++_=_
  rw[ag4 hc,List.map_append,ha];rfl
 have he:k0.L=g.map I5:=by rw[ha,ahj (by omega)]
 have hd:=hJ (g.map I5) (aha P5 (by omega))
 rw[keyS]at hd
 rw[he]
 refine RegG.via (fun _ h=>bm [0] 3 (.tree 1 ((g.map I5).map sA)) (j6 cr (agx.2 rfl) rfl) rfl h) (aw ?_)
 exact OpG.lk (LOp.call Mo rfl hd) (rV rfl rfl rfl)
theorem Y6(s s':OSt)(i j:Int)(fd ok:Bool)(ho:OOk s)(hv:∀c,aZ c<=FM->Nt c)(hJ:I3)(h:nm s=some (s',i,j,fd,ok)):qa Tryz.prog 151 [.ptr 1000000 0 0] [(1000000,sB s),(1000001,s1 s),(1000002,s2 s),(1000003,s3 s),(1000004,s4 s),(1000005,s5 s),(1000006,s6 s),(1000007,s7 s)] [(1000000,some (sB s')),(1000001,some (s1 s')),(1000002,some (s2 s')),(1000003,some (s3 s')),(1000004,some (s4 s')),(1000005,some (s5 s')),(1000006,some (s6 s')),(1000007,some (s7 s'))] (fun q=>q=.tup [.v (.int .i64 i),.v (.int .i64 j),.v (.bool fd),.v (.bool ok)]):=by
 obtain⟨⟨⟨z1,z2,z3,z4,z5,z6,z7,z8⟩,hw,g0⟩,hp⟩:=yd h
 have hF:∀x∈s.I,∀c∈x.g,Nt c/\Nt (-c):=fun x hx c hc=>⟨hv c (g0 x hx c hc),hv _ (by rw[abm];exact g0 x hx c hc)⟩
 refine qa.of_vc jc [18,22,23,34,38,39,46,58,65,66,67,77,87,88,89,92,93] [] Tryz.func151 rfl Tryz.ntmps151 rfl (by kernel_rfl) (OpG.nw (LOp.makeMap 0) rfl ?_)
 refine OpG.lk (cd rfl Tryz.underlying215 rfl rfl rfl) (LpG.on (fun k0:Nat=>(⟨fL [(0,.ptr 1000000 0 0),(6,.mp 0 0),(17,.sl 1000006 s.vI 0 s.I.length),(18,.v (.int .i64 ((s.I.length:Nat):Int))),(19,.v (.int .i64 ((k0:Nat):Int)))],hLz [(0,Py ((s.I.take k0).map fun x=>xo x.g)),(1000000,sB s),(1000001,s1 s),(1000002,s2 s),(1000003,s3 s),(1000004,s4 s),(1000005,s5 s),(1000006,s6 s),(1000007,s7 s)],1⟩:St)) (fun k0=>(s.I.length-k0)) (fun k0=>(k0<=s.I.length)) 0 (cO (.cons rfl rfl (.cons rfl rfl (.cons rfl rfl (.cons rfl rfl (.cons rfl rfl .nil))))) (.cons (by rfl) rfl (o5 _ _) (.cons rfl rfl rfl (.cons rfl rfl (aa ab _ _) (.cons rfl rfl (aa ai _ _) (.cons rfl rfl (aa ah _ _) (.cons rfl rfl (aa ap _ _) (.cons rfl rfl (aa ae _ _) (.cons rfl rfl (aa ag _ _) (.cons rfl rfl (aa aj _ _) .nil)))))))))) (ag5 _) ?_)
 rintro k0 hh
 have hle_k0:=hh
 refine cL (fun hd=>?_) (fun hge20=>?_)
 ·refine OpG.lk (br (k:=k0) ag Tryz.underlying215 pk rfl rfl rfl hd rfl hd) (OpG.lk (jz (k:=k0) ag m9 rfl rfl hd) ?_)
  refine ArgG.mk (Vr s.I[k0].g ⟨by rw[(ho.I _ (ags hd)).2.1];have:=ho.n2;omega,fun _ _=>trivial⟩ (fun x hx=>(hF _ (ags hd) x hx).1) hJ (by rw[(ho.I _ (ags hd)).2.1];exact ho.n2)) rfl ?_
  rintro _ rfl
  refine OpG.wr (Rk Tryz.underlying246 Tryz.underlying9 rfl rfl rfl (by simp;omega) rfl (Vs ho hw hd)) rfl ⟨by omega,⟨(k0+1),by omega,(cO (.cons rfl rfl (.cons rfl rfl (.cons rfl rfl (.cons rfl rfl (.cons rfl rfl .nil))))) (.cons (by(rw[Vu hd];rfl)) rfl (o5 _ _) (.cons rfl rfl rfl (.cons rfl rfl (aa ab _ _) (.cons rfl rfl (aa ai _ _) (.cons rfl rfl (aa ah _ _) (.cons rfl rfl (aa ap _ _) (.cons rfl rfl (aa ae _ _) (.cons rfl rfl (aa ag _ _) (.cons rfl rfl (aa aj _ _) .nil)))))))))),?_⟩⟩
  omega
 obtain rfl:k0=s.I.length:=by omega
 refine OpG.lk (cd rfl Tryz.underlying215 rfl rfl rfl) (LpG.on (fun k2:Nat=>(⟨fL [(0,.ptr 1000000 0 0),(6,.mp 0 0),(33,.sl 1000006 s.vI 0 s.I.length),(34,.v (.int .i64 ((s.I.length:Nat):Int))),(35,.v (.int .i64 ((k2:Nat):Int)))],hLz [(0,Py ((s.I.take s.I.length).map fun x=>xo x.g)),(1000000,sB s),(1000001,s1 s),(1000002,s2 s),(1000003,s3 s),(1000004,s4 s),(1000005,s5 s),(1000006,s6 s),(1000007,s7 s)],1⟩:St)) (fun k2=>(s.I.length-k2)) (fun k2=>(k2<=s.I.length/\ia s (s.I.length-k2) k2=some (s',i,j,fd,ok))) 0 (cO (.cons rfl rfl (.cons rfl rfl (.cons rfl rfl (.cons rfl rfl (.cons rfl rfl .nil))))) (.cons rfl rfl (o5 _ _) (.cons rfl rfl rfl (.cons rfl rfl (aa ab _ _) (.cons rfl rfl (aa ai _ _) (.cons rfl rfl (aa ah _ _) (.cons rfl rfl (aa ap _ _) (.cons rfl rfl (aa ae _ _) (.cons rfl rfl (aa ag _ _) (.cons rfl rfl (aa aj _ _) .nil)))))))))) ⟨ag5 _,hp⟩ ?_)
 rintro k2 hh
 obtain⟨hle_k2,hg⟩:=hh
 refine cL (fun ha=>?_) (fun hj=>?_)
 ·have hn:=Pj ha hg ha
  refine OpG.lk (br (k:=k2) ag Tryz.underlying215 pk rfl rfl rfl ha rfl ha) (OpG.lk (jz (k:=k2) ag m9 rfl rfl ha) ?_)
  refine ArgG.mk (Id s.I[k2].g ⟨by rw[(ho.I _ (ags ha)).2.1];have:=ho.n2;omega,fun _ _=>trivial⟩ (ho.I _ (ags ha)).1 (by rw[(ho.I _ (ags ha)).2.1];have:=ho.n2;omega)) rfl ?_
  rintro _ rfl
  refine ArgG.mk (Vr (By s.I[k2].g) ⟨by rw[agz,(ho.I _ (ags ha)).2.1];have:=ho.n2;omega,fun _ _=>trivial⟩ (fun x hx=>by obtain⟨y,hy,rfl⟩:=ahh.1 hx;exact(hF _ (ags ha) y hy).2) hJ (by rw[agz,(ho.I _ (ags ha)).2.1];exact ho.n2)) rfl ?_
  rintro _ rfl
  refine OpG.lk (Np (p:=uh s s.I[k2].g) Tryz.underlying246 Tryz.underlying9 zr3 rfl rfl rfl (P4 ho hw ha)) (cB (fun he=>?_) (fun he=>?_))
  ·have hk:ia s (s.I.length-(k2+1)) (k2+1)=some (s',i,j,fd,ok):=Bu hn (.inl (by simpa using he))
   refine cT ⟨by omega,⟨(k2+1),by omega,(cO (.cons rfl rfl (.cons rfl rfl (.cons rfl rfl (.cons rfl rfl (.cons rfl rfl .nil))))) (.cons rfl rfl (o5 _ _) (.cons rfl rfl rfl (.cons rfl rfl (aa ab _ _) (.cons rfl rfl (aa ai _ _) (.cons rfl rfl (aa ah _ _) (.cons rfl rfl (aa ap _ _) (.cons rfl rfl (aa ae _ _) (.cons rfl rfl (aa ag _ _) (.cons rfl rfl (aa aj _ _) .nil)))))))))),?_⟩⟩
   exact⟨by omega,hk⟩
  refine cD (fun hq=>?_) (fun hq=>?_)
  ·have hk:ia s (s.I.length-(k2+1)) (k2+1)=some (s',i,j,fd,ok):=Bu hn (.inr (by omega))
   refine⟨by omega,⟨(k2+1),by omega,(cO (.cons rfl rfl (.cons rfl rfl (.cons rfl rfl (.cons rfl rfl (.cons rfl rfl .nil))))) (.cons rfl rfl (o5 _ _) (.cons rfl rfl rfl (.cons rfl rfl (aa ab _ _) (.cons rfl rfl (aa ai _ _) (.cons rfl rfl (aa ah _ _) (.cons rfl rfl (aa ap _ _) (.cons rfl rfl (aa ae _ _) (.cons rfl rfl (aa ag _ _) (.cons rfl rfl (aa aj _ _) .nil)))))))))),?_⟩⟩
   exact⟨by omega,hk⟩
  obtain⟨o,hr,hnk,hf,g1,g2⟩:=U6 hn (fun e=>by rw[e]at he;simp at he) (by omega)
  obtain⟨_,rfl,hs⟩:=Ms s s.I[k2] (ho.I _ (ags ha))
  obtain⟨_,rfl,ht⟩:=Ms s s.I[o] (ho.I _ (ags hf))
  refine OpG.lk (co (a8 [(1000000,1000000),(1000001,1000001),(1000002,1000002),(1000003,1000003),(1000004,1000004),(1000005,1000005),(1000006,1000006),(1000007,1000007)] t6 hs rfl rfl rfl rfl ⟨rfl,sX ab,sX ai,sX ah,sX ap,sX ae,sX ag,sX aj,trivial⟩ ⟨⟨rfl,.inl rfl⟩,au ab,au ai,au ah,au ap,au ae,au ag,au aj,trivial⟩ ⟨rfl,aq ab _ _,aq ai _ _,aq ah _ _,aq ap _ _,aq ae _ _,aq ag _ _,aq aj _ _,trivial⟩ rfl rfl rfl rfl uz rfl) ⟨⟨.head _,rfl,rfl⟩,⟨.tail _ (.head _),rfl,rfl⟩,⟨.tail _ (.tail _ (.head _)),rfl,rfl⟩,⟨.tail _ (.tail _ (.tail _ (.head _))),rfl,rfl⟩,⟨.tail _ (.tail _ (.tail _ (.tail _ (.head _)))),rfl,rfl⟩,⟨.tail _ (.tail _ (.tail _ (.tail _ (.tail _ (.head _))))),rfl,rfl⟩,⟨.tail _ (.tail _ (.tail _ (.tail _ (.tail _ (.tail _ (.head _)))))),rfl,rfl⟩,⟨.tail _ (.tail _ (.tail _ (.tail _ (.tail _ (.tail _ (.tail _ (.head _))))))),rfl,rfl⟩,trivial⟩) (OpG.lk (br (k:=o) ag Tryz.underlying215 pk rfl rfl (by rw[hr];rfl) hf rfl hf) ?_)
  refine OpG.lk (jz (k:=o) ag m9 rfl rfl hf) (OpG.lk (co (a8 [(1000000,1000000),(1000001,1000001),(1000002,1000002),(1000003,1000003),(1000004,1000004),(1000005,1000005),(1000006,1000006),(1000007,1000007)] t6 ht rfl rfl rfl rfl ⟨rfl,sX ab,sX ai,sX ah,sX ap,sX ae,sX ag,sX aj,trivial⟩ ⟨⟨rfl,.inl rfl⟩,au ab,au ai,au ah,au ap,au ae,au ag,au aj,trivial⟩ ⟨rfl,aq ab _ _,aq ai _ _,aq ah _ _,aq ap _ _,aq ae _ _,aq ag _ _,aq aj _ _,trivial⟩ rfl rfl rfl rfl uz rfl) ⟨⟨.head _,rfl,rfl⟩,⟨.tail _ (.head _),rfl,rfl⟩,⟨.tail _ (.tail _ (.head _)),rfl,rfl⟩,⟨.tail _ (.tail _ (.tail _ (.head _))),rfl,rfl⟩,⟨.tail _ (.tail _ (.tail _ (.tail _ (.head _)))),rfl,rfl⟩,⟨.tail _ (.tail _ (.tail _ (.tail _ (.tail _ (.head _))))),rfl,rfl⟩,⟨.tail _ (.tail _ (.tail _ (.tail _ (.tail _ (.tail _ (.head _)))))),rfl,rfl⟩,⟨.tail _ (.tail _ (.tail _ (.tail _ (.tail _ (.tail _ (.tail _ (.head _))))))),rfl,rfl⟩,trivial⟩) ?_)
  refine ArgG.mk (wz (x:=bnd s s.I[k2]) (y:=bnd s s.I[o]) (ho.bB (ho.I _ (ags ha))) (ho.bB (ho.I _ (ags hf))) g1) rfl ?_
  rintro _ rfl
  refine ArgG.mk (j8 (x:=(bnd s s.I[k2]+bnd s s.I[o])) g1) rfl ?_
  rintro _ rfl
  refine⟨by kernel_rfl,cE (fun hl=>?_) (fun hl=>?_)⟩
  ·obtain⟨hneg,s2,bp,g3,hR⟩:=g2.resolve_right (fun k=>by have:=R9.1 (show sgZ (bnd s s.I[k2]+bnd s s.I[o])<0 by omega);rcases k with k|k<;>omega)
   cases hR
   obtain⟨_,rfl,g4⟩:=Pd (List.replicate s.n 0) [(⟨s.I[k2].a,1⟩:UsS),⟨s.I[o].a,1⟩] s s' bp ho (by simp) (me _) (fun u hu=>by(rcases ahi.1 hu with rfl|hu;exact qu;rw[agx.1 hu];exact qu)) (by simp) (by simp) (fun h=>absurd h (by simp)) g3
   refine OpG.nw (bq (cv 2 (len:=s.n) Tryz.underlying45 ik A4 Db rfl rfl rfl (by have:=ho.n2;omega)) (fun η' h=>b7 ae (agx.2 rfl) h (by simp))) rfl (ArgG.mk (pm (n:=1) ⟨by decide,by decide⟩) rfl ?_)
   rintro _ rfl
   refine OpG.lk (br (k:=o) ag Tryz.underlying215 pk rfl rfl (by rw[hr];rfl) hf rfl hf) (OpG.lk (ic We rfl rfl rfl hf) ?_)
   refine OpG.lk (LOp.cellN (k:=o) (o:=0) ag adh rfl rfl hf rfl) (ArgG.mk (pm (n:=1) ⟨by decide,by decide⟩) rfl ?_)
   rintro _ rfl
   refine OpG.nw (bq (cj Tryz.underlying121 Ou N6 rfl rfl rfl rfl) (fun η' h=>bc (f:=usA) (l:=[(⟨s.I[k2].a,1⟩:UsS),⟨s.I[o].a,1⟩]) (agx.2 rfl) h rfl rfl rfl rfl rfl (fun a _=>⟨rfl,rfl⟩))) rfl (OpG.mk _ _ _ 4 (a8 [(1000000,1000000),(1000001,1000001),(1000002,1000002),(1000003,1000003),(1000004,1000004),(1000005,1000005),(1000006,1000006),(1000007,1000007)] Hj g4 rfl rfl rfl rfl ⟨rfl,sX ab,sX ai,sX ah,sX ap,sX ae,sX ag,sX aj,trivial⟩ ⟨⟨rfl,.inl rfl⟩,au ab,au ai,au ah,au ap,au ae,au ag,au aj,trivial⟩ ⟨rfl,aq ab _ _,aq ai _ _,aq ah _ _,aq ap _ _,aq ae _ _,aq ag _ _,aq aj _ _,trivial⟩ rfl rfl rfl rfl uz rfl) rfl rfl ?_)
   refine⟨by kernel_rfl,⟨.inr rfl,_,Nf.of [] (az rfl (.cons (abn.tmp rfl) (.cons (abn.tmp rfl) (.cons (abn.tmp rfl) (.cons (abn.tmp rfl) .nil))))) rfl ⟨.same rfl (by decide),.same rfl (by decide),.same rfl (by decide),.same rfl (by decide),.same rfl (by decide),.same rfl (by decide),.same rfl (by decide),.same rfl (by decide),trivial⟩ .same,?_⟩⟩
   rfl
  have hm:=g2.resolve_left (fun k=>hl (by unfold sgZ;rw[ag0 (by omega),ag1 k.1]))
  refine cE (fun hi=>?_) (fun hi=>?_)
  ·obtain⟨hz,hR⟩:=hm.resolve_right (fun k=>by have:=sgZ_0.1 hi;omega)
   cases hR
   refine⟨.inr rfl,_,Nf.of [] (az rfl (.cons (abn.tmp rfl) (.cons (abn.tmp rfl) (.cons (abn.tmp rfl) (.cons (abn.tmp rfl) .nil))))) rfl ⟨.same rfl (by decide),.same rfl (by decide),.same rfl (by decide),.same rfl (by decide),.same rfl (by decide),.same rfl (by decide),.same rfl (by decide),.same rfl (by decide),trivial⟩ .same,?_⟩
   (rw[hr];rfl)
  have hk:=(hm.resolve_left (fun k=>hi (sgZ_0.2 k.1))).2
  refine⟨by omega,⟨(k2+1),by omega,(cO (.cons rfl rfl (.cons rfl rfl (.cons rfl rfl (.cons rfl rfl (.cons rfl rfl .nil))))) (.cons rfl rfl (o5 _ _) (.cons rfl rfl rfl (.cons rfl rfl (aa ab _ _) (.cons rfl rfl (aa ai _ _) (.cons rfl rfl (aa ah _ _) (.cons rfl rfl (aa ap _ _) (.cons rfl rfl (aa ae _ _) (.cons rfl rfl (aa ag _ _) (.cons rfl rfl (aa aj _ _) .nil)))))))))),?_⟩⟩
  exact⟨by omega,hk⟩
 have hR:=Pk hj hg
 cases hR
 refine⟨.inr rfl,_,Nf.of [] (az rfl (.cons (abn.tmp rfl) (.cons (abn.tmp rfl) (.cons (abn.tmp rfl) (.cons (abn.tmp rfl) .nil))))) rfl ⟨.same rfl (by decide),.same rfl (by decide),.same rfl (by decide),.same rfl (by decide),.same rfl (by decide),.same rfl (by decide),.same rfl (by decide),.same rfl (by decide),trivial⟩ .same,?_⟩
 rfl
def Pz{α β:Type}(f:α->Option β):List α->Option (List β)
 |[]=>some []
 |x::l=>match f x,Pz f l with
  |some y,some r=>some (y::r)
  |_,_=>none
theorem mu{α β:Type}{f:α->Option β}:∀{l:List α} {r:List β} (_:Pz f l=some r),r.length=l.length/\∀i (h:i<l.length) (h':i<r.length),f l[i]=some r[i]
 |[],r,h=>by cases h;exact⟨rfl,fun i h=>absurd h (ag6 i)⟩
 |x::l,r,h=>by
  unfold Pz at h
  split at h
  ·next y r' e1 e2=>
   cases h
   obtain⟨h1,h2⟩:=mu e2
   refine⟨by simp[h1],fun i hi hj=>?_⟩
   cases i with
   |zero=>exact e1
   |succ i=>exact h2 i (by simpa using hi) (by simpa using hj)
  ·cases h
def Ig(j p:Nat)(q:Int)(l:List Int):Option (List Int):=match l[j]?,l[p]? with
 |some a,some b=>if B1 (q*b)/\B1 (a-q*b)then some (l.set j (a-q*b))else none
 |_,_=>none
theorem yi{j p:Nat}{q:Int}{l r:List Int}(h:Ig j p q l=some r):∃(hj:j<l.length) (hp:p<l.length),B1 (q*l[p])/\B1 (l[j]-q*l[p])/\r=l.set j (l[j]-q*l[p]):=by
 unfold Ig at h
 split at h
 ·next a b e1 e2=>
  obtain⟨hj,rfl⟩:=ahl.1 e1
  obtain⟨hp,rfl⟩:=ahl.1 e2
  split at h
  ·next hb=>cases h;exact⟨hj,hp,hb.1,hb.2,rfl⟩
  ·cases h
 ·cases h
theorem rp{l:List Int}{j:Nat}{v:Int}(h:BL l)(hv:B1 v):BL (l.set j v):=fun x hx=>by
 rcases List.mem_or_eq_of_mem_set hx with hx|rfl
 ·exact h x hx
 ·exact hv
def Zt(f:List Int->Option (List Int))(x:ItS):Option ItS:=(f x.g).map fun g=>⟨x.a,g⟩
theorem B5{f:List Int->Option (List Int)}{x y:ItS}(h:Zt f x=some y):f x.g=some y.g/\y.a=x.a:=by
 unfold Zt at h
 cases e:f x.g with
 |none=>rw[e]at h;cases h
 |some g=>rw[e]at h;cases h;exact⟨rfl,rfl⟩
def Tv(f:List Int->Option (List Int))(s:OSt):Option OSt:=if SzS s then match Pz f s.U,Pz (Zt f) s.I with
 |some U,some I=>some {s with U:=U,I:=I}
 |_,_=>none
 else none
theorem wq{f:List Int->Option (List Int)}{s s':OSt}(h:Tv f s=some s'):SzS s/\∃U I,Pz f s.U=some U/\Pz (Zt f) s.I=some I/\s'={s with U:=U,I:=I}:=by
 unfold Tv at h
 split at h
 ·next hz=>
  split at h
  ·next U I e1 e2=>cases h;exact⟨hz,U,I,e1,e2,rfl⟩
  ·cases h
 ·cases h
abbrev R7(s:OSt)(j p:Nat)(q:Int):Option OSt:=Tv (Ig j p q) s
def H0(p:Nat)(l:List Int):Option (List Int):=match l[p]? with
 |some b=>some (l.set p (-b))
 |none=>none
theorem xx{p:Nat}{l r:List Int}(h:H0 p l=some r):∃hp:p<l.length,r=l.set p (-l[p]):=by
 unfold H0 at h
 split at h
 ·next b e=>obtain⟨hp,rfl⟩:=ahl.1 e;cases h;exact⟨hp,rfl⟩
 ·cases h
abbrev V8(s:OSt)(p:Nat):Option OSt:=Tv (H0 p) s
def Rl(f:List Int->Option (List Int)):Prop:=∀l r,BL l->f l=some r->BL r/\r.length=l.length
theorem B4{j p:Nat}{q:Int}:Rl (Ig j p q):=fun l r hl h=>by
 obtain⟨hj,hp,_,h2,rfl⟩:=yi h
 exact⟨rp hl h2,by simp⟩
theorem K6{p:Nat}:Rl (H0 p):=fun l r hl h=>by
 obtain⟨hp,rfl⟩:=xx h
 have:=hl _ (ags hp)
 exact⟨rp hl ⟨by omega,by omega⟩,by simp⟩
theorem Wx{f:List Int->Option (List Int)}{s s':OSt}(hf:Rl f)(h:Tv f s=some s')(ho:OOk s):OOk s'/\s'.n=s.n/\s'.K=s.K/\s'.I.length=s.I.length:=by
 obtain⟨_,U,I,e1,e2,rfl⟩:=wq h
 obtain⟨l1,a1⟩:=mu e1
 obtain⟨l2,a2⟩:=mu e2
 refine⟨⟨ho.n1,ho.n2,ho.K,fun y hy=>?_,l1.trans ho.Ul,fun r hr=>?_,ho.T,ho.Vl,ho.V⟩,rfl,rfl,l2⟩
 ·obtain⟨i,hi,rfl⟩:=ahd hy
  have hi:i<I.length:=hi
  have ha:i<s.I.length:=by omega
  obtain⟨g1,g2⟩:=B5 (a2 i ha hi)
  obtain⟨b1,b2,j,b3,b4⟩:=ho.I _ (ags ha)
  obtain⟨c1,c2⟩:=hf _ _ b1 g1
  exact⟨c1,c2.trans b2,j,g2.trans b3,b4⟩
 ·obtain⟨i,hi,rfl⟩:=ahd hr
  have hi:i<U.length:=hi
  have ha:i<s.U.length:=by omega
  obtain⟨b1,b2⟩:=ho.U _ (ags ha)
  obtain⟨c1,c2⟩:=hf _ _ b1 (a1 i ha hi)
  exact⟨c1,c2.trans b2⟩
def xl(g:List Int):List Int->Nat->Int->Int
 |[],_,p=>p
 |x::r,j,p=>xl g r (j+1) (if x≠0/\(p<0\/aZ x<aZ (g.getD p.toNat 0))then(j:Int)else p)
abbrev n6(g:List Int):Int:=xl g g 0 (-1)
def Gp(g:List Int)(p i:Nat):Nat->Nat->OSt->Bool->Option (OSt×Bool)
 |0,_,s,b=>some (s,b)
 |f+1,j,s,b=>match s.I[i]? with
  |none=>none
  |some x=>match x.g[j]? with
   |none=>none
   |some c=>if j≠p/\c≠0 then(if B1 (flD (g.getD j 0) (g.getD p 0))then match R7 s j p (flD (g.getD j 0) (g.getD p 0))with
    |none=>none
    |some s'=>Gp g p i f (j+1) s' false
    else none)
    else Gp g p i f (j+1) s b
def Lb(i:Nat):Nat->OSt->Option (OSt×Nat)
 |0,_=>none
 |f+1,s=>match s.I[i]? with
  |none=>none
  |some x=>if n6 x.g<0\/x.g.getD (n6 x.g).toNat 0=0 then none else match Gp x.g (n6 x.g).toNat i x.g.length 0 s true with
   |none=>none
   |some (s',true)=>if x.g.getD (n6 x.g).toNat 0<0 then(V8 s' (n6 x.g).toNat).map (·,(n6 x.g).toNat)else some (s',(n6 x.g).toNat)
   |some (s',false)=>Lb i f s'
end Go.Proofs.YtbhhmbchdponjaaGreatDoor
