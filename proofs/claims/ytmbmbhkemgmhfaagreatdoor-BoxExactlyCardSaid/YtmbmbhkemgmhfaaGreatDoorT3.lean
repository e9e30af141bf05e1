/- Texts of the claim. -/
import Derived.Test.YtmbmbhkemgmhfaaGreatDoorT2
import Derived.Test.YtmbmbhkemgmhfaaGreatDoorQ2
namespace Go.Proofs.YtmbmbhkemgmhfaaGreatDoor
set_option maxRecDepth 1000000
set_option maxHeartbeats 0
set_option linter.unusedVariables false
set_option linter.unusedSimpArgs false
open Go.RowKit
theorem Xo(x:Int):bI (aZ x)=[.v (.bool false),.tree 1 ((bgI x).a_.map ct)]:=by
 have h0:=mc x
 have h1:aZ (aZ x)=aZ x:=by unfold aZ at *;split<;>(try split)<;>omega
 show[AV.v (.bool (bgI (aZ x)).b_),AV.tree 1 ((bgI (aZ x)).a_.map ct)]=_
 rw[dw,ef,ef,h1,decide_eq_false (by omega)]
theorem ac4{s:OSt}(ho:OOk s){l:List Int}(h:l.length=s.n):fy l (fun _=>True):=⟨by rw[h];have:=ho.n2;omega,fun _ _=>trivial⟩
section
variable{f:List Int->Option (List Int)}{l r:List ItS}{U V:List (List Int)}{k:Nat}
theorem Ta(h:Lp (V9 f) l=some r)(hk:k<l.length):∃hk':k<r.length,f l[k].g=some r[k].g/\r[k].a=l[k].a:=by
 obtain⟨h1,h2⟩:=mm h
 exact⟨by omega,B6 (h2 k hk (by omega))⟩
theorem Sp(h:Lp f U=some V)(hk:k<U.length):∃hk':k<V.length,f U[k]=some V[k]:=by
 obtain⟨h1,h2⟩:=mm h
 exact⟨by omega,h2 k hk (by omega)⟩
end
theorem Sm{l r:List ItS}{k:Nat}(h:r.length=l.length)(hk:k<l.length){h1:k<r.length}{h2:k<(r.take k++l.drop k).length}(ha:r[k].a=l[k].a):bg (itA ((r.take k++l.drop k)[k]'h2)) 1 [.tree 2 (r[k].g.map bI)]=itA r[k]:=by
 rw[k7 h hk]
 show[AV.v (.int .i64 l[k].a),.tree 2 (r[k].g.map bI)]=[AV.v (.int .i64 r[k].a),.tree 2 (r[k].g.map bI)]
 rw[ha]
theorem zipI{s:OSt}{I:List ItS}{k v:Nat}(h:I.length=s.I.length)(hk:¬k<s.I.length):some (⟨v,rF itA (I.take k++s.I.drop k),2,Nat.beq (I.take k++s.I.drop k).length 0⟩:Blk)=some ⟨v,rF itA I,2,Nat.beq I.length 0⟩:=by rw[dq h hk]
theorem svU(s:OSt)(U:List (List Int))(I:List ItS)(h1:U.length=s.U.length)(h2:I.length=s.I.length):some (sB s)=some (sB {s with U:=U,I:=I}):=by simp only[sB,h1,h2]
theorem Tv:bv Tryz.prog 185=true:=by kernel_rfl
theorem Tu:bv Tryz.prog 186=true:=by kernel_rfl
theorem su:cp Tryz.prog 230 1=some (1,1):=by kernel_rfl
theorem Oy:ap Tryz.prog 66=some 1:=by kernel_rfl
theorem S9(l:List Int)(hl:fy l (fun y=>True))(j p:Nat)(q:Int)(r:List Int)(hb:BL l)(hq:B1 q)(hs:l.length<=1000000)(h:Ih j p q l=some r):PRet Tryz.prog 185 [.tree 2 (l.map bI),.tp [.v (.int .i64 ((j:Nat):Int))] 0,.tp (bI q) 0,.tp [.v (.int .i64 ((p:Nat):Int))] 0] (fun x=>x=.tree 2 (r.map bI)):=by
 obtain⟨hj,hp,h0,h1,rfl⟩:=yg h
 refine ovT [7,12,13,17,18,21,100021] [] Tryz.func185 rfl rfl (OpG.mk _ _ _ 1 (a8 [(0,0)] Rh (o8 ac8 ab l (by omega) (by omega)) rfl rfl rfl rfl trivial trivial ⟨au ab _ _,trivial⟩ rfl rfl rfl rfl (l7 ab rfl) rfl) rfl rfl ?_)
 refine OpG.lk (ak (k:=j) ab Tryz.underlying66 jf rfl rfl rfl hj rfl) (OpG.lk (jn (k:=j) ab fe rfl rfl hj) ?_)
 refine OpG.lk (ak (k:=p) ab Tryz.underlying66 jf rfl rfl rfl hp rfl) (OpG.lk (jn (k:=p) ab fe rfl rfl hp) ?_)
 refine ArgG.mk (wa (x:=q) (y:=l[p]) hq (hb _ (agt hp)) h0) rfl ?_
 rintro _ rfl
 refine ArgG.mk (J7 (x:=l[j]) (y:=q*l[p]) (hb _ (agt hj)) h0 h1) rfl ?_
 rintro _ rfl
 refine OpG.lk (ak (k:=j) ab Tryz.underlying66 jf rfl rfl rfl hj rfl) (OpG.wr (az (k:=j) (o:=0) (v:=l[j]-q*l[p]) ab jf rfl rfl rfl rfl rfl rfl hj (by decide) rfl) rfl ?_)
 refine⟨by kernel_rfl,⟨.inr rfl,_,Og.tmp rfl ⟨[0],bn ab (agy.2 rfl) rfl (by simp)⟩,?_⟩⟩
 rfl
theorem Sf(l:List Int)(hl:fy l (fun y=>True))(p:Nat)(r:List Int)(hb:BL l)(hs:l.length<=1000000)(h:tu p l=some r):PRet Tryz.prog 186 [.tree 2 (l.map bI),.tp [.v (.int .i64 ((p:Nat):Int))] 0] (fun x=>x=.tree 2 (r.map bI)):=by
 obtain⟨hp,rfl⟩:=xu h
 refine ovT [5,10,11,13,100013] [] Tryz.func186 rfl rfl (OpG.mk _ _ _ 1 (a8 [(0,0)] Rh (o8 ac8 ab l (by omega) (by omega)) rfl rfl rfl rfl trivial trivial ⟨au ab _ _,trivial⟩ rfl rfl rfl rfl (l7 ab rfl) rfl) rfl rfl ?_)
 refine OpG.lk (ak (k:=p) ab Tryz.underlying66 jf rfl rfl rfl hp rfl) (OpG.lk (jn (k:=p) ab fe rfl rfl hp) ?_)
 refine ArgG.mk (v8 (x:=l[p]) (hb _ (agt hp))) rfl ?_
 rintro _ rfl
 refine OpG.lk (ak (k:=p) ab Tryz.underlying66 jf rfl rfl rfl hp rfl) (OpG.wr (az (k:=p) (o:=0) (v:=-l[p]) ab jf rfl rfl rfl rfl rfl rfl hp (by decide) rfl) rfl ?_)
 refine⟨by kernel_rfl,⟨.inr rfl,_,Og.tmp rfl ⟨[0],bn ab (agy.2 rfl) rfl (by simp)⟩,?_⟩⟩
 rfl
theorem T3{x:Int}(hx:B1 x):PRet Tryz.prog 160 [.agg (bI x)] (fun q=>q=.agg (bI (aZ x))):=by
 refine ovT [] [] Tryz.func160 rfl rfl ⟨.inr rfl,_,Og.cell rfl fe rfl rfl rfl rfl rfl ⟨[],FzP.pure rfl⟩,?_⟩
 show AV.agg _=_
 rw[show bI (aZ x)=[.v (.bool false),.tree 1 ((bgI x).a_.map ct)]from Xo x]
theorem Uz(s s':OSt)(j p:Nat)(q:Int)(hq:B1 q)(ho:OOk s)(h:Q9 (Ih j p q) s=some s'):o7 Tryz.prog 161 [.ptr 1000000 0 0,.v (.int .i64 ((j:Nat):Int)),.v (.int .i64 ((p:Nat):Int)),.agg (bI q)] [(1000000,sB s),(1000001,s1 s),(1000002,s2 s),(1000003,s3 s),(1000004,s4 s),(1000005,s5 s),(1000006,s6 s),(1000007,s7 s)] [(1000000,some (sB s')),(1000001,some (s1 s')),(1000002,some (s2 s')),(1000003,some (s3 s')),(1000004,some (s4 s')),(1000005,some (s5 s')),(1000006,some (s6 s')),(1000007,some (s7 s'))] (fun q=>q=.tup []):=by
 obtain⟨⟨z1,z2,z3,z4,z5,z6,z7,z8⟩,U,I,e1,e2,rfl⟩:=wn h
 have l1:=(mm e1).1
 have l2:=(mm e2).1
 have hUl:=ho.Ul
 have hn2:=ho.n2
 refine o7.of_vc ik [11,16,31,32,33,34,40,55,56,57,58,59,60,100034,100060] [1,5,7,10] Tryz.func161 rfl Tryz.ntmps161 rfl (by kernel_rfl) (RegG.via (fun _ h=>br [0] 5 (.tp [.v (.int .i64 ((j:Nat):Int))] 0) (FzP.ptr (b:=⟨0,[.v (.int .i64 ((j:Nat):Int))],0,false⟩) (agy.2 rfl) rfl rfl rfl rfl (fun i h1 h2=>match i,h1 with|0,_=>FzP.pure rfl)) rfl h) ?_)
 refine RegG.via (fun _ h=>br [1] 6 (.tp [.v (.int .i64 ((p:Nat):Int))] 0) (FzP.ptr (b:=⟨0,[.v (.int .i64 ((p:Nat):Int))],0,false⟩) (agy.2 rfl) rfl rfl rfl rfl (fun i h1 h2=>match i,h1 with|0,_=>FzP.pure rfl)) rfl h) (RegG.via (fun _ h=>br [2] 7 (.tp (bI q) 0) (FzP.ptr (b:=⟨0,bI q,0,false⟩) (agy.2 rfl) rfl rfl rfl rfl (fun i h1 h2=>match i,h1 with|0,_=>FzP.pure rfl|1,_=>FzP.pure rfl)) rfl h) ?_)
 refine ba (OpG.lk (LOp.makeFunc) ?_)
 refine OpG.lk (bo rfl Tryz.underlying197 rfl rfl rfl) (LpG.on (fun k0:Nat=>(⟨fL [(0,.ptr 1000000 0 0),(8,.clo 185 [.tp [.v (.int .i64 ((j:Nat):Int))] 0,.tp (bI q) 0,.tp [.v (.int .i64 ((p:Nat):Int))] 0]),(16,.v (.int .i64 ((s.U.length:Nat):Int))),(17,.v (.int .i64 ((k0:Nat):Int)))],hLz [(1000000,sB s),(1000001,s1 s),(1000002,s2 s),(1000003,⟨s.vU,rF rlA (U.take k0++s.U.drop k0),1,Nat.beq (U.take k0++s.U.drop k0).length 0⟩),(1000004,s4 s),(1000005,s5 s),(1000006,s6 s),(1000007,s7 s)],3⟩:St)) (fun k0=>(s.U.length-k0)) (fun k0=>(k0<=s.U.length)) 0 (cO (.cons rfl rfl (.cons rfl rfl (.cons rfl rfl (.cons rfl rfl .nil)))) (.cons rfl rfl rfl (.cons rfl rfl (aa ag _ _) (.cons rfl rfl (aa ai _ _) (.cons (by rfl) rfl (aa ah _ _) (.cons rfl rfl (aa ao _ _) (.cons rfl rfl (aa ab _ _) (.cons rfl rfl (aa ae _ _) (.cons rfl rfl (aa aj _ _) .nil))))))))) (ag6 _) ?_)
 rintro k0 h4
 have hle_k0:=h4
 refine cL (fun h3=>?_) (fun hge18=>?_)
 ·obtain⟨hk1,h9⟩:=Sp e1 h3
  have h5:=ho.U _ (agt h3)
  obtain⟨_,rfl,h6⟩:=S9 (s.U[k0]) (ac4 ho h5.2) j p q (U[k0]) h5.1 hq (by rw[h5.2];omega) h9
  refine ba (OpG.lk (bl (k:=k0) (L:=(U.take k0++s.U.drop k0)) ah Tryz.underlying197 Oy rfl rfl rfl h3 rfl (by rw[bw l1];omega)) ?_)
  refine OpG.lk (LOp.cellN (k:=k0) (o:=0) (L:=(U.take k0++s.U.drop k0)) (v:=.tree 2 (s.U[k0].map bI)) ah Bo rfl rfl (by rw[bw l1];omega) (by rw[k7 l1 h3];rfl)) (OpG.lk (jo Tv rfl rfl rfl h6) ?_)
  refine OpG.lk (bl (k:=k0) (L:=(U.take k0++s.U.drop k0)) ah Tryz.underlying197 Oy rfl rfl rfl h3 rfl (by rw[bw l1];omega)) (OpG.wr (jl (k:=k0) (o:=0) (L:=(U.take k0++s.U.drop k0)) (v:=U[k0]) ah Oy rfl rfl rfl rfl rfl rfl (by rw[bw l1];omega) (by decide) rfl) rfl ?_)
  refine⟨by kernel_rfl,⟨by omega,?_⟩⟩
  refine⟨(k0+1),by omega,(cO (.cons rfl rfl (.cons rfl rfl (.cons rfl rfl (.cons rfl rfl .nil)))) (.cons rfl rfl rfl (.cons rfl rfl (aa ag _ _) (.cons rfl rfl (aa ai _ _) (.cons (by(rw[el l1 (by omega) (fun _=>rfl)];rfl)) rfl (aa ah _ _) (.cons rfl rfl (aa ao _ _) (.cons rfl rfl (aa ab _ _) (.cons rfl rfl (aa ae _ _) (.cons rfl rfl (aa aj _ _) .nil))))))))),?_⟩
  omega
 refine RegG.via (fun _ h=>cd 1000003 ⟨s.vU,rF rlA U,1,Nat.beq U.length 0⟩ rfl (by rw[dq l1 (by omega)]) h) (ba ?_)
 refine OpG.lk (bo rfl Tryz.underlying198 rfl rfl rfl) (LpG.on (fun k2:Nat=>(⟨fL [(0,.ptr 1000000 0 0),(8,.clo 185 [.tp [.v (.int .i64 ((j:Nat):Int))] 0,.tp (bI q) 0,.tp [.v (.int .i64 ((p:Nat):Int))] 0]),(40,.v (.int .i64 ((s.I.length:Nat):Int))),(41,.v (.int .i64 ((k2:Nat):Int)))],hLz [(1000000,sB s),(1000001,s1 s),(1000002,s2 s),(1000003,⟨s.vU,rF rlA U,1,Nat.beq U.length 0⟩),(1000004,s4 s),(1000005,s5 s),(1000006,⟨s.vI,rF itA (I.take k2++s.I.drop k2),2,Nat.beq (I.take k2++s.I.drop k2).length 0⟩),(1000007,s7 s)],3⟩:St)) (fun k2=>(s.I.length-k2)) (fun k2=>(k2<=s.I.length)) 0 (cO (.cons rfl rfl (.cons rfl rfl (.cons rfl rfl (.cons rfl rfl .nil)))) (.cons rfl rfl rfl (.cons rfl rfl (aa ag _ _) (.cons rfl rfl (aa ai _ _) (.cons rfl rfl (aa ah _ _) (.cons rfl rfl (aa ao _ _) (.cons rfl rfl (aa ab _ _) (.cons (by rfl) rfl (aa ae _ _) (.cons rfl rfl (aa aj _ _) .nil))))))))) (ag6 _) ?_)
 rintro k2 h4
 have hle_k2:=h4
 refine cL (fun h0=>?_) (fun hge42=>?_)
 ·obtain⟨hk2,ha,hb⟩:=Ta e2 h0
  have h7:=ho.I _ (agt h0)
  obtain⟨_,rfl,h8⟩:=S9 (s.I[k2].g) (ac4 ho h7.2.1) j p q (I[k2].g) h7.1 hq (by rw[h7.2.1];omega) ha
  refine ba (OpG.lk (bl (k:=k2) (L:=(I.take k2++s.I.drop k2)) ae Tryz.underlying198 lg rfl rfl rfl h0 rfl (by rw[bw l2];omega)) ?_)
  refine OpG.lk (fv (L:=(I.take k2++s.I.drop k2)) (k:=k2) su rfl rfl rfl (by rw[bw l2];omega)) (OpG.lk (LOp.cellN (k:=k2) (o:=1) (L:=(I.take k2++s.I.drop k2)) (v:=.tree 2 (s.I[k2].g.map bI)) ae Bo rfl rfl (by rw[bw l2];omega) (by rw[k7 l2 h0];rfl)) ?_)
  refine OpG.lk (jo Tv rfl rfl rfl h8) (OpG.lk (bl (k:=k2) (L:=(I.take k2++s.I.drop k2)) ae Tryz.underlying198 lg rfl rfl rfl h0 rfl (by rw[bw l2];omega)) ?_)
  refine OpG.lk (fv (L:=(I.take k2++s.I.drop k2)) (k:=k2) su rfl rfl rfl (by rw[bw l2];omega)) (OpG.wr (jl (k:=k2) (o:=1) (L:=(I.take k2++s.I.drop k2)) (v:=I[k2]) ae Oy rfl rfl rfl rfl rfl rfl (by rw[bw l2];omega) (by decide) (Sm l2 h0 hb)) rfl ?_)
  refine⟨by kernel_rfl,⟨by omega,?_⟩⟩
  refine⟨(k2+1),by omega,(cO (.cons rfl rfl (.cons rfl rfl (.cons rfl rfl (.cons rfl rfl .nil)))) (.cons rfl rfl rfl (.cons rfl rfl (aa ag _ _) (.cons rfl rfl (aa ai _ _) (.cons rfl rfl (aa ah _ _) (.cons rfl rfl (aa ao _ _) (.cons rfl rfl (aa ab _ _) (.cons (by(rw[el l2 (by omega) (fun _=>rfl)];rfl)) rfl (aa ae _ _) (.cons rfl rfl (aa aj _ _) .nil))))))))),?_⟩
  omega
 refine⟨.inl rfl,_,Fg.of [] (aw rfl .nil) rfl ⟨.same (svU s U I l1 l2) (by decide),.same rfl (by decide),.same rfl (by decide),.same rfl (by decide),.same rfl (by decide),.same rfl (by decide),.same (zipI l2 (by omega)) (by decide),.same rfl (by decide),trivial⟩ .same,?_⟩
 rfl
theorem aa4(s s':OSt)(p:Nat)(ho:OOk s)(h:Q9 (tu p) s=some s'):o7 Tryz.prog 162 [.ptr 1000000 0 0,.v (.int .i64 ((p:Nat):Int))] [(1000000,sB s),(1000001,s1 s),(1000002,s2 s),(1000003,s3 s),(1000004,s4 s),(1000005,s5 s),(1000006,s6 s),(1000007,s7 s)] [(1000000,some (sB s')),(1000001,some (s1 s')),(1000002,some (s2 s')),(1000003,some (s3 s')),(1000004,some (s4 s')),(1000005,some (s5 s')),(1000006,some (s6 s')),(1000007,some (s7 s'))] (fun q=>q=.tup []):=by
 obtain⟨⟨z1,z2,z3,z4,z5,z6,z7,z8⟩,U,I,e1,e2,rfl⟩:=wn h
 have l1:=(mm e1).1
 have l2:=(mm e2).1
 have hUl:=ho.Ul
 have hn2:=ho.n2
 refine o7.of_vc ik [7,12,27,28,29,30,36,51,52,53,54,55,56,100030,100056] [1,5,7,10] Tryz.func162 rfl Tryz.ntmps162 rfl (by kernel_rfl) (RegG.via (fun _ h=>br [0] 3 (.tp [.v (.int .i64 ((p:Nat):Int))] 0) (FzP.ptr (b:=⟨0,[.v (.int .i64 ((p:Nat):Int))],0,false⟩) (agy.2 rfl) rfl rfl rfl rfl (fun i h1 h2=>match i,h1 with|0,_=>FzP.pure rfl)) rfl h) ?_)
 refine ba (OpG.lk (LOp.makeFunc) ?_)
 refine OpG.lk (bo rfl Tryz.underlying197 rfl rfl rfl) (LpG.on (fun k0:Nat=>(⟨fL [(0,.ptr 1000000 0 0),(4,.clo 186 [.tp [.v (.int .i64 ((p:Nat):Int))] 0]),(12,.v (.int .i64 ((s.U.length:Nat):Int))),(13,.v (.int .i64 ((k0:Nat):Int)))],hLz [(1000000,sB s),(1000001,s1 s),(1000002,s2 s),(1000003,⟨s.vU,rF rlA (U.take k0++s.U.drop k0),1,Nat.beq (U.take k0++s.U.drop k0).length 0⟩),(1000004,s4 s),(1000005,s5 s),(1000006,s6 s),(1000007,s7 s)],1⟩:St)) (fun k0=>(s.U.length-k0)) (fun k0=>(k0<=s.U.length)) 0 (cO (.cons rfl rfl (.cons rfl rfl (.cons rfl rfl (.cons rfl rfl .nil)))) (.cons rfl rfl rfl (.cons rfl rfl (aa ag _ _) (.cons rfl rfl (aa ai _ _) (.cons (by rfl) rfl (aa ah _ _) (.cons rfl rfl (aa ao _ _) (.cons rfl rfl (aa ab _ _) (.cons rfl rfl (aa ae _ _) (.cons rfl rfl (aa aj _ _) .nil))))))))) (ag6 _) ?_)
 rintro k0 h4
 have hle_k0:=h4
 refine cL (fun h3=>?_) (fun hge14=>?_)
 ·obtain⟨hk1,h9⟩:=Sp e1 h3
  have h5:=ho.U _ (agt h3)
  obtain⟨_,rfl,h6⟩:=Sf (s.U[k0]) (ac4 ho h5.2) p (U[k0]) h5.1 (by rw[h5.2];omega) h9
  refine ba (OpG.lk (bl (k:=k0) (L:=(U.take k0++s.U.drop k0)) ah Tryz.underlying197 Oy rfl rfl rfl h3 rfl (by rw[bw l1];omega)) ?_)
  refine OpG.lk (LOp.cellN (k:=k0) (o:=0) (L:=(U.take k0++s.U.drop k0)) (v:=.tree 2 (s.U[k0].map bI)) ah Bo rfl rfl (by rw[bw l1];omega) (by rw[k7 l1 h3];rfl)) (OpG.lk (jo Tu rfl rfl rfl h6) ?_)
  refine OpG.lk (bl (k:=k0) (L:=(U.take k0++s.U.drop k0)) ah Tryz.underlying197 Oy rfl rfl rfl h3 rfl (by rw[bw l1];omega)) (OpG.wr (jl (k:=k0) (o:=0) (L:=(U.take k0++s.U.drop k0)) (v:=U[k0]) ah Oy rfl rfl rfl rfl rfl rfl (by rw[bw l1];omega) (by decide) rfl) rfl ?_)
  refine⟨by kernel_rfl,⟨by omega,?_⟩⟩
  refine⟨(k0+1),by omega,(cO (.cons rfl rfl (.cons rfl rfl (.cons rfl rfl (.cons rfl rfl .nil)))) (.cons rfl rfl rfl (.cons rfl rfl (aa ag _ _) (.cons rfl rfl (aa ai _ _) (.cons (by(rw[el l1 (by omega) (fun _=>rfl)];rfl)) rfl (aa ah _ _) (.cons rfl rfl (aa ao _ _) (.cons rfl rfl (aa ab _ _) (.cons rfl rfl (aa ae _ _) (.cons rfl rfl (aa aj _ _) .nil))))))))),?_⟩
  omega
 refine RegG.via (fun _ h=>cd 1000003 ⟨s.vU,rF rlA U,1,Nat.beq U.length 0⟩ rfl (by rw[dq l1 (by omega)]) h) (ba ?_)
 refine OpG.lk (bo rfl Tryz.underlying198 rfl rfl rfl) (LpG.on (fun k2:Nat=>(⟨fL [(0,.ptr 1000000 0 0),(4,.clo 186 [.tp [.v (.int .i64 ((p:Nat):Int))] 0]),(36,.v (.int .i64 ((s.I.length:Nat):Int))),(37,.v (.int .i64 ((k2:Nat):Int)))],hLz [(1000000,sB s),(1000001,s1 s),(1000002,s2 s),(1000003,⟨s.vU,rF rlA U,1,Nat.beq U.length 0⟩),(1000004,s4 s),(1000005,s5 s),(1000006,⟨s.vI,rF itA (I.take k2++s.I.drop k2),2,Nat.beq (I.take k2++s.I.drop k2).length 0⟩),(1000007,s7 s)],1⟩:St)) (fun k2=>(s.I.length-k2)) (fun k2=>(k2<=s.I.length)) 0 (cO (.cons rfl rfl (.cons rfl rfl (.cons rfl rfl (.cons rfl rfl .nil)))) (.cons rfl rfl rfl (.cons rfl rfl (aa ag _ _) (.cons rfl rfl (aa ai _ _) (.cons rfl rfl (aa ah _ _) (.cons rfl rfl (aa ao _ _) (.cons rfl rfl (aa ab _ _) (.cons (by rfl) rfl (aa ae _ _) (.cons rfl rfl (aa aj _ _) .nil))))))))) (ag6 _) ?_)
 rintro k2 h4
 have hle_k2:=h4
 refine cL (fun h0=>?_) (fun hge38=>?_)
 ·obtain⟨hk2,ha,hb⟩:=Ta e2 h0
  have h7:=ho.I _ (agt h0)
  obtain⟨_,rfl,h8⟩:=Sf (s.I[k2].g) (ac4 ho h7.2.1) p (I[k2].g) h7.1 (by rw[h7.2.1];omega) ha
  refine ba (OpG.lk (bl (k:=k2) (L:=(I.take k2++s.I.drop k2)) ae Tryz.underlying198 lg rfl rfl rfl h0 rfl (by rw[bw l2];omega)) ?_)
  refine OpG.lk (fv (L:=(I.take k2++s.I.drop k2)) (k:=k2) su rfl rfl rfl (by rw[bw l2];omega)) (OpG.lk (LOp.cellN (k:=k2) (o:=1) (L:=(I.take k2++s.I.drop k2)) (v:=.tree 2 (s.I[k2].g.map bI)) ae Bo rfl rfl (by rw[bw l2];omega) (by rw[k7 l2 h0];rfl)) ?_)
  refine OpG.lk (jo Tu rfl rfl rfl h8) (OpG.lk (bl (k:=k2) (L:=(I.take k2++s.I.drop k2)) ae Tryz.underlying198 lg rfl rfl rfl h0 rfl (by rw[bw l2];omega)) ?_)
  refine OpG.lk (fv (L:=(I.take k2++s.I.drop k2)) (k:=k2) su rfl rfl rfl (by rw[bw l2];omega)) (OpG.wr (jl (k:=k2) (o:=1) (L:=(I.take k2++s.I.drop k2)) (v:=I[k2]) ae Oy rfl rfl rfl rfl rfl rfl (by rw[bw l2];omega) (by decide) (Sm l2 h0 hb)) rfl ?_)
  refine⟨by kernel_rfl,⟨by omega,?_⟩⟩
  refine⟨(k2+1),by omega,(cO (.cons rfl rfl (.cons rfl rfl (.cons rfl rfl (.cons rfl rfl .nil)))) (.cons rfl rfl rfl (.cons rfl rfl (aa ag _ _) (.cons rfl rfl (aa ai _ _) (.cons rfl rfl (aa ah _ _) (.cons rfl rfl (aa ao _ _) (.cons rfl rfl (aa ab _ _) (.cons (by(rw[el l2 (by omega) (fun _=>rfl)];rfl)) rfl (aa ae _ _) (.cons rfl rfl (aa aj _ _) .nil))))))))),?_⟩
  omega
 refine⟨.inl rfl,_,Fg.of [] (aw rfl .nil) rfl ⟨.same (svU s U I l1 l2) (by decide),.same rfl (by decide),.same rfl (by decide),.same rfl (by decide),.same rfl (by decide),.same rfl (by decide),.same (zipI l2 (by omega)) (by decide),.same rfl (by decide),trivial⟩ .same,?_⟩
 rfl
section
variable{G:List Int}{k:Nat}{p r:Int}
theorem Sx(hk:k<G.length)(h:pc G (G.drop k) k p=r)(hc:G[k]≠0/\(p<0\/aZ G[k]<aZ (G.getD p.toNat 0))):pc G (G.drop (k+1)) (k+1) (k:Int)=r:=by
 rw[aho hk]at h
 unfold pc at h
 rwa [ag2 hc]at h
theorem Sy(hk:k<G.length)(h:pc G (G.drop k) k p=r)(hc:¬(G[k]≠0/\(p<0\/aZ G[k]<aZ (G.getD p.toNat 0)))):pc G (G.drop (k+1)) (k+1) p=r:=by
 rw[aho hk]at h
 unfold pc at h
 rwa [ag1 hc]at h
theorem Vd(hk:¬k<G.length)(h:pc G (G.drop k) k p=r):p=r:=by
 rw[List.drop_of_length_le (by omega)]at h;exact h
end
structure KP where
 k:Nat
 p:Int
structure KI where
 k:Nat
 s:OSt
 b:Bool
section
variable{s s':OSt}{i k m p F:Nat}{G:List Int}{b:Bool}{R:OSt×Bool}{Z:OSt×Nat}
theorem Wa(hk:k<m)(h:B7 G p i (m-k) k s b=some R):∃(hi:i<s.I.length) (hj:k<s.I[i].g.length),((k≠p/\s.I[i].g[k]≠0)/\B1 (flD (G.getD k 0) (G.getD p 0))/\∃s2,Sk s k p (flD (G.getD k 0) (G.getD p 0))=some s2/\B7 G p i (m-(k+1)) (k+1) s2 false=some R)\/(¬(k≠p/\s.I[i].g[k]≠0)/\B7 G p i (m-(k+1)) (k+1) s b=some R):=by
 rw[show m-k=(m-(k+1))+1 by omega]at h
 unfold B7 at h
 split at h
 ·cases h
 ·next x e=>
  obtain⟨hi,rfl⟩:=ahn.1 e
  split at h
  ·cases h
  ·next c ec=>
   obtain⟨hj,rfl⟩:=ahn.1 ec
   refine⟨hi,hj,?_⟩
   split at h
   ·next hc=>
    split at h
    ·next hb=>
     split at h
     ·cases h
     ·next s2 e2=>exact .inl ⟨hc,hb,s2,e2,h⟩
    ·cases h
   ·next hc=>exact .inr ⟨hc,h⟩
theorem Wb(hk:¬k<m)(h:B7 G p i (m-k) k s b=some R):(s,b)=R:=by
 rw[show m-k=0 by omega]at h
 unfold B7 at h
 cases h;rfl
theorem L6(h:Gv i (F-k) s=some Z):k<F/\∃(hi:i<s.I.length) (P:Nat) (hP:P<s.I[i].g.length),mj s.I[i].g=((P:Nat):Int)/\s.I[i].g[P]≠0/\∃s1 b1,B7 s.I[i].g P i s.I[i].g.length 0 s true=some (s1,b1)/\
 ((b1=true/\((s.I[i].g[P]<0/\∃s2,Ik s1 P=some s2/\Z=(s2,P))\/(¬s.I[i].g[P]<0/\Z=(s1,P))))\/(b1=false/\Gv i (F-(k+1)) s1=some Z)):=by
 by_cases hF:k<F
 ·refine⟨hF,?_⟩
  rw[show F-k=(F-(k+1))+1 by omega]at h
  unfold Gv at h
  split at h
  ·cases h
  ·next x e=>
   obtain⟨hi,rfl⟩:=ahn.1 e
   split at h
   ·cases h
   ·next hc=>
    have h1:¬mj s.I[i].g<0:=fun g=>hc (.inl g)
    have h2:¬s.I[i].g.getD (mj s.I[i].g).toNat 0=0:=fun g=>hc (.inr g)
    have hP:(mj s.I[i].g).toNat<s.I[i].g.length:=by
     rcases Nat.lt_or_ge (mj s.I[i].g).toNat s.I[i].g.length with g|g
     ·exact g
     ·exact absurd (by simp[List.getD,List.getElem?_eq_none g]) h2
    have eP:s.I[i].g.getD (mj s.I[i].g).toNat 0=s.I[i].g[(mj s.I[i].g).toNat]:=by simp[List.getD,hP]
    rw[eP]at h h2
    refine⟨hi,(mj s.I[i].g).toNat,hP,(Int.toNat_of_nonneg (by omega)).symm,h2,?_⟩
    split at h
    ·cases h
    ·next s1 e1=>
     refine⟨s1,true,e1,.inl ⟨rfl,?_⟩⟩
     split at h
     ·next hn=>
      cases e2:Ik s1 (mj s.I[i].g).toNat with
      |none=>rw[e2]at h;cases h
      |some s2=>rw[e2]at h;cases h;exact .inl ⟨hn,s2,rfl,rfl⟩
     ·next hn=>cases h;exact .inr ⟨hn,rfl⟩
    ·next s1 e1=>exact⟨s1,false,e1,.inr ⟨rfl,h⟩⟩
 ·rw[show F-k=0 by omega]at h
  cases h
end
def eqF(i j p:Nat)(up down:ItS):List ItS->Nat->OSt->Option (OSt×Bool)
 |[],_,s=>some (s,true)
 |x::r,k,s=>if k=i\/k=j then eqF i j p up down r (k+1) s else match x.g[p]? with
  |none=>none
  |some c=>if c=0 then match Cv s x with
   |none=>none
   |some s'=>eqF i j p up down r (k+1) s'
   else match Dk s (x.g.set p 0) [⟨x.a,1⟩,if c<0 then⟨up.a,-c⟩else⟨down.a,c⟩]with
   |none=>none
   |some (s',ok)=>if ok then eqF i j p up down r (k+1) s' else some (s',false)
def eqO(s:OSt)(i j:Nat):Option (OSt×Bool):=match Gv i 1000 s with
 |none=>none
 |some (s1,p)=>match s1.I[i]?,s1.I[j]? with
  |some up,some down=>if p<s1.n/\SzS s1 then eqF i j p up down s1.I 0 {s1 with T:=s1.T.set p 1,V:=s1.V.set p (bnd s1 up),I:=[],vI:=s1.vI+1}else none
  |_,_=>none
section
variable{s s':OSt}{i j k p:Nat}{up down:ItS}{L:List ItS}{ok:Bool}{R:OSt×Bool}
theorem abc(hk:k<L.length)(h:eqF i j p up down (L.drop k) k s=some R):
 ((k=i\/k=j)/\eqF i j p up down (L.drop (k+1)) (k+1) s=some R)\/(¬(k=i\/k=j)/\∃hp:p<L[k].g.length,(L[k].g[p]=0/\∃s',Cv s L[k]=some s'/\eqF i j p up down (L.drop (k+1)) (k+1) s'=some R)\/
  (L[k].g[p]≠0/\∃s' ok,Dk s (L[k].g.set p 0) [⟨L[k].a,1⟩,if L[k].g[p]<0 then⟨up.a,-L[k].g[p]⟩else⟨down.a,L[k].g[p]⟩]=some (s',ok)/\((ok=true/\eqF i j p up down (L.drop (k+1)) (k+1) s'=some R)\/(ok=false/\R=(s',false))))):=by
 rw[aho hk]at h
 unfold eqF at h
 split at h
 ·next hc=>exact .inl ⟨hc,h⟩
 ·next hc=>
  refine .inr ⟨hc,?_⟩
  split at h
  ·cases h
  ·next c e=>
   obtain⟨hp,rfl⟩:=ahn.1 e
   refine⟨hp,?_⟩
   split at h
   ·next hz=>
    split at h
    ·cases h
    ·next s' ea=>exact .inl ⟨hz,s',ea,h⟩
   ·next hz=>
    refine .inr ⟨hz,?_⟩
    split at h
    ·cases h
    ·next s' ok ep=>
     refine⟨s',ok,ep,?_⟩
     split at h
     ·next ho=>exact .inl ⟨ho,h⟩
     ·next ho=>cases h;exact .inr ⟨by simpa using ho,rfl⟩
theorem abd(hk:¬k<L.length)(h:eqF i j p up down (L.drop k) k s=some R):(s,true)=R:=by
 rw[List.drop_of_length_le (by omega)]at h
 unfold eqF at h
 cases h;rfl
end
theorem aZ_b{x:Int}(h:B1 x):B1 (aZ x):=⟨by have:=mc x;omega,s8 h⟩
structure Sam(s t:OSt):Prop where
 ok:OOk t
 n:t.n=s.n
 K:t.K=s.K
 I:t.I.length=s.I.length
theorem uq{s:OSt}(h:OOk s):Sam s s:=⟨h,rfl,rfl,rfl⟩
theorem Sam.chg{s t t':OSt}{f:List Int->Option (List Int)}(h:Sam s t)(hf:R3 f)(e:Q9 f t=some t'):Sam s t':=by
 obtain⟨a,b,c,d⟩:=W6 hf e h.ok
 exact⟨a,b.trans h.n,c.trans h.K,d.trans h.I⟩
theorem Gz{l:List Int}{i:Nat}(h:i<l.length):l.getD i 0=l[i]:=by simp[List.getD,h]
theorem Tx:bv Tryz.prog 160=true:=by kernel_rfl
theorem ab3:bv Tryz.prog 161=true:=by kernel_rfl
theorem ab2:bv Tryz.prog 162=true:=by kernel_rfl
theorem L5(s s':OSt)(i p F:Nat)(hF:F<=1000000)(ho:OOk s)(h:Gv i (F-0) s=some (s',p)):o7 Tryz.prog 124 [.ptr 1000000 0 0,.v (.int .i64 ((i:Nat):Int))] [(1000000,sB s),(1000001,s1 s),(1000002,s2 s),(1000003,s3 s),(1000004,s4 s),(1000005,s5 s),(1000006,s6 s),(1000007,s7 s)] [(1000000,some (sB s')),(1000001,some (s1 s')),(1000002,some (s2 s')),(1000003,some (s3 s')),(1000004,some (s4 s')),(1000005,some (s5 s')),(1000006,some (s6 s')),(1000007,some (s7 s'))] (fun q=>q=.v (.int .i64 ((p:Nat):Int))):=by
 refine o7.of_vc ik [19,20,21,42,46,48,69,70,71,95,106] [] Tryz.func124 rfl Tryz.ntmps124 rfl (by kernel_rfl) ?_
 refine LpG.on (fun k0:KO=>(⟨fL [(0,.ptr 1000000 0 0),(1,.v (.int .i64 ((i:Nat):Int))),(5,.clo 160 [])],hLz [(1000000,sB k0.s),(1000001,s1 k0.s),(1000002,s2 k0.s),(1000003,s3 k0.s),(1000004,s4 k0.s),(1000005,s5 k0.s),(1000006,s6 k0.s),(1000007,s7 k0.s)],0⟩:St)) (fun k0=>(F-k0.k)) (fun k0=>(k0.k<=F/\(Gv i (F-k0.k) k0.s=some (s',p)/\Sam s k0.s))) (⟨0,s⟩:KO) (cO (.cons rfl rfl (.cons rfl rfl (.cons rfl rfl .nil))) (.cons rfl rfl rfl (.cons rfl rfl (aa ag _ _) (.cons rfl rfl (aa ai _ _) (.cons rfl rfl (aa ah _ _) (.cons rfl rfl (aa ao _ _) (.cons rfl rfl (aa ab _ _) (.cons rfl rfl (aa ae _ _) (.cons rfl rfl (aa aj _ _) .nil))))))))) ⟨ag6 _,⟨h,uq ho⟩⟩ ?_
 rintro k0 h5
 obtain⟨hle_k0,h2⟩:=h5
 obtain⟨hlt0,he,P,hP,hz,g0,s1x,b1x,g1,hf⟩:=L6 h2.1
 have hw:=h2.2.ok.I _ (agt he)
 have ha:=hw.1
 have hgl:k0.s.I[i].g.length<=1000:=by rw[hw.2.1];exact h2.2.ok.n2
 refine OpG.lk (bl (k:=i) ae Tryz.underlying198 lg rfl rfl rfl he rfl he) ?_
 refine OpG.lk (fv su rfl rfl rfl he) ?_
 refine OpG.lk (LOp.cellN (k:=i) (o:=1) ae Bo rfl rfl he rfl) ?_
 refine LenG.of (LpG.on (fun k2:KP=>(⟨fL [(0,.ptr 1000000 0 0),(1,.v (.int .i64 ((i:Nat):Int))),(5,.clo 160 []),(6,.tree 2 ((k0.s.I[i].g).map bI)),(7,.v (.int .i64 k2.p)),(23,.v (.int .i64 ((k0.s.I[i].g.length:Nat):Int))),(24,.v (.int .i64 ((k2.k:Nat):Int)))],hLz [(1000000,sB k0.s),(1000001,s1 k0.s),(1000002,s2 k0.s),(1000003,s3 k0.s),(1000004,s4 k0.s),(1000005,s5 k0.s),(1000006,s6 k0.s),(1000007,s7 k0.s)],0⟩:St)) (fun k2=>(k0.s.I[i].g.length-k2.k)) (fun k2=>(k2.k<=k0.s.I[i].g.length/\(pc k0.s.I[i].g (k0.s.I[i].g.drop k2.k) k2.k k2.p=mj k0.s.I[i].g/\(0<=k2.p->k2.p.toNat<k0.s.I[i].g.length)))) (⟨0,-1⟩:KP) (cO (.cons rfl rfl (.cons rfl rfl (.cons rfl rfl (.cons rfl rfl (.cons rfl rfl (.cons rfl rfl (.cons rfl rfl .nil))))))) (.cons rfl rfl rfl (.cons rfl rfl (aa ag _ _) (.cons rfl rfl (aa ai _ _) (.cons rfl rfl (aa ah _ _) (.cons rfl rfl (aa ao _ _) (.cons rfl rfl (aa ab _ _) (.cons rfl rfl (aa ae _ _) (.cons rfl rfl (aa aj _ _) .nil))))))))) ⟨ag6 _,⟨rfl,fun h=>absurd h (by decide)⟩⟩ ?_)
 rintro k2 h5
 obtain⟨hle_k2,h1⟩:=h5
 refine cL (fun h3=>?_) (fun hg=>?_)
 ·refine IdxG.of ‹_› (ArgG.mk (lh (x:=k0.s.I[i].g[k2.k]) (ha _ (agt _))) rfl ?_)
  rintro _ rfl
  refine cB (fun h6=>?_) (fun h6=>?_)
  ·have hr:¬(((sgZ (k0.s.I[i].g[k2.k])):Int)=(0:Int)):=by simpa using h6
   have hn:k0.s.I[i].g[k2.k]≠0:=fun e=>absurd h6 (by rw[e];decide)
   refine cD (fun hs=>?_) (fun hs=>?_)
   ·have hc:=Sx h3 h1.1 ⟨hn,.inl (by omega)⟩
    refine⟨by kernel_rfl,?_⟩
    refine cT ⟨by omega,⟨(⟨k2.k+1,((k2.k:Nat):Int)⟩:KP),(by show k0.s.I[i].g.length-(k2.k+1)<k0.s.I[i].g.length-k2.k;omega),(cO (.cons rfl rfl (.cons rfl rfl (.cons rfl rfl (.cons rfl rfl (.cons rfl rfl (.cons rfl rfl (.cons rfl rfl .nil))))))) (.cons rfl rfl rfl (.cons rfl rfl (aa ag _ _) (.cons rfl rfl (aa ai _ _) (.cons rfl rfl (aa ah _ _) (.cons rfl rfl (aa ao _ _) (.cons rfl rfl (aa ab _ _) (.cons rfl rfl (aa ae _ _) (.cons rfl rfl (aa aj _ _) .nil))))))))),?_⟩⟩
    refine⟨by show k2.k+1<=_;omega,?_⟩
    exact⟨hc,fun _=>by show(((k2.k:Nat):Int)).toNat<_;omega⟩
   have hx:0<=k2.p:=by omega
   have hp:=h1.2 hx
   obtain⟨_,rfl,hh⟩:=T3 (x:=k0.s.I[i].g[k2.k]) (ha _ (agt _))
   obtain⟨_,rfl,hi⟩:=T3 (x:=k0.s.I[i].g[k2.p.toNat]) (ha _ (agt hp))
   refine IdxG.of ‹_› (OpG.lk (jo Tx rfl rfl rfl hh) ?_)
   refine OpG.lk (cn Tryz.underlying66 jf rfl rfl (Int.toNat_of_nonneg hx).symm hp) ?_
   refine OpG.lk (jo Tx rfl rfl rfl hi) ?_
   refine ArgG.mk (l9 (x:=aZ k0.s.I[i].g[k2.k]) (y:=aZ k0.s.I[i].g[k2.p.toNat]) (aZ_b (ha _ (agt _))) (aZ_b (ha _ (agt _)))) rfl ?_
   rintro _ rfl
   refine⟨by kernel_rfl,?_⟩
   refine cB (fun h7=>?_) (fun h7=>?_)
   ·have ht:((sgZ (aZ k0.s.I[i].g[k2.k]-aZ k0.s.I[i].g[k2.p.toNat])):Int)<(0:Int):=ag4 h7
    have hc:=Sx h3 h1.1 ⟨hn,.inr (by rw[Gz hp];have:=Sl.1 (by simpa using h7);omega)⟩
    refine⟨by omega,?_⟩
    refine⟨(⟨k2.k+1,((k2.k:Nat):Int)⟩:KP),(by show k0.s.I[i].g.length-(k2.k+1)<k0.s.I[i].g.length-k2.k;omega),(cO (.cons rfl rfl (.cons rfl rfl (.cons rfl rfl (.cons rfl rfl (.cons rfl rfl (.cons rfl rfl (.cons rfl rfl .nil))))))) (.cons rfl rfl rfl (.cons rfl rfl (aa ag _ _) (.cons rfl rfl (aa ai _ _) (.cons rfl rfl (aa ah _ _) (.cons rfl rfl (aa ao _ _) (.cons rfl rfl (aa ab _ _) (.cons rfl rfl (aa ae _ _) (.cons rfl rfl (aa aj _ _) .nil))))))))),?_⟩
    refine⟨by show k2.k+1<=_;omega,?_⟩
    exact⟨hc,fun _=>by show(((k2.k:Nat):Int)).toNat<_;omega⟩
   have ht:¬(((sgZ (aZ k0.s.I[i].g[k2.k]-aZ k0.s.I[i].g[k2.p.toNat])):Int)<(0:Int)):=ag3 h7
   have hc:=Sy h3 h1.1 (fun c=>by rcases c.2 with c|c;omega;rw[Gz hp]at c;exact absurd (Sl.2 (show aZ k0.s.I[i].g[k2.k]-aZ k0.s.I[i].g[k2.p.toNat]<0 by omega)) (by simpa using h7))
   refine⟨by omega,?_⟩
   refine⟨(⟨k2.k+1,k2.p⟩:KP),(by show k0.s.I[i].g.length-(k2.k+1)<k0.s.I[i].g.length-k2.k;omega),(cO (.cons rfl rfl (.cons rfl rfl (.cons rfl rfl (.cons rfl rfl (.cons rfl rfl (.cons rfl rfl (.cons rfl rfl .nil))))))) (.cons rfl rfl rfl (.cons rfl rfl (aa ag _ _) (.cons rfl rfl (aa ai _ _) (.cons rfl rfl (aa ah _ _) (.cons rfl rfl (aa ao _ _) (.cons rfl rfl (aa ab _ _) (.cons rfl rfl (aa ae _ _) (.cons rfl rfl (aa aj _ _) .nil))))))))),?_⟩
   refine⟨by show k2.k+1<=_;omega,?_⟩
   exact⟨hc,h1.2⟩
  have hr:((sgZ (k0.s.I[i].g[k2.k])):Int)=(0:Int):=by simpa using h6
  have hn:k0.s.I[i].g[k2.k]=0:=sgZ_0.1 (by simpa using h6)
  have hc:=Sy h3 h1.1 (fun c=>c.1 hn)
  refine⟨by kernel_rfl,?_⟩
  refine cF ⟨by omega,⟨(⟨k2.k+1,k2.p⟩:KP),(by show k0.s.I[i].g.length-(k2.k+1)<k0.s.I[i].g.length-k2.k;omega),(cO (.cons rfl rfl (.cons rfl rfl (.cons rfl rfl (.cons rfl rfl (.cons rfl rfl (.cons rfl rfl (.cons rfl rfl .nil))))))) (.cons rfl rfl rfl (.cons rfl rfl (aa ag _ _) (.cons rfl rfl (aa ai _ _) (.cons rfl rfl (aa ah _ _) (.cons rfl rfl (aa ao _ _) (.cons rfl rfl (aa ab _ _) (.cons rfl rfl (aa ae _ _) (.cons rfl rfl (aa aj _ _) .nil))))))))),?_⟩⟩
  refine⟨by show k2.k+1<=_;omega,?_⟩
  exact⟨hc,h1.2⟩
 have g2:k2.p=((P:Nat):Int):=(Vd hg h1.1).trans hz
 rw[g2]
 refine LenG.of (LpG.on (fun k4:KI=>(⟨fL [(0,.ptr 1000000 0 0),(1,.v (.int .i64 ((i:Nat):Int))),(5,.clo 160 []),(6,.tree 2 ((k0.s.I[i].g).map bI)),(7,.v (.int .i64 ((P:Nat):Int))),(9,.v (.bool k4.b)),(56,.v (.int .i64 ((k0.s.I[i].g.length:Nat):Int))),(57,.v (.int .i64 ((k4.k:Nat):Int)))],hLz [(1000000,sB k4.s),(1000001,s1 k4.s),(1000002,s2 k4.s),(1000003,s3 k4.s),(1000004,s4 k4.s),(1000005,s5 k4.s),(1000006,s6 k4.s),(1000007,s7 k4.s)],0⟩:St)) (fun k4=>(k0.s.I[i].g.length-k4.k)) (fun k4=>(k4.k<=k0.s.I[i].g.length/\(B7 k0.s.I[i].g P i (k0.s.I[i].g.length-k4.k) k4.k k4.s k4.b=some (s1x,b1x)/\Sam s k4.s))) (⟨0,k0.s,true⟩:KI) (cO (.cons rfl rfl (.cons rfl rfl (.cons rfl rfl (.cons rfl rfl (.cons rfl rfl (.cons rfl rfl (.cons rfl rfl (.cons rfl rfl .nil)))))))) (.cons rfl rfl rfl (.cons rfl rfl (aa ag _ _) (.cons rfl rfl (aa ai _ _) (.cons rfl rfl (aa ah _ _) (.cons rfl rfl (aa ao _ _) (.cons rfl rfl (aa ab _ _) (.cons rfl rfl (aa ae _ _) (.cons rfl rfl (aa aj _ _) .nil))))))))) ⟨ag6 _,⟨g1,h2.2⟩⟩ ?_)
 rintro k4 h5
 obtain⟨hle_k4,h0⟩:=h5
 refine cL (fun hb=>?_) (fun hj=>?_)
 ·obtain⟨hk,g3,hd⟩:=Wa hb h0.1
  refine cN (fun hl=>?_) (fun hl=>?_)
  ·refine OpG.lk (bl (k:=i) ae Tryz.underlying198 lg rfl rfl rfl hk rfl hk) ?_
   refine OpG.lk (fv su rfl rfl rfl hk) ?_
   refine OpG.lk (LOp.cellN (k:=i) (o:=1) ae Bo rfl rfl hk rfl) ?_
   refine IdxG.of ‹_› (ArgG.mk (lh (x:=k4.s.I[i].g[k4.k]) ((h0.2.ok.I _ (agt hk)).1 _ (agt g3))) rfl ?_)
   rintro _ rfl
   refine cB (fun h4=>?_) (fun h4=>?_)
   ·have hu:¬(((sgZ (k4.s.I[i].g[k4.k])):Int)=(0:Int)):=by simpa using h4
    obtain⟨_,hy,sy,hv,hm⟩:=hd.resolve_right (fun k=>k.1 ⟨fun e=>hl (by omega),fun e=>by rw[e]at h4;simp[sgZ]at h4⟩)
    rw[Gz hb,Gz hP]at hy hv
    obtain⟨_,rfl,g4⟩:=Uz k4.s sy k4.k P _ hy h0.2.ok hv
    skip -- iT
    refine IdxG.of ‹_› (IdxG.of ‹_› ?_)
    refine ArgG.mk (pm (x:=k0.s.I[i].g[k4.k]) (y:=k0.s.I[i].g[P]) (ha _ (agt _)) (ha _ (agt _)) g0) rfl ?_
    rintro _ rfl
    refine⟨by kernel_rfl,?_⟩
    refine OpG.mk _ _ _ 2 (a8 [(1000000,1000000),(1000001,1000001),(1000002,1000002),(1000003,1000003),(1000004,1000004),(1000005,1000005),(1000006,1000006),(1000007,1000007)] ab3 g4 rfl rfl rfl rfl ⟨rfl,sX ag,sX ai,sX ah,sX ao,sX ab,sX ae,sX aj,trivial⟩ ⟨⟨rfl,.inl rfl⟩,av ag,av ai,av ah,av ao,av ab,av ae,av aj,trivial⟩ ⟨rfl,au ag _ _,au ai _ _,au ah _ _,au ao _ _,au ab _ _,au ae _ _,au aj _ _,trivial⟩ rfl rfl rfl rfl rr rfl) rfl rfl ?_
    refine⟨by omega,?_⟩
    refine⟨(⟨k4.k+1,sy,false⟩:KI),(by show k0.s.I[i].g.length-(k4.k+1)<k0.s.I[i].g.length-k4.k;omega),(cO (.cons rfl rfl (.cons rfl rfl (.cons rfl rfl (.cons rfl rfl (.cons rfl rfl (.cons rfl rfl (.cons rfl rfl (.cons rfl rfl .nil)))))))) (.cons rfl rfl rfl (.cons rfl rfl (aa ag _ _) (.cons rfl rfl (aa ai _ _) (.cons rfl rfl (aa ah _ _) (.cons rfl rfl (aa ao _ _) (.cons rfl rfl (aa ab _ _) (.cons rfl rfl (aa ae _ _) (.cons rfl rfl (aa aj _ _) .nil))))))))),?_⟩
    refine⟨by show k4.k+1<=_;omega,?_⟩
    exact⟨hm,h0.2.chg B5 hv⟩
   have hu:((sgZ (k4.s.I[i].g[k4.k])):Int)=(0:Int):=by simpa using h4
   have hm:=(hd.resolve_left (fun k=>k.1.2 (sgZ_0.1 (by simpa using h4)))).2
   skip -- iF
   refine⟨by omega,?_⟩
   refine⟨(⟨k4.k+1,k4.s,k4.b⟩:KI),(by show k0.s.I[i].g.length-(k4.k+1)<k0.s.I[i].g.length-k4.k;omega),(cO (.cons rfl rfl (.cons rfl rfl (.cons rfl rfl (.cons rfl rfl (.cons rfl rfl (.cons rfl rfl (.cons rfl rfl (.cons rfl rfl .nil)))))))) (.cons rfl rfl rfl (.cons rfl rfl (aa ag _ _) (.cons rfl rfl (aa ai _ _) (.cons rfl rfl (aa ah _ _) (.cons rfl rfl (aa ao _ _) (.cons rfl rfl (aa ab _ _) (.cons rfl rfl (aa ae _ _) (.cons rfl rfl (aa aj _ _) .nil))))))))),?_⟩
   refine⟨by show k4.k+1<=_;omega,?_⟩
   exact⟨hm,h0.2⟩
  have hm:=(hd.resolve_left (fun k=>absurd (show(k4.k:Int)=(P:Int)by omega) (fun e=>k.1.1 (by omega)))).2
  refine cF ⟨by omega,⟨(⟨k4.k+1,k4.s,k4.b⟩:KI),(by show k0.s.I[i].g.length-(k4.k+1)<k0.s.I[i].g.length-k4.k;omega),(cO (.cons rfl rfl (.cons rfl rfl (.cons rfl rfl (.cons rfl rfl (.cons rfl rfl (.cons rfl rfl (.cons rfl rfl (.cons rfl rfl .nil)))))))) (.cons rfl rfl rfl (.cons rfl rfl (aa ag _ _) (.cons rfl rfl (aa ai _ _) (.cons rfl rfl (aa ah _ _) (.cons rfl rfl (aa ao _ _) (.cons rfl rfl (aa ab _ _) (.cons rfl rfl (aa ae _ _) (.cons rfl rfl (aa aj _ _) .nil))))))))),?_⟩⟩
  refine⟨by show k4.k+1<=_;omega,?_⟩
  exact⟨hm,h0.2⟩
 have hR:=Wb hj h0.1
 cases hR
 refine cB (fun h8=>?_) (fun h8=>?_)
 ·have hq:=(hf.resolve_right (fun k=>by rw[k.1]at h8;cases h8)).2
  refine IdxG.of ‹_› (ArgG.mk (lh (x:=k0.s.I[i].g[P]) (ha _ (agt _))) rfl ?_)
  rintro _ rfl
  refine cD (fun h9=>?_) (fun h9=>?_)
  ·obtain⟨_,sy,g5,hZ⟩:=hq.resolve_right (fun k=>k.1 (Sl.1 h9))
   cases hZ
   obtain⟨_,rfl,g6⟩:=aa4 k4.s s' _ h0.2.ok g5
   refine OpG.mk _ _ _ 0 (a8 [(1000000,1000000),(1000001,1000001),(1000002,1000002),(1000003,1000003),(1000004,1000004),(1000005,1000005),(1000006,1000006),(1000007,1000007)] ab2 g6 rfl rfl rfl rfl ⟨rfl,sX ag,sX ai,sX ah,sX ao,sX ab,sX ae,sX aj,trivial⟩ ⟨⟨rfl,.inl rfl⟩,av ag,av ai,av ah,av ao,av ab,av ae,av aj,trivial⟩ ⟨rfl,au ag _ _,au ai _ _,au ah _ _,au ao _ _,au ab _ _,au ae _ _,au aj _ _,trivial⟩ rfl rfl rfl rfl rr rfl) rfl rfl ?_
   refine⟨.inr rfl,_,Fg.of [] (aw rfl (.cons (acn.tmp rfl) .nil)) rfl ⟨.same rfl (by decide),.same rfl (by decide),.same rfl (by decide),.same rfl (by decide),.same rfl (by decide),.same rfl (by decide),.same rfl (by decide),.same rfl (by decide),trivial⟩ .same,?_⟩
   rfl
  have hZ:=(hq.resolve_left (fun k=>h9 (Sl.2 k.1))).2
  cases hZ
  refine⟨.inr rfl,_,Fg.of [] (aw rfl (.cons (acn.tmp rfl) .nil)) rfl ⟨.same rfl (by decide),.same rfl (by decide),.same rfl (by decide),.same rfl (by decide),.same rfl (by decide),.same rfl (by decide),.same rfl (by decide),.same rfl (by decide),trivial⟩ .same,?_⟩
  rfl
 have hq:=(hf.resolve_left (fun k=>by rw[k.1]at h8;cases h8)).2
 refine⟨(⟨k0.k+1,k4.s⟩:KO),(by show F-(k0.k+1)<F-k0.k;omega),(cO (.cons rfl rfl (.cons rfl rfl (.cons rfl rfl .nil))) (.cons rfl rfl rfl (.cons rfl rfl (aa ag _ _) (.cons rfl rfl (aa ai _ _) (.cons rfl rfl (aa ah _ _) (.cons rfl rfl (aa ao _ _) (.cons rfl rfl (aa ab _ _) (.cons rfl rfl (aa ae _ _) (.cons rfl rfl (aa aj _ _) .nil))))))))),?_⟩
 refine⟨by show k0.k+1<=_;omega,?_⟩
 exact⟨hq,h0.2⟩
theorem Ab{G:List Int}{p i:Nat}{s0:OSt}:∀(f j:Nat) (s:OSt) (b:Bool) {s':OSt} {b':Bool} (_:B7 G p i f j s b=some (s',b')) (_:Sam s0 s),Sam s0 s'
 |0,j,s,b,s',b',h,hs=>by unfold B7 at h;cases h;exact hs
 |f+1,j,s,b,s',b',h,hs=>by
  unfold B7 at h
  split at h
  ·cases h
  ·split at h
   ·cases h
   ·split at h
    ·split at h
     ·split at h
      ·cases h
      ·next e=>exact Ab f _ _ _ h (hs.chg B5 e)
     ·cases h
    ·exact Ab f _ _ _ h hs
theorem uj{i:Nat}{s0:OSt}:∀(F:Nat) (s:OSt) {s':OSt} {p:Nat} (_:Gv i F s=some (s',p)) (_:Sam s0 s),Sam s0 s'/\p<s'.n
 |0,s,s',p,h,hs=>by cases h
 |F+1,s,s',p,h,hs=>by
  obtain⟨_,hi,P,hP,_,_,t1,b1,hR,hc⟩:=L6 (F:=F+1) (k:=0) (i:=i) (s:=s) h
  have h1:=Ab _ _ _ _ hR hs
  have h0:P<s0.n:=by rw[(hs.ok.I _ (agt hi)).2.1,hs.n]at hP;exact hP
  rcases hc with⟨_,⟨_,t2,h2,hZ⟩|⟨_,hZ⟩⟩|⟨_,hn⟩
  ·cases hZ
   have h3:=h1.chg L3 h2
   exact⟨h3,by rw[h3.n];exact h0⟩
  ·cases hZ;exact⟨h1,by rw[h1.n];exact h0⟩
  ·exact uj F t1 (by simpa using hn) h1
theorem abn{s s':OSt}{g:List Int}{us:List UsS}{x:ItS}{sm ok:Bool}(h0:0<us.length)(h:Iw s g us=some (s',x,sm,ok)):s.K.length<=s'.K.length:=by
 by_cases hc:1<us.length\/dOf g≠1
 ·obtain⟨_,q,_,rfl,_⟩:=Ap h hc
  simp
 ·obtain⟨j,hj,_,rfl,_⟩:=E0 h0 h hc
  exact ag8 _
theorem Zk{s s':OSt}{g:List Int}{us:List UsS}{ok:Bool}(h0:0<us.length)(hg:BL g)(hl:g.length=s.n)(ho:OOk s)(h:Dk s g us=some (s',ok)):s.K.length<=s'.K.length:=by
 obtain⟨t1,x,sm,hd,hc⟩:=Br h
 have h1:=abn h0 hd
 obtain⟨h2,_,h3⟩:=Ez hd ho h0 hg hl
 rcases hc with⟨_,ha⟩|⟨_,rfl⟩
 ·rw[(Fc ha h2 h3).2.2];exact h1
 ·exact h1
structure Lat(s t:OSt):Prop where
 ok:OOk t
 n:t.n=s.n
 K:s.K.length<=t.K.length
theorem Lat.it{s t:OSt}(h:Lat s t){x:ItS}(hx:Jq s x):Jq t x:=by
 obtain⟨a,b,j,c,d⟩:=hx
 exact⟨a,b.trans h.n.symm,j,c,Nat.lt_of_lt_of_le d h.K⟩
theorem Lat.add{s t t':OSt}{x:ItS}(h:Lat s t)(hx:Jq s x)(e:Cv t x=some t'):Lat s t':=by
 obtain⟨a,b,c⟩:=Fc e h.ok (h.it hx)
 exact⟨a,b.trans h.n,by rw[c];exact h.K⟩
theorem Lat.put{s t t':OSt}{g:List Int}{us:List UsS}{ok:Bool}(h:Lat s t)(h0:0<us.length)(hg:BL g)(hl:g.length=t.n)(e:Dk t g us=some (t',ok)):Lat s t':=by
 obtain⟨a,b⟩:=D9 e h.ok h0 hg hl
 exact⟨a,b.trans h.n,ahb h.K (Zk h0 hg hl h.ok e)⟩
abbrev Il(s:OSt)(p:Nat)(up:ItS):OSt:={s with T:=s.T.set p 1,V:=s.V.set p (bnd s up),I:=[],vI:=s.vI+1}
theorem L2{s:OSt}{p:Nat}{up:ItS}(h:OOk s)(hu:Jq s up):Lat s (Il s p up):=
 ⟨⟨h.n1,h.n2,h.K,fun x hx=>by simp at hx,h.Ul,h.U,by simpa using h.T,by simpa using h.Vl,q9 h.V (h.bB hu)⟩,rfl,ag8 _⟩
theorem G5{s s':OSt}{i j:Nat}{ok:Bool}(h:eqO s i j=some (s',ok)):∃(t:OSt) (p:Nat) (hi:i<t.I.length) (hj:j<t.I.length),Gv i (1000-0) s=some (t,p)/\p<t.n/\SzS t/\eqF i j p t.I[i] t.I[j] (t.I.drop 0) 0 (Il t p t.I[i])=some (s',ok):=by
 unfold eqO at h
 split at h
 ·cases h
 ·next t p e=>
  split at h
  ·next up down e1 e2=>
   obtain⟨hi,rfl⟩:=ahn.1 e1
   obtain⟨hj,rfl⟩:=ahn.1 e2
   split at h
   ·next hc=>exact⟨t,p,hi,hj,e,hc.1,hc.2,h⟩
   ·cases h
  ·cases h
theorem Gi{x:Int}(h:B1 x):B1 (-x):=⟨by omega,by omega⟩
theorem adz{s:OSt}{p:Nat}{x:ItS}:(⟨0,[.v (.int .i64 ((s.n:Nat):Int)),.sl 1000001 s.vK 0 s.K.length,.sl 1000002 s.vS 0 s.S.length,.sl 1000003 s.vU 0 s.U.length,.sl 1000004 0 0 s.T.length,.sl 1000005 0 0 s.V.length,.sl 1000006 (s.vI+1) 0 0,.sl 1000007 s.vE 0 s.E.length],0,false⟩:Blk)=sB (Il s p x):=by simp only[sB,List.length_set,ahg]
theorem ab8:bv Tryz.prog 124=true:=by kernel_rfl
theorem pl69:mi Tryz.prog 69=some [(0,1),(1,1)]:=by kernel_rfl
theorem Ww(s s':OSt)(i j:Nat)(ok:Bool)(ho:OOk s)(h:eqO s i j=some (s',ok)):o7 Tryz.prog 99 [.ptr 1000000 0 0,.v (.int .i64 ((i:Nat):Int)),.v (.int .i64 ((j:Nat):Int))] [(1000000,sB s),(1000001,s1 s),(1000002,s2 s),(1000003,s3 s),(1000004,s4 s),(1000005,s5 s),(1000006,s6 s),(1000007,s7 s)] [(1000000,some (sB s')),(1000001,some (s1 s')),(1000002,some (s2 s')),(1000003,some (s3 s')),(1000004,some (s4 s')),(1000005,some (s5 s')),(1000006,some (s6 s')),(1000007,some (s7 s'))] (fun q=>q=.v (.bool ok)):=by
 obtain⟨t,p,h8,hh,h9,hpn,⟨z1,z2,z3,z4,z5,z6,z7,z8⟩,he⟩:=G5 h
 obtain⟨hr,_⟩:=uj _ _ h9 (uq ho)
 have h3:=hr.ok
 have hTl:=h3.T
 have hVl:=h3.Vl
 have hs:=h3.n2
 obtain⟨_,rfl,ht⟩:=L5 s t i p 1000 (by decide) ho h9
 obtain⟨_,rfl,hi⟩:=Nx t t.I[i] (h3.I _ (agt h8))
 refine o7.of_vc ik [18,24,25,31,32,45,46,47,80,83,86,87,107,108,100046,100047,100087] [6,18] Tryz.func99 rfl Tryz.ntmps99 rfl (by kernel_rfl) (OpG.mk _ _ _ 0 (a8 [(1000000,1000000),(1000001,1000001),(1000002,1000002),(1000003,1000003),(1000004,1000004),(1000005,1000005),(1000006,1000006),(1000007,1000007)] ab8 ht rfl rfl rfl rfl ⟨rfl,sX ag,sX ai,sX ah,sX ao,sX ab,sX ae,sX aj,trivial⟩ ⟨⟨rfl,.inl rfl⟩,av ag,av ai,av ah,av ao,av ab,av ae,av aj,trivial⟩ ⟨rfl,au ag _ _,au ai _ _,au ah _ _,au ao _ _,au ab _ _,au ae _ _,au aj _ _,trivial⟩ rfl rfl rfl rfl rr rfl) rfl rfl ?_)
 refine OpG.lk (bl (k:=i) ae Tryz.underlying198 lg rfl rfl rfl h8 rfl h8) (OpG.lk (fu (k:=i) ae lp rfl rfl h8) ?_)
 refine OpG.lk (bl (k:=j) ae Tryz.underlying198 lg rfl rfl rfl hh rfl hh) (OpG.lk (fu (k:=j) ae lp rfl rfl hh) ?_)
 refine⟨by kernel_rfl,OpG.lk (cw (a8 [(1000000,1000000),(1000001,1000001),(1000002,1000002),(1000003,1000003),(1000004,1000004),(1000005,1000005),(1000006,1000006),(1000007,1000007)] tk hi rfl rfl rfl rfl ⟨rfl,sX ag,sX ai,sX ah,sX ao,sX ab,sX ae,sX aj,trivial⟩ ⟨⟨rfl,.inl rfl⟩,av ag,av ai,av ah,av ao,av ab,av ae,av aj,trivial⟩ ⟨rfl,au ag _ _,au ai _ _,au ah _ _,au ao _ _,au ab _ _,au ae _ _,au aj _ _,trivial⟩ rfl rfl rfl rfl rr rfl) ⟨⟨.head _,rfl,rfl⟩,⟨.tail _ (.head _),rfl,rfl⟩,⟨.tail _ (.tail _ (.head _)),rfl,rfl⟩,⟨.tail _ (.tail _ (.tail _ (.head _))),rfl,rfl⟩,⟨.tail _ (.tail _ (.tail _ (.tail _ (.head _)))),rfl,rfl⟩,⟨.tail _ (.tail _ (.tail _ (.tail _ (.tail _ (.head _))))),rfl,rfl⟩,⟨.tail _ (.tail _ (.tail _ (.tail _ (.tail _ (.tail _ (.head _)))))),rfl,rfl⟩,⟨.tail _ (.tail _ (.tail _ (.tail _ (.tail _ (.tail _ (.tail _ (.head _))))))),rfl,rfl⟩,trivial⟩) ?_⟩
 refine OpG.lk (bl (k:=p) ao Tryz.underlying58 sz3 rfl rfl rfl (by omega) rfl (by omega)) (OpG.wr (jl (k:=p) (o:=0) (v:=1) ao sz3 rfl rfl rfl rfl rfl rfl (by omega) (by decide) rfl) rfl ?_)
 refine OpG.lk (bl (k:=p) ab Tryz.underlying66 jf rfl rfl rfl (by omega) rfl (by omega)) (OpG.wr (jl (k:=p) (o:=0) (v:=bnd t t.I[i]) ab jf rfl rfl rfl rfl rfl rfl (by omega) (by decide) rfl) rfl ?_)
 refine⟨by kernel_rfl,RegG.via (fun _ h=>Ox 1000006 1000000 10 t.vI 0 0 2 (.tree 2 (t.I.map itA)) rfl rfl rfl rfl (FzP.rows ae (agy.2 rfl) rfl) (.keep (.keep (.keep (.keep (.keep (.keep (.here _))))))) h) ?_⟩
 refine RegG.via (fun _ h=>cd 1000000 (sB (Il t p t.I[i])) rfl (adz) h) (ba ?_)
 refine LenG.of (LpG.on (fun k0:KO=>(⟨fL [(0,.ptr 1000000 0 0),(1,.v (.int .i64 ((i:Nat):Int))),(2,.v (.int .i64 ((j:Nat):Int))),(7,.v (.int .i64 ((p:Nat):Int))),(8,.ptr 0 0 0),(9,.ptr 1 0 0),(55,.tree 2 (t.I.map itA)),(56,.v (.int .i64 ((t.I.length:Nat):Int))),(57,.v (.int .i64 ((k0.k:Nat):Int)))],hLz [(0,⟨0,itA t.I[i],0,false⟩),(1,⟨0,itA t.I[j],0,false⟩),(1000000,sB k0.s),(1000001,s1 k0.s),(1000002,s2 k0.s),(1000003,s3 k0.s),(1000004,s4 k0.s),(1000005,s5 k0.s),(1000006,s6 k0.s),(1000007,s7 k0.s)],2⟩:St)) (fun k0=>(t.I.length-k0.k)) (fun k0=>(k0.k<=t.I.length/\(eqF i j p t.I[i] t.I[j] (t.I.drop k0.k) k0.k k0.s=some (s',ok)/\Lat t k0.s))) (⟨0,Il t p t.I[i]⟩:KO) (cO (.cons rfl rfl (.cons rfl rfl (.cons rfl rfl (.cons rfl rfl (.cons rfl rfl (.cons rfl rfl (.cons rfl rfl (.cons rfl rfl (.cons rfl rfl .nil))))))))) (.cons rfl rfl rfl (.cons rfl rfl rfl (.cons rfl rfl rfl (.cons rfl rfl (aa ag _ _) (.cons rfl rfl (aa ai _ _) (.cons rfl rfl (aa ah _ _) (.cons rfl rfl (aa ao _ _) (.cons rfl rfl (aa ab _ _) (.cons rfl rfl (aa ae _ _) (.cons rfl rfl (aa aj _ _) .nil))))))))))) ⟨ag6 _,⟨he,L2 h3 (h3.I _ (agt h8))⟩⟩ ?_)
 rintro k0 hj
 obtain⟨hle_k0,h1⟩:=hj
 refine cL (fun h0=>?_) (fun hb=>?_)
 ·have hk:=abc h0 h1.1
  refine IdxG.of ‹_› (cE (fun hl=>?_) (fun hl=>?_))
  have h5:=(hk.resolve_right (fun k=>k.1 (.inl (by omega)))).2
  skip -- u0
  refine cT ⟨by omega,⟨(⟨k0.k+1,k0.s⟩:KO),(by show t.I.length-(k0.k+1)<t.I.length-k0.k;omega),(cO (.cons rfl rfl (.cons rfl rfl (.cons rfl rfl (.cons rfl rfl (.cons rfl rfl (.cons rfl rfl (.cons rfl rfl (.cons rfl rfl (.cons rfl rfl .nil))))))))) (.cons rfl rfl rfl (.cons rfl rfl rfl (.cons rfl rfl rfl (.cons rfl rfl (aa ag _ _) (.cons rfl rfl (aa ai _ _) (.cons rfl rfl (aa ah _ _) (.cons rfl rfl (aa ao _ _) (.cons rfl rfl (aa ab _ _) (.cons rfl rfl (aa ae _ _) (.cons rfl rfl (aa aj _ _) .nil))))))))))),?_⟩⟩
  exact⟨by show k0.k+1<=_;omega,⟨h5,h1.2⟩⟩
  refine cE (fun hm=>?_) (fun hm=>?_)
  ·have h5:=(hk.resolve_right (fun k=>k.1 (.inr (by omega)))).2
   skip -- u0
   refine⟨by omega,⟨(⟨k0.k+1,k0.s⟩:KO),(by show t.I.length-(k0.k+1)<t.I.length-k0.k;omega),(cO (.cons rfl rfl (.cons rfl rfl (.cons rfl rfl (.cons rfl rfl (.cons rfl rfl (.cons rfl rfl (.cons rfl rfl (.cons rfl rfl (.cons rfl rfl .nil))))))))) (.cons rfl rfl rfl (.cons rfl rfl rfl (.cons rfl rfl rfl (.cons rfl rfl (aa ag _ _) (.cons rfl rfl (aa ai _ _) (.cons rfl rfl (aa ah _ _) (.cons rfl rfl (aa ao _ _) (.cons rfl rfl (aa ab _ _) (.cons rfl rfl (aa ae _ _) (.cons rfl rfl (aa aj _ _) .nil))))))))))),?_⟩⟩
   exact⟨by show k0.k+1<=_;omega,⟨h5,h1.2⟩⟩
  obtain⟨_,hp,hc⟩:=hk.resolve_left (fun k=>by rcases k.1 with k|k<;>omega)
  have hn:t.I[k0.k].g.length=k0.s.n:=(h3.I _ (agt h0)).2.1.trans h1.2.n.symm
  have hgm:t.I[k0.k].g.length<=1000:=by rw[(h3.I _ (agt h0)).2.1];exact hs
  refine IdxG.of ‹_› (ArgG.mk (lh (x:=t.I[k0.k].g[p]) ((h3.I _ (agt h0)).1 _ (agt hp))) rfl ?_)
  rintro _ rfl
  refine cE (fun h6=>?_) (fun h6=>?_)
  ·obtain⟨_,sy,ha,h5⟩:=hc.resolve_right (fun k=>k.1 (sgZ_0.1 h6))
   have hf:=h1.2.add (h3.I _ (agt h0)) ha
   obtain⟨_,rfl,hu⟩:=ack k0.s sy t.I[k0.k] h1.2.ok (h1.2.it (h3.I _ (agt h0))) ha
   skip -- u1
   refine OpG.mk _ _ _ 4 (a8 [(1000000,1000000),(1000001,1000001),(1000002,1000002),(1000003,1000003),(1000004,1000004),(1000005,1000005),(1000006,1000006),(1000007,1000007)] Ty hu rfl rfl rfl rfl ⟨rfl,sX ag,sX ai,sX ah,sX ao,sX ab,sX ae,sX aj,trivial⟩ ⟨⟨rfl,.inl rfl⟩,av ag,av ai,av ah,av ao,av ab,av ae,av aj,trivial⟩ ⟨rfl,au ag _ _,au ai _ _,au ah _ _,au ao _ _,au ab _ _,au ae _ _,au aj _ _,trivial⟩ rfl rfl rfl rfl rr rfl) rfl rfl ⟨by omega,⟨(⟨k0.k+1,sy⟩:KO),(by show t.I.length-(k0.k+1)<t.I.length-k0.k;omega),(cO (.cons rfl rfl (.cons rfl rfl (.cons rfl rfl (.cons rfl rfl (.cons rfl rfl (.cons rfl rfl (.cons rfl rfl (.cons rfl rfl (.cons rfl rfl .nil))))))))) (.cons rfl rfl rfl (.cons rfl rfl rfl (.cons rfl rfl rfl (.cons rfl rfl (aa ag _ _) (.cons rfl rfl (aa ai _ _) (.cons rfl rfl (aa ah _ _) (.cons rfl rfl (aa ao _ _) (.cons rfl rfl (aa ab _ _) (.cons rfl rfl (aa ae _ _) (.cons rfl rfl (aa aj _ _) .nil))))))))))),?_⟩⟩
   exact⟨by show k0.k+1<=_;omega,⟨h5,hf⟩⟩
  obtain⟨_,sy,okx,hd,hg⟩:=hc.resolve_left (fun k=>h6 (sgZ_0.2 k.1))
  have hf:=h1.2.put (by simp) (q9 (h3.I _ (agt h0)).1 Do) (by rw[List.length_set];exact hn) hd
  refine OpG.mk _ _ _ 5 (a8 [(0,4)] Rh (o8 ac8 ab t.I[k0.k].g (by omega) (by omega)) rfl rfl rfl rfl trivial trivial ⟨au ab _ _,trivial⟩ rfl rfl rfl rfl (l7 ab rfl) rfl) rfl rfl (OpG.lk (Xw (Oq Dj pl69 rfl rfl) (fun _=>ky (.cons (.pure rfl) (.cons (FzP.nil (n:=1)) .nil)))) ?_)
  refine OpG.lk (ak (k:=p) ab Tryz.underlying66 jf rfl rfl rfl hp rfl) (OpG.wr (az (k:=p) (o:=0) (v:=0) ab jf rfl rfl rfl rfl rfl rfl hp (by decide) rfl) rfl ?_)
  refine ArgG.mk (lh (x:=t.I[k0.k].g[p]) ((h3.I _ (agt h0)).1 _ (agt hp))) rfl ?_
  rintro _ rfl
  refine cD (fun h7=>?_) (fun h7=>?_)
  ·rw[ag2 (Sl.1 h7)]at hd
   skip -- uT
   refine ArgG.mk (v8 (x:=t.I[k0.k].g[p]) ((h3.I _ (agt h0)).1 _ (agt hp))) rfl ?_
   rintro _ rfl
   refine⟨by kernel_rfl,RegG.via (fun _ h=>br [4] 14 (.tree 2 ((t.I[k0.k].g.set p 0).map bI)) (bn ab (agy.2 rfl) rfl (by simp)) rfl h) ?_⟩
   obtain⟨_,rfl,hq⟩:=Pz (t.I[k0.k].g.set p 0) [(⟨t.I[k0.k].a,1⟩:UsS),(⟨t.I[i].a,-t.I[k0.k].g[p]⟩:UsS)] k0.s sy okx h1.2.ok (by rw[List.length_set];exact hn) (q9 (h3.I _ (agt h0)).1 Do) (fun w hw=>by(rcases ahk.1 hw with rfl|hw;exact Xj;rw[agy.1 hw];exact Gi ((h3.I _ (agt h0)).1 _ (agt hp)))) (by simp) (by simp) (fun h=>absurd h (by simp)) hd
   refine ba (ArgG.mk (nq (n:=1) ⟨by decide,by decide⟩) rfl ?_)
   rintro _ rfl
   refine OpG.nw (fx (je Tryz.underlying228 Pe O5 rfl rfl rfl rfl) (fun η' h=>cx (f:=usA) (l:=[(⟨t.I[k0.k].a,1⟩:UsS),(⟨t.I[i].a,-t.I[k0.k].g[p]⟩:UsS)]) (agy.2 rfl) h rfl rfl rfl rfl rfl (fun a _=>⟨rfl,rfl⟩))) rfl (OpG.mk _ _ _ 7 (a8 [(1000000,1000000),(1000001,1000001),(1000002,1000002),(1000003,1000003),(1000004,1000004),(1000005,1000005),(1000006,1000006),(1000007,1000007)] Rg hq rfl rfl rfl rfl ⟨rfl,sX ag,sX ai,sX ah,sX ao,sX ab,sX ae,sX aj,trivial⟩ ⟨⟨rfl,.inl rfl⟩,av ag,av ai,av ah,av ao,av ab,av ae,av aj,trivial⟩ ⟨rfl,au ag _ _,au ai _ _,au ah _ _,au ao _ _,au ab _ _,au ae _ _,au aj _ _,trivial⟩ rfl rfl rfl rfl rr rfl) rfl rfl ?_)
   refine⟨by kernel_rfl,cB (fun h2=>?_) (fun h2=>?_)⟩
   ·have hR:=(hg.resolve_left (fun k=>by rw[k.1]at h2;cases h2)).2
    cases hR
    refine⟨.inr rfl,_,Fg.of [] (aw rfl (.cons (acn.tmp rfl) .nil)) rfl ⟨.same rfl (by decide),.same rfl (by decide),.same rfl (by decide),.same rfl (by decide),.same rfl (by decide),.same rfl (by decide),.same rfl (by decide),.same rfl (by decide),trivial⟩ .same,?_⟩
    rfl
   have h5:=(hg.resolve_right (fun k=>by rw[k.1]at h2;cases h2)).2
   refine⟨by omega,⟨(⟨k0.k+1,sy⟩:KO),(by show t.I.length-(k0.k+1)<t.I.length-k0.k;omega),(cO (.cons rfl rfl (.cons rfl rfl (.cons rfl rfl (.cons rfl rfl (.cons rfl rfl (.cons rfl rfl (.cons rfl rfl (.cons rfl rfl (.cons rfl rfl .nil))))))))) (.cons rfl rfl rfl (.cons rfl rfl rfl (.cons rfl rfl rfl (.cons rfl rfl (aa ag _ _) (.cons rfl rfl (aa ai _ _) (.cons rfl rfl (aa ah _ _) (.cons rfl rfl (aa ao _ _) (.cons rfl rfl (aa ab _ _) (.cons rfl rfl (aa ae _ _) (.cons rfl rfl (aa aj _ _) .nil))))))))))),?_⟩⟩
   exact⟨by show k0.k+1<=_;omega,⟨h5,hf⟩⟩
  rw[ag1 (fun k=>h7 (Sl.2 k))]at hd
  skip -- uF
  refine RegG.via (fun _ h=>br [4] 14 (.tree 2 ((t.I[k0.k].g.set p 0).map bI)) (bn ab (agy.2 rfl) rfl (by simp)) rfl h) ?_
  obtain⟨_,rfl,hq⟩:=Pz (t.I[k0.k].g.set p 0) [(⟨t.I[k0.k].a,1⟩:UsS),(⟨t.I[j].a,t.I[k0.k].g[p]⟩:UsS)] k0.s sy okx h1.2.ok (by rw[List.length_set];exact hn) (q9 (h3.I _ (agt h0)).1 Do) (fun w hw=>by(rcases ahk.1 hw with rfl|hw;exact Xj;rw[agy.1 hw];exact((h3.I _ (agt h0)).1 _ (agt hp)))) (by simp) (by simp) (fun h=>absurd h (by simp)) hd
  refine ba (ArgG.mk (nq (n:=1) ⟨by decide,by decide⟩) rfl ?_)
  rintro _ rfl
  refine OpG.nw (fx (je Tryz.underlying228 Pe O5 rfl rfl rfl rfl) (fun η' h=>cx (f:=usA) (l:=[(⟨t.I[k0.k].a,1⟩:UsS),(⟨t.I[j].a,t.I[k0.k].g[p]⟩:UsS)]) (agy.2 rfl) h rfl rfl rfl rfl rfl (fun a _=>⟨rfl,rfl⟩))) rfl (OpG.mk _ _ _ 7 (a8 [(1000000,1000000),(1000001,1000001),(1000002,1000002),(1000003,1000003),(1000004,1000004),(1000005,1000005),(1000006,1000006),(1000007,1000007)] Rg hq rfl rfl rfl rfl ⟨rfl,sX ag,sX ai,sX ah,sX ao,sX ab,sX ae,sX aj,trivial⟩ ⟨⟨rfl,.inl rfl⟩,av ag,av ai,av ah,av ao,av ab,av ae,av aj,trivial⟩ ⟨rfl,au ag _ _,au ai _ _,au ah _ _,au ao _ _,au ab _ _,au ae _ _,au aj _ _,trivial⟩ rfl rfl rfl rfl rr rfl) rfl rfl ?_)
  refine⟨by kernel_rfl,cB (fun h2=>?_) (fun h2=>?_)⟩
  ·have hR:=(hg.resolve_left (fun k=>by rw[k.1]at h2;cases h2)).2
   cases hR
   refine⟨.inr rfl,_,Fg.of [] (aw rfl (.cons (acn.tmp rfl) .nil)) rfl ⟨.same rfl (by decide),.same rfl (by decide),.same rfl (by decide),.same rfl (by decide),.same rfl (by decide),.same rfl (by decide),.same rfl (by decide),.same rfl (by decide),trivial⟩ .same,?_⟩
   rfl
  have h5:=(hg.resolve_right (fun k=>by rw[k.1]at h2;cases h2)).2
  refine⟨by omega,⟨(⟨k0.k+1,sy⟩:KO),(by show t.I.length-(k0.k+1)<t.I.length-k0.k;omega),(cO (.cons rfl rfl (.cons rfl rfl (.cons rfl rfl (.cons rfl rfl (.cons rfl rfl (.cons rfl rfl (.cons rfl rfl (.cons rfl rfl (.cons rfl rfl .nil))))))))) (.cons rfl rfl rfl (.cons rfl rfl rfl (.cons rfl rfl rfl (.cons rfl rfl (aa ag _ _) (.cons rfl rfl (aa ai _ _) (.cons rfl rfl (aa ah _ _) (.cons rfl rfl (aa ao _ _) (.cons rfl rfl (aa ab _ _) (.cons rfl rfl (aa ae _ _) (.cons rfl rfl (aa aj _ _) .nil))))))))))),?_⟩⟩
  exact⟨by show k0.k+1<=_;omega,⟨h5,hf⟩⟩
 have hR:=abd hb h1.1
 cases hR
 refine⟨.inr rfl,_,Fg.of [] (aw rfl (.cons (acn.tmp rfl) .nil)) rfl ⟨.same rfl (by decide),.same rfl (by decide),.same rfl (by decide),.same rfl (by decide),.same rfl (by decide),.same rfl (by decide),.same rfl (by decide),.same rfl (by decide),trivial⟩ .same,?_⟩
 rfl
end Go.Proofs.YtmbmbhkemgmhfaaGreatDoor
