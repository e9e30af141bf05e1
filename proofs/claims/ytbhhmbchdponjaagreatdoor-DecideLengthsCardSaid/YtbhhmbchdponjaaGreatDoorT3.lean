/- Texts of the claim. -/
import Derived.Test.YtbhhmbchdponjaaGreatDoorT2
import Derived.Test.YtbhhmbchdponjaaGreatDoorQ2
namespace Go.Proofs.YtbhhmbchdponjaaGreatDoor
set_option maxRecDepth 1000000
set_option maxHeartbeats 0
set_option linter.unusedVariables false
set_option linter.unusedSimpArgs false
open Go.RowKit
theorem Xi(x:Int):bI (aZ x)=[.v (.bool false),.tree 1 ((bgI x).a_.map cx)]:=by
 have h0:=im x
 have h1:aZ (aZ x)=aZ x:=by unfold aZ at *;split<;>(try split)<;>omega
 show[AV.v (.bool (bgI (aZ x)).b_),AV.tree 1 ((bgI (aZ x)).a_.map cx)]=_
 rw[b6,ed,ed,h1,decide_eq_false (by omega)]
theorem aca{s:OSt}(ho:OOk s){l:List Int}(h:l.length=s.n):ip l (fun _=>True):=⟨by rw[h];have:=ho.n2;omega,fun _ _=>trivial⟩
section
variable{f:List Int->Option (List Int)}{l r:List ItS}{U V:List (List Int)}{k:Nat}
theorem S4(h:Pz (Zt f) l=some r)(hk:k<l.length):∃hk':k<r.length,f l[k].g=some r[k].g/\r[k].a=l[k].a:=by
 obtain⟨h1,h2⟩:=mu h
 exact⟨by omega,B5 (h2 k hk (by omega))⟩
theorem Se(h:Pz f U=some V)(hk:k<U.length):∃hk':k<V.length,f U[k]=some V[k]:=by
 obtain⟨h1,h2⟩:=mu h
 exact⟨by omega,h2 k hk (by omega)⟩
end
theorem Sb{l r:List ItS}{k:Nat}(h:r.length=l.length)(hk:k<l.length){h1:k<r.length}{h2:k<(r.take k++l.drop k).length}(ha:r[k].a=l[k].a):bg (itA ((r.take k++l.drop k)[k]'h2)) 1 [.tree 2 (r[k].g.map bI)]=itA r[k]:=by
 rw[r8 h hk]
 show[AV.v (.int .i64 l[k].a),.tree 2 (r[k].g.map bI)]=[AV.v (.int .i64 r[k].a),.tree 2 (r[k].g.map bI)]
 rw[ha]
theorem zipI{s:OSt}{I:List ItS}{k v:Nat}(h:I.length=s.I.length)(hk:¬k<s.I.length):some (⟨v,rF itA (I.take k++s.I.drop k),2,Nat.beq (I.take k++s.I.drop k).length 0⟩:Blk)=some ⟨v,rF itA I,2,Nat.beq I.length 0⟩:=by rw[ig h hk]
theorem svU(s:OSt)(U:List (List Int))(I:List ItS)(h1:U.length=s.U.length)(h2:I.length=s.I.length):some (sB s)=some (sB {s with U:=U,I:=I}):=by simp only[sB,h1,h2]
theorem Tz:bw Tryz.prog 243=true:=by kernel_rfl
theorem Ty:bw Tryz.prog 244=true:=by kernel_rfl
theorem s9:dx Tryz.prog 242 1=some (1,1):=by kernel_rfl
theorem Ot:ao Tryz.prog 45=some 1:=by kernel_rfl
theorem S0(l:List Int)(hl:ip l (fun y=>True))(j p:Nat)(q:Int)(r:List Int)(hb:BL l)(hq:B1 q)(hs:l.length<=1000000)(h:Ig j p q l=some r):PRet Tryz.prog 243 [.tree 2 (l.map bI),.tp [.v (.int .i64 ((j:Nat):Int))] 0,.tp (bI q) 0,.tp [.v (.int .i64 ((p:Nat):Int))] 0] (fun x=>x=.tree 2 (r.map bI)):=by
 obtain⟨hj,hp,ha,hc,rfl⟩:=yi h
 refine ovT [7,12,13,17,18,21,100021] [] Tryz.func243 rfl rfl (OpG.mk _ _ _ 1 (a8 [(0,0)] Hk (mh ace ae l (by omega) (by omega)) rfl rfl rfl rfl trivial trivial ⟨aq ae _ _,trivial⟩ rfl rfl rfl rfl (di ae rfl) rfl) rfl rfl ?_)
 refine OpG.lk (av (k:=j) ae Tryz.underlying45 ik rfl rfl rfl hj rfl) (OpG.lk (d5 (k:=j) ae db rfl rfl hj) ?_)
 refine OpG.lk (av (k:=p) ae Tryz.underlying45 ik rfl rfl rfl hp rfl) (OpG.lk (d5 (k:=p) ae db rfl rfl hp) ?_)
 refine ArgG.mk (yf (x:=q) (y:=l[p]) hq (hb _ (ags hp)) ha) rfl ?_
 rintro _ rfl
 refine ArgG.mk (R3 (x:=l[j]) (y:=q*l[p]) (hb _ (ags hj)) ha hc) rfl ?_
 rintro _ rfl
 refine OpG.lk (av (k:=j) ae Tryz.underlying45 ik rfl rfl rfl hj rfl) (OpG.wr (bl (k:=j) (o:=0) (v:=l[j]-q*l[p]) ae ik rfl rfl rfl rfl rfl rfl hj (by decide) rfl) rfl ?_)
 refine⟨by kernel_rfl,⟨.inr rfl,_,Ng.tmp rfl ⟨[0],b7 ae (agx.2 rfl) rfl (by simp)⟩,?_⟩⟩
 rfl
theorem Rz(l:List Int)(hl:ip l (fun y=>True))(p:Nat)(r:List Int)(hb:BL l)(hs:l.length<=1000000)(h:H0 p l=some r):PRet Tryz.prog 244 [.tree 2 (l.map bI),.tp [.v (.int .i64 ((p:Nat):Int))] 0] (fun x=>x=.tree 2 (r.map bI)):=by
 obtain⟨hp,rfl⟩:=xx h
 refine ovT [5,10,11,13,100013] [] Tryz.func244 rfl rfl (OpG.mk _ _ _ 1 (a8 [(0,0)] Hk (mh ace ae l (by omega) (by omega)) rfl rfl rfl rfl trivial trivial ⟨aq ae _ _,trivial⟩ rfl rfl rfl rfl (di ae rfl) rfl) rfl rfl ?_)
 refine OpG.lk (av (k:=p) ae Tryz.underlying45 ik rfl rfl rfl hp rfl) (OpG.lk (d5 (k:=p) ae db rfl rfl hp) ?_)
 refine ArgG.mk (wc (x:=l[p]) (hb _ (ags hp))) rfl ?_
 rintro _ rfl
 refine OpG.lk (av (k:=p) ae Tryz.underlying45 ik rfl rfl rfl hp rfl) (OpG.wr (bl (k:=p) (o:=0) (v:=-l[p]) ae ik rfl rfl rfl rfl rfl rfl hp (by decide) rfl) rfl ?_)
 refine⟨by kernel_rfl,⟨.inr rfl,_,Ng.tmp rfl ⟨[0],b7 ae (agx.2 rfl) rfl (by simp)⟩,?_⟩⟩
 rfl
theorem T9{x:Int}(hx:B1 x):PRet Tryz.prog 214 [.agg (bI x)] (fun q=>q=.agg (bI (aZ x))):=by
 refine ovT [] [] Tryz.func214 rfl rfl ⟨.inr rfl,_,Ng.cell rfl db rfl rfl rfl rfl rfl ⟨[],FzP.pure rfl⟩,?_⟩
 show AV.agg _=_
 rw[show bI (aZ x)=[.v (.bool false),.tree 1 ((bgI x).a_.map cx)]from Xi x]
theorem Ur(s s':OSt)(j p:Nat)(q:Int)(hq:B1 q)(ho:OOk s)(h:Tv (Ig j p q) s=some s'):qa Tryz.prog 215 [.ptr 1000000 0 0,.v (.int .i64 ((j:Nat):Int)),.v (.int .i64 ((p:Nat):Int)),.agg (bI q)] [(1000000,sB s),(1000001,s1 s),(1000002,s2 s),(1000003,s3 s),(1000004,s4 s),(1000005,s5 s),(1000006,s6 s),(1000007,s7 s)] [(1000000,some (sB s')),(1000001,some (s1 s')),(1000002,some (s2 s')),(1000003,some (s3 s')),(1000004,some (s4 s')),(1000005,some (s5 s')),(1000006,some (s6 s')),(1000007,some (s7 s'))] (fun q=>q=.tup []):=by
 obtain⟨⟨z1,z2,z3,z4,z5,z6,z7,z8⟩,U,I,e1,e2,rfl⟩:=wq h
 have l1:=(mu e1).1
 have l2:=(mu e2).1
 have hUl:=ho.Ul
 have hn2:=ho.n2
 refine qa.of_vc jc [11,16,31,32,33,34,40,55,56,57,58,59,60,100034,100060] [1,5,7,10] Tryz.func215 rfl Tryz.ntmps215 rfl (by kernel_rfl) (RegG.via (fun _ h=>bm [0] 5 (.tp [.v (.int .i64 ((j:Nat):Int))] 0) (FzP.ptr (b:=⟨0,[.v (.int .i64 ((j:Nat):Int))],0,false⟩) (agx.2 rfl) rfl rfl rfl rfl (fun i h1 h2=>match i,h1 with|0,_=>FzP.pure rfl)) rfl h) ?_)
 refine RegG.via (fun _ h=>bm [1] 6 (.tp [.v (.int .i64 ((p:Nat):Int))] 0) (FzP.ptr (b:=⟨0,[.v (.int .i64 ((p:Nat):Int))],0,false⟩) (agx.2 rfl) rfl rfl rfl rfl (fun i h1 h2=>match i,h1 with|0,_=>FzP.pure rfl)) rfl h) (RegG.via (fun _ h=>bm [2] 7 (.tp (bI q) 0) (FzP.ptr (b:=⟨0,bI q,0,false⟩) (agx.2 rfl) rfl rfl rfl rfl (fun i h1 h2=>match i,h1 with|0,_=>FzP.pure rfl|1,_=>FzP.pure rfl)) rfl h) ?_)
 refine aw (OpG.lk (LOp.makeFunc) ?_)
 refine OpG.lk (cd rfl Tryz.underlying214 rfl rfl rfl) (LpG.on (fun k0:Nat=>(⟨fL [(0,.ptr 1000000 0 0),(8,.clo 243 [.tp [.v (.int .i64 ((j:Nat):Int))] 0,.tp (bI q) 0,.tp [.v (.int .i64 ((p:Nat):Int))] 0]),(16,.v (.int .i64 ((s.U.length:Nat):Int))),(17,.v (.int .i64 ((k0:Nat):Int)))],hLz [(1000000,sB s),(1000001,s1 s),(1000002,s2 s),(1000003,⟨s.vU,rF rlA (U.take k0++s.U.drop k0),1,Nat.beq (U.take k0++s.U.drop k0).length 0⟩),(1000004,s4 s),(1000005,s5 s),(1000006,s6 s),(1000007,s7 s)],3⟩:St)) (fun k0=>(s.U.length-k0)) (fun k0=>(k0<=s.U.length)) 0 (cO (.cons rfl rfl (.cons rfl rfl (.cons rfl rfl (.cons rfl rfl .nil)))) (.cons rfl rfl rfl (.cons rfl rfl (aa ab _ _) (.cons rfl rfl (aa ai _ _) (.cons (by rfl) rfl (aa ah _ _) (.cons rfl rfl (aa ap _ _) (.cons rfl rfl (aa ae _ _) (.cons rfl rfl (aa ag _ _) (.cons rfl rfl (aa aj _ _) .nil))))))))) (ag5 _) ?_)
 rintro k0 hc
 have hle_k0:=hc
 refine cL (fun hb=>?_) (fun hge18=>?_)
 ·obtain⟨hk1,hh⟩:=Se e1 hb
  have hd:=ho.U _ (ags hb)
  obtain⟨_,rfl,he⟩:=S0 (s.U[k0]) (aca ho hd.2) j p q (U[k0]) hd.1 hq (by rw[hd.2];omega) hh
  refine aw (OpG.lk (br (k:=k0) (L:=(U.take k0++s.U.drop k0)) ah Tryz.underlying214 Ot rfl rfl rfl hb rfl (by rw[cb l1];omega)) ?_)
  refine OpG.lk (LOp.cellN (k:=k0) (o:=0) (L:=(U.take k0++s.U.drop k0)) (v:=.tree 2 (s.U[k0].map bI)) ah vu rfl rfl (by rw[cb l1];omega) (by rw[r8 l1 hb];rfl)) (OpG.lk (fg Tz rfl rfl rfl he) ?_)
  refine OpG.lk (br (k:=k0) (L:=(U.take k0++s.U.drop k0)) ah Tryz.underlying214 Ot rfl rfl rfl hb rfl (by rw[cb l1];omega)) (OpG.wr (jw (k:=k0) (o:=0) (L:=(U.take k0++s.U.drop k0)) (v:=U[k0]) ah Ot rfl rfl rfl rfl rfl rfl (by rw[cb l1];omega) (by decide) rfl) rfl ?_)
  refine⟨by kernel_rfl,⟨by omega,?_⟩⟩
  refine⟨(k0+1),by omega,(cO (.cons rfl rfl (.cons rfl rfl (.cons rfl rfl (.cons rfl rfl .nil)))) (.cons rfl rfl rfl (.cons rfl rfl (aa ab _ _) (.cons rfl rfl (aa ai _ _) (.cons (by(rw[j7 l1 (by omega) (fun _=>rfl)];rfl)) rfl (aa ah _ _) (.cons rfl rfl (aa ap _ _) (.cons rfl rfl (aa ae _ _) (.cons rfl rfl (aa ag _ _) (.cons rfl rfl (aa aj _ _) .nil))))))))),?_⟩
  omega
 refine RegG.via (fun _ h=>ck 1000003 ⟨s.vU,rF rlA U,1,Nat.beq U.length 0⟩ rfl (by rw[ig l1 (by omega)]) h) (aw ?_)
 refine OpG.lk (cd rfl Tryz.underlying215 rfl rfl rfl) (LpG.on (fun k2:Nat=>(⟨fL [(0,.ptr 1000000 0 0),(8,.clo 243 [.tp [.v (.int .i64 ((j:Nat):Int))] 0,.tp (bI q) 0,.tp [.v (.int .i64 ((p:Nat):Int))] 0]),(40,.v (.int .i64 ((s.I.length:Nat):Int))),(41,.v (.int .i64 ((k2:Nat):Int)))],hLz [(1000000,sB s),(1000001,s1 s),(1000002,s2 s),(1000003,⟨s.vU,rF rlA U,1,Nat.beq U.length 0⟩),(1000004,s4 s),(1000005,s5 s),(1000006,⟨s.vI,rF itA (I.take k2++s.I.drop k2),2,Nat.beq (I.take k2++s.I.drop k2).length 0⟩),(1000007,s7 s)],3⟩:St)) (fun k2=>(s.I.length-k2)) (fun k2=>(k2<=s.I.length)) 0 (cO (.cons rfl rfl (.cons rfl rfl (.cons rfl rfl (.cons rfl rfl .nil)))) (.cons rfl rfl rfl (.cons rfl rfl (aa ab _ _) (.cons rfl rfl (aa ai _ _) (.cons rfl rfl (aa ah _ _) (.cons rfl rfl (aa ap _ _) (.cons rfl rfl (aa ae _ _) (.cons (by rfl) rfl (aa ag _ _) (.cons rfl rfl (aa aj _ _) .nil))))))))) (ag5 _) ?_)
 rintro k2 hc
 have hle_k2:=hc
 refine cL (fun ha=>?_) (fun hge42=>?_)
 ·obtain⟨hk2,hi,hj⟩:=S4 e2 ha
  have hf:=ho.I _ (ags ha)
  obtain⟨_,rfl,hg⟩:=S0 (s.I[k2].g) (aca ho hf.2.1) j p q (I[k2].g) hf.1 hq (by rw[hf.2.1];omega) hi
  refine aw (OpG.lk (br (k:=k2) (L:=(I.take k2++s.I.drop k2)) ag Tryz.underlying215 pk rfl rfl rfl ha rfl (by rw[cb l2];omega)) ?_)
  refine OpG.lk (ic (L:=(I.take k2++s.I.drop k2)) (k:=k2) s9 rfl rfl rfl (by rw[cb l2];omega)) (OpG.lk (LOp.cellN (k:=k2) (o:=1) (L:=(I.take k2++s.I.drop k2)) (v:=.tree 2 (s.I[k2].g.map bI)) ag vu rfl rfl (by rw[cb l2];omega) (by rw[r8 l2 ha];rfl)) ?_)
  refine OpG.lk (fg Tz rfl rfl rfl hg) (OpG.lk (br (k:=k2) (L:=(I.take k2++s.I.drop k2)) ag Tryz.underlying215 pk rfl rfl rfl ha rfl (by rw[cb l2];omega)) ?_)
  refine OpG.lk (ic (L:=(I.take k2++s.I.drop k2)) (k:=k2) s9 rfl rfl rfl (by rw[cb l2];omega)) (OpG.wr (jw (k:=k2) (o:=1) (L:=(I.take k2++s.I.drop k2)) (v:=I[k2]) ag Ot rfl rfl rfl rfl rfl rfl (by rw[cb l2];omega) (by decide) (Sb l2 ha hj)) rfl ?_)
  refine⟨by kernel_rfl,⟨by omega,?_⟩⟩
  refine⟨(k2+1),by omega,(cO (.cons rfl rfl (.cons rfl rfl (.cons rfl rfl (.cons rfl rfl .nil)))) (.cons rfl rfl rfl (.cons rfl rfl (aa ab _ _) (.cons rfl rfl (aa ai _ _) (.cons rfl rfl (aa ah _ _) (.cons rfl rfl (aa ap _ _) (.cons rfl rfl (aa ae _ _) (.cons (by(rw[j7 l2 (by omega) (fun _=>rfl)];rfl)) rfl (aa ag _ _) (.cons rfl rfl (aa aj _ _) .nil))))))))),?_⟩
  omega
 refine⟨.inl rfl,_,Nf.of [] (az rfl .nil) rfl ⟨.same (svU s U I l1 l2) (by decide),.same rfl (by decide),.same rfl (by decide),.same rfl (by decide),.same rfl (by decide),.same rfl (by decide),.same (zipI l2 (by omega)) (by decide),.same rfl (by decide),trivial⟩ .same,?_⟩
 rfl
theorem aaa(s s':OSt)(p:Nat)(ho:OOk s)(h:Tv (H0 p) s=some s'):qa Tryz.prog 216 [.ptr 1000000 0 0,.v (.int .i64 ((p:Nat):Int))] [(1000000,sB s),(1000001,s1 s),(1000002,s2 s),(1000003,s3 s),(1000004,s4 s),(1000005,s5 s),(1000006,s6 s),(1000007,s7 s)] [(1000000,some (sB s')),(1000001,some (s1 s')),(1000002,some (s2 s')),(1000003,some (s3 s')),(1000004,some (s4 s')),(1000005,some (s5 s')),(1000006,some (s6 s')),(1000007,some (s7 s'))] (fun q=>q=.tup []):=by
 obtain⟨⟨z1,z2,z3,z4,z5,z6,z7,z8⟩,U,I,e1,e2,rfl⟩:=wq h
 have l1:=(mu e1).1
 have l2:=(mu e2).1
 have hUl:=ho.Ul
 have hn2:=ho.n2
 refine qa.of_vc jc [7,12,27,28,29,30,36,51,52,53,54,55,56,100030,100056] [1,5,7,10] Tryz.func216 rfl Tryz.ntmps216 rfl (by kernel_rfl) (RegG.via (fun _ h=>bm [0] 3 (.tp [.v (.int .i64 ((p:Nat):Int))] 0) (FzP.ptr (b:=⟨0,[.v (.int .i64 ((p:Nat):Int))],0,false⟩) (agx.2 rfl) rfl rfl rfl rfl (fun i h1 h2=>match i,h1 with|0,_=>FzP.pure rfl)) rfl h) ?_)
 refine aw (OpG.lk (LOp.makeFunc) ?_)
 refine OpG.lk (cd rfl Tryz.underlying214 rfl rfl rfl) (LpG.on (fun k0:Nat=>(⟨fL [(0,.ptr 1000000 0 0),(4,.clo 244 [.tp [.v (.int .i64 ((p:Nat):Int))] 0]),(12,.v (.int .i64 ((s.U.length:Nat):Int))),(13,.v (.int .i64 ((k0:Nat):Int)))],hLz [(1000000,sB s),(1000001,s1 s),(1000002,s2 s),(1000003,⟨s.vU,rF rlA (U.take k0++s.U.drop k0),1,Nat.beq (U.take k0++s.U.drop k0).length 0⟩),(1000004,s4 s),(1000005,s5 s),(1000006,s6 s),(1000007,s7 s)],1⟩:St)) (fun k0=>(s.U.length-k0)) (fun k0=>(k0<=s.U.length)) 0 (cO (.cons rfl rfl (.cons rfl rfl (.cons rfl rfl (.cons rfl rfl .nil)))) (.cons rfl rfl rfl (.cons rfl rfl (aa ab _ _) (.cons rfl rfl (aa ai _ _) (.cons (by rfl) rfl (aa ah _ _) (.cons rfl rfl (aa ap _ _) (.cons rfl rfl (aa ae _ _) (.cons rfl rfl (aa ag _ _) (.cons rfl rfl (aa aj _ _) .nil))))))))) (ag5 _) ?_)
 rintro k0 hc
 have hle_k0:=hc
 refine cL (fun hb=>?_) (fun hge14=>?_)
 ·obtain⟨hk1,hh⟩:=Se e1 hb
  have hd:=ho.U _ (ags hb)
  obtain⟨_,rfl,he⟩:=Rz (s.U[k0]) (aca ho hd.2) p (U[k0]) hd.1 (by rw[hd.2];omega) hh
  refine aw (OpG.lk (br (k:=k0) (L:=(U.take k0++s.U.drop k0)) ah Tryz.underlying214 Ot rfl rfl rfl hb rfl (by rw[cb l1];omega)) ?_)
  refine OpG.lk (LOp.cellN (k:=k0) (o:=0) (L:=(U.take k0++s.U.drop k0)) (v:=.tree 2 (s.U[k0].map bI)) ah vu rfl rfl (by rw[cb l1];omega) (by rw[r8 l1 hb];rfl)) (OpG.lk (fg Ty rfl rfl rfl he) ?_)
  refine OpG.lk (br (k:=k0) (L:=(U.take k0++s.U.drop k0)) ah Tryz.underlying214 Ot rfl rfl rfl hb rfl (by rw[cb l1];omega)) (OpG.wr (jw (k:=k0) (o:=0) (L:=(U.take k0++s.U.drop k0)) (v:=U[k0]) ah Ot rfl rfl rfl rfl rfl rfl (by rw[cb l1];omega) (by decide) rfl) rfl ?_)
  refine⟨by kernel_rfl,⟨by omega,?_⟩⟩
  refine⟨(k0+1),by omega,(cO (.cons rfl rfl (.cons rfl rfl (.cons rfl rfl (.cons rfl rfl .nil)))) (.cons rfl rfl rfl (.cons rfl rfl (aa ab _ _) (.cons rfl rfl (aa ai _ _) (.cons (by(rw[j7 l1 (by omega) (fun _=>rfl)];rfl)) rfl (aa ah _ _) (.cons rfl rfl (aa ap _ _) (.cons rfl rfl (aa ae _ _) (.cons rfl rfl (aa ag _ _) (.cons rfl rfl (aa aj _ _) .nil))))))))),?_⟩
  omega
 refine RegG.via (fun _ h=>ck 1000003 ⟨s.vU,rF rlA U,1,Nat.beq U.length 0⟩ rfl (by rw[ig l1 (by omega)]) h) (aw ?_)
 refine OpG.lk (cd rfl Tryz.underlying215 rfl rfl rfl) (LpG.on (fun k2:Nat=>(⟨fL [(0,.ptr 1000000 0 0),(4,.clo 244 [.tp [.v (.int .i64 ((p:Nat):Int))] 0]),(36,.v (.int .i64 ((s.I.length:Nat):Int))),(37,.v (.int .i64 ((k2:Nat):Int)))],hLz [(1000000,sB s),(1000001,s1 s),(1000002,s2 s),(1000003,⟨s.vU,rF rlA U,1,Nat.beq U.length 0⟩),(1000004,s4 s),(1000005,s5 s),(1000006,⟨s.vI,rF itA (I.take k2++s.I.drop k2),2,Nat.beq (I.take k2++s.I.drop k2).length 0⟩),(1000007,s7 s)],1⟩:St)) (fun k2=>(s.I.length-k2)) (fun k2=>(k2<=s.I.length)) 0 (cO (.cons rfl rfl (.cons rfl rfl (.cons rfl rfl (.cons rfl rfl .nil)))) (.cons rfl rfl rfl (.cons rfl rfl (aa ab _ _) (.cons rfl rfl (aa ai _ _) (.cons rfl rfl (aa ah _ _) (.cons rfl rfl (aa ap _ _) (.cons rfl rfl (aa ae _ _) (.cons (by rfl) rfl (aa ag _ _) (.cons rfl rfl (aa aj _ _) .nil))))))))) (ag5 _) ?_)
 rintro k2 hc
 have hle_k2:=hc
 refine cL (fun ha=>?_) (fun hge38=>?_)
 ·obtain⟨hk2,hi,hj⟩:=S4 e2 ha
  have hf:=ho.I _ (ags ha)
  obtain⟨_,rfl,hg⟩:=Rz (s.I[k2].g) (aca ho hf.2.1) p (I[k2].g) hf.1 (by rw[hf.2.1];omega) hi
  refine aw (OpG.lk (br (k:=k2) (L:=(I.take k2++s.I.drop k2)) ag Tryz.underlying215 pk rfl rfl rfl ha rfl (by rw[cb l2];omega)) ?_)
  refine OpG.lk (ic (L:=(I.take k2++s.I.drop k2)) (k:=k2) s9 rfl rfl rfl (by rw[cb l2];omega)) (OpG.lk (LOp.cellN (k:=k2) (o:=1) (L:=(I.take k2++s.I.drop k2)) (v:=.tree 2 (s.I[k2].g.map bI)) ag vu rfl rfl (by rw[cb l2];omega) (by rw[r8 l2 ha];rfl)) ?_)
  refine OpG.lk (fg Ty rfl rfl rfl hg) (OpG.lk (br (k:=k2) (L:=(I.take k2++s.I.drop k2)) ag Tryz.underlying215 pk rfl rfl rfl ha rfl (by rw[cb l2];omega)) ?_)
  refine OpG.lk (ic (L:=(I.take k2++s.I.drop k2)) (k:=k2) s9 rfl rfl rfl (by rw[cb l2];omega)) (OpG.wr (jw (k:=k2) (o:=1) (L:=(I.take k2++s.I.drop k2)) (v:=I[k2]) ag Ot rfl rfl rfl rfl rfl rfl (by rw[cb l2];omega) (by decide) (Sb l2 ha hj)) rfl ?_)
  refine⟨by kernel_rfl,⟨by omega,?_⟩⟩
  refine⟨(k2+1),by omega,(cO (.cons rfl rfl (.cons rfl rfl (.cons rfl rfl (.cons rfl rfl .nil)))) (.cons rfl rfl rfl (.cons rfl rfl (aa ab _ _) (.cons rfl rfl (aa ai _ _) (.cons rfl rfl (aa ah _ _) (.cons rfl rfl (aa ap _ _) (.cons rfl rfl (aa ae _ _) (.cons (by(rw[j7 l2 (by omega) (fun _=>rfl)];rfl)) rfl (aa ag _ _) (.cons rfl rfl (aa aj _ _) .nil))))))))),?_⟩
  omega
 refine⟨.inl rfl,_,Nf.of [] (az rfl .nil) rfl ⟨.same (svU s U I l1 l2) (by decide),.same rfl (by decide),.same rfl (by decide),.same rfl (by decide),.same rfl (by decide),.same rfl (by decide),.same (zipI l2 (by omega)) (by decide),.same rfl (by decide),trivial⟩ .same,?_⟩
 rfl
section
variable{G:List Int}{k:Nat}{p r:Int}
theorem Sj(hk:k<G.length)(h:xl G (G.drop k) k p=r)(hc:G[k]≠0/\(p<0\/aZ G[k]<aZ (G.getD p.toNat 0))):xl G (G.drop (k+1)) (k+1) (k:Int)=r:=by
 rw[ahm hk]at h
 unfold xl at h
 rwa [ag1 hc]at h
theorem Sk(hk:k<G.length)(h:xl G (G.drop k) k p=r)(hc:¬(G[k]≠0/\(p<0\/aZ G[k]<aZ (G.getD p.toNat 0)))):xl G (G.drop (k+1)) (k+1) p=r:=by
 rw[ahm hk]at h
 unfold xl at h
 rwa [ag0 hc]at h
theorem U4(hk:¬k<G.length)(h:xl G (G.drop k) k p=r):p=r:=by
 rw[List.drop_of_length_le (by omega)]at h;exact h
end
structure KP where
 k:Nat
 p:Int
structure KI where
 k:Nat
 s:OSt
 b:Bool
section
variable{s s':OSt}{i k m p F:Nat}{G:List Int}{b:Bool}{R:OSt×Bool}{Z:OSt×Nat}
theorem Vw(hk:k<m)(h:Gp G p i (m-k) k s b=some R):∃(hi:i<s.I.length) (hj:k<s.I[i].g.length),((k≠p/\s.I[i].g[k]≠0)/\B1 (flD (G.getD k 0) (G.getD p 0))/\∃s2,R7 s k p (flD (G.getD k 0) (G.getD p 0))=some s2/\Gp G p i (m-(k+1)) (k+1) s2 false=some R)\/(¬(k≠p/\s.I[i].g[k]≠0)/\Gp G p i (m-(k+1)) (k+1) s b=some R):=by
 rw[show m-k=(m-(k+1))+1 by omega]at h
 unfold Gp at h
 split at h
 ·cases h
 ·next x e=>
  obtain⟨hi,rfl⟩:=ahl.1 e
  split at h
  ·cases h
  ·next c ec=>
   obtain⟨hj,rfl⟩:=ahl.1 ec
   refine⟨hi,hj,?_⟩
   split at h
   ·next hc=>
    split at h
    ·next hb=>
     split at h
     ·cases h
     ·next s2 e2=>exact .inl ⟨hc,hb,s2,e2,h⟩
    ·cases h
   ·next hc=>exact .inr ⟨hc,h⟩
theorem Vx(hk:¬k<m)(h:Gp G p i (m-k) k s b=some R):(s,b)=R:=by
 rw[show m-k=0 by omega]at h
 unfold Gp at h
 cases h;rfl
theorem La(h:Lb i (F-k) s=some Z):k<F/\∃(hi:i<s.I.length) (P:Nat) (hP:P<s.I[i].g.length),n6 s.I[i].g=((P:Nat):Int)/\s.I[i].g[P]≠0/\∃s1 b1,Gp s.I[i].g P i s.I[i].g.length 0 s true=some (s1,b1)/\
 ((b1=true/\((s.I[i].g[P]<0/\∃s2,V8 s1 P=some s2/\Z=(s2,P))\/(¬s.I[i].g[P]<0/\Z=(s1,P))))\/(b1=false/\Lb i (F-(k+1)) s1=some Z)):=by
 by_cases hF:k<F
 ·refine⟨hF,?_⟩
  rw[show F-k=(F-(k+1))+1 by omega]at h
  unfold Lb at h
  split at h
  ·cases h
  ·next x e=>
   obtain⟨hi,rfl⟩:=ahl.1 e
   split at h
   ·cases h
   ·next hc=>
    have h1:¬n6 s.I[i].g<0:=fun g=>hc (.inl g)
    have h2:¬s.I[i].g.getD (n6 s.I[i].g).toNat 0=0:=fun g=>hc (.inr g)
    have hP:(n6 s.I[i].g).toNat<s.I[i].g.length:=by
     rcases Nat.lt_or_ge (n6 s.I[i].g).toNat s.I[i].g.length with g|g
     ·exact g
     ·exact absurd (by simp[List.getD,List.getElem?_eq_none g]) h2
    have eP:s.I[i].g.getD (n6 s.I[i].g).toNat 0=s.I[i].g[(n6 s.I[i].g).toNat]:=by simp[List.getD,hP]
    rw[eP]at h h2
    refine⟨hi,(n6 s.I[i].g).toNat,hP,(Int.toNat_of_nonneg (by omega)).symm,h2,?_⟩
    split at h
    ·cases h
    ·next s1 e1=>
     refine⟨s1,true,e1,.inl ⟨rfl,?_⟩⟩
     split at h
     ·next hn=>
      cases e2:V8 s1 (n6 s.I[i].g).toNat with
      |none=>rw[e2]at h;cases h
      |some s2=>rw[e2]at h;cases h;exact .inl ⟨hn,s2,rfl,rfl⟩
     ·next hn=>cases h;exact .inr ⟨hn,rfl⟩
    ·next s1 e1=>exact⟨s1,false,e1,.inr ⟨rfl,h⟩⟩
 ·rw[show F-k=0 by omega]at h
  cases h
end
def eqF(i j p:Nat)(up down:ItS):List ItS->Nat->OSt->Option (OSt×Bool)
 |[],_,s=>some (s,true)
 |x::r,k,s=>if k=i\/k=j then eqF i j p up down r (k+1) s else match x.g[p]? with
  |none=>none
  |some c=>if c=0 then match xg s x with
   |none=>none
   |some s'=>eqF i j p up down r (k+1) s'
   else match xf s (x.g.set p 0) [⟨x.a,1⟩,if c<0 then⟨up.a,-c⟩else⟨down.a,c⟩]with
   |none=>none
   |some (s',ok)=>if ok then eqF i j p up down r (k+1) s' else some (s',false)
def eqO(s:OSt)(i j:Nat):Option (OSt×Bool):=match Lb i 1000 s with
 |none=>none
 |some (s1,p)=>match s1.I[i]?,s1.I[j]? with
  |some up,some down=>if p<s1.n/\SzS s1 then eqF i j p up down s1.I 0 {s1 with T:=s1.T.set p 1,V:=s1.V.set p (bnd s1 up),I:=[],vI:=s1.vI+1}else none
  |_,_=>none
section
variable{s s':OSt}{i j k p:Nat}{up down:ItS}{L:List ItS}{ok:Bool}{R:OSt×Bool}
theorem aaj(hk:k<L.length)(h:eqF i j p up down (L.drop k) k s=some R):
 ((k=i\/k=j)/\eqF i j p up down (L.drop (k+1)) (k+1) s=some R)\/(¬(k=i\/k=j)/\∃hp:p<L[k].g.length,(L[k].g[p]=0/\∃s',xg s L[k]=some s'/\eqF i j p up down (L.drop (k+1)) (k+1) s'=some R)\/
  (L[k].g[p]≠0/\∃s' ok,xf s (L[k].g.set p 0) [⟨L[k].a,1⟩,if L[k].g[p]<0 then⟨up.a,-L[k].g[p]⟩else⟨down.a,L[k].g[p]⟩]=some (s',ok)/\((ok=true/\eqF i j p up down (L.drop (k+1)) (k+1) s'=some R)\/(ok=false/\R=(s',false))))):=by
 rw[ahm hk]at h
 unfold eqF at h
 split at h
 ·next hc=>exact .inl ⟨hc,h⟩
 ·next hc=>
  refine .inr ⟨hc,?_⟩
  split at h
  ·cases h
  ·next c e=>
   obtain⟨hp,rfl⟩:=ahl.1 e
   refine⟨hp,?_⟩
   split at h
   ·next hz=>
    split at h
    ·cases h
    ·next s' ea=>exact .inl ⟨hz,s',ea,h⟩
   ·next hz=>
    refine .inr ⟨hz,?_⟩
    split at h
    ·cases h
    ·next s' ok ep=>
     refine⟨s',ok,ep,?_⟩
     split at h
     ·next ho=>exact .inl ⟨ho,h⟩
     ·next ho=>cases h;exact .inr ⟨by simpa using ho,rfl⟩
theorem aak(hk:¬k<L.length)(h:eqF i j p up down (L.drop k) k s=some R):(s,true)=R:=by
 rw[List.drop_of_length_le (by omega)]at h
 unfold eqF at h
 cases h;rfl
end
theorem aZ_b{x:Int}(h:B1 x):B1 (aZ x):=⟨by have:=im x;omega,jj h⟩
structure Sam(s t:OSt):Prop where
 ok:OOk t
 n:t.n=s.n
 K:t.K=s.K
 I:t.I.length=s.I.length
theorem As{s:OSt}(h:OOk s):Sam s s:=⟨h,rfl,rfl,rfl⟩
theorem Sam.chg{s t t':OSt}{f:List Int->Option (List Int)}(h:Sam s t)(hf:Rl f)(e:Tv f t=some t'):Sam s t':=by
 obtain⟨a,b,c,d⟩:=Wx hf e h.ok
 exact⟨a,b.trans h.n,c.trans h.K,d.trans h.I⟩
theorem Gv{l:List Int}{i:Nat}(h:i<l.length):l.getD i 0=l[i]:=by simp[List.getD,h]
theorem T1:bw Tryz.prog 214=true:=by kernel_rfl
theorem aa0:bw Tryz.prog 215=true:=by kernel_rfl
theorem aaz:bw Tryz.prog 216=true:=by kernel_rfl
theorem K9(s s':OSt)(i p F:Nat)(hF:F<=1000000)(ho:OOk s)(h:Lb i (F-0) s=some (s',p)):qa Tryz.prog 179 [.ptr 1000000 0 0,.v (.int .i64 ((i:Nat):Int))] [(1000000,sB s),(1000001,s1 s),(1000002,s2 s),(1000003,s3 s),(1000004,s4 s),(1000005,s5 s),(1000006,s6 s),(1000007,s7 s)] [(1000000,some (sB s')),(1000001,some (s1 s')),(1000002,some (s2 s')),(1000003,some (s3 s')),(1000004,some (s4 s')),(1000005,some (s5 s')),(1000006,some (s6 s')),(1000007,some (s7 s'))] (fun q=>q=.v (.int .i64 ((p:Nat):Int))):=by
 refine qa.of_vc jc [19,20,21,42,46,48,69,70,71,95,106] [] Tryz.func179 rfl Tryz.ntmps179 rfl (by kernel_rfl) ?_
 refine LpG.on (fun k0:KO=>(⟨fL [(0,.ptr 1000000 0 0),(1,.v (.int .i64 ((i:Nat):Int))),(5,.clo 214 [])],hLz [(1000000,sB k0.s),(1000001,s1 k0.s),(1000002,s2 k0.s),(1000003,s3 k0.s),(1000004,s4 k0.s),(1000005,s5 k0.s),(1000006,s6 k0.s),(1000007,s7 k0.s)],0⟩:St)) (fun k0=>(F-k0.k)) (fun k0=>(k0.k<=F/\(Lb i (F-k0.k) k0.s=some (s',p)/\Sam s k0.s))) (⟨0,s⟩:KO) (cO (.cons rfl rfl (.cons rfl rfl (.cons rfl rfl .nil))) (.cons rfl rfl rfl (.cons rfl rfl (aa ab _ _) (.cons rfl rfl (aa ai _ _) (.cons rfl rfl (aa ah _ _) (.cons rfl rfl (aa ap _ _) (.cons rfl rfl (aa ae _ _) (.cons rfl rfl (aa ag _ _) (.cons rfl rfl (aa aj _ _) .nil))))))))) ⟨ag5 _,⟨h,As ho⟩⟩ ?_
 rintro k0 hf
 obtain⟨hle_k0,hc⟩:=hf
 obtain⟨hlt0,hp,P,hP,g9,ga,s1x,b1x,gb,hq⟩:=La hc.1
 have g6:=hc.2.ok.I _ (ags hp)
 have hk:=g6.1
 have hgl:k0.s.I[i].g.length<=1000:=by rw[g6.2.1];exact hc.2.ok.n2
 refine OpG.lk (br (k:=i) ag Tryz.underlying215 pk rfl rfl rfl hp rfl hp) ?_
 refine OpG.lk (ic s9 rfl rfl rfl hp) ?_
 refine OpG.lk (LOp.cellN (k:=i) (o:=1) ag vu rfl rfl hp rfl) ?_
 refine LenG.of (LpG.on (fun k2:KP=>(⟨fL [(0,.ptr 1000000 0 0),(1,.v (.int .i64 ((i:Nat):Int))),(5,.clo 214 []),(6,.tree 2 ((k0.s.I[i].g).map bI)),(7,.v (.int .i64 k2.p)),(23,.v (.int .i64 ((k0.s.I[i].g.length:Nat):Int))),(24,.v (.int .i64 ((k2.k:Nat):Int)))],hLz [(1000000,sB k0.s),(1000001,s1 k0.s),(1000002,s2 k0.s),(1000003,s3 k0.s),(1000004,s4 k0.s),(1000005,s5 k0.s),(1000006,s6 k0.s),(1000007,s7 k0.s)],0⟩:St)) (fun k2=>(k0.s.I[i].g.length-k2.k)) (fun k2=>(k2.k<=k0.s.I[i].g.length/\(xl k0.s.I[i].g (k0.s.I[i].g.drop k2.k) k2.k k2.p=n6 k0.s.I[i].g/\(0<=k2.p->k2.p.toNat<k0.s.I[i].g.length)))) (⟨0,-1⟩:KP) (cO (.cons rfl rfl (.cons rfl rfl (.cons rfl rfl (.cons rfl rfl (.cons rfl rfl (.cons rfl rfl (.cons rfl rfl .nil))))))) (.cons rfl rfl rfl (.cons rfl rfl (aa ab _ _) (.cons rfl rfl (aa ai _ _) (.cons rfl rfl (aa ah _ _) (.cons rfl rfl (aa ap _ _) (.cons rfl rfl (aa ae _ _) (.cons rfl rfl (aa ag _ _) (.cons rfl rfl (aa aj _ _) .nil))))))))) ⟨ag5 _,⟨rfl,fun h=>absurd h (by decide)⟩⟩ ?_)
 rintro k2 hf
 obtain⟨hle_k2,hb⟩:=hf
 refine cL (fun hd=>?_) (fun hr=>?_)
 ·refine IdxG.of ‹_› (ArgG.mk (j8 (x:=k0.s.I[i].g[k2.k]) (hk _ (ags _))) rfl ?_)
  rintro _ rfl
  refine cB (fun hg=>?_) (fun hg=>?_)
  ·have g1:¬(((sgZ (k0.s.I[i].g[k2.k])):Int)=(0:Int)):=by simpa using hg
   have hy:k0.s.I[i].g[k2.k]≠0:=fun e=>absurd hg (by rw[e];decide)
   refine cD (fun g2=>?_) (fun g2=>?_)
   ·have hm:=Sj hd hb.1 ⟨hy,.inl (by omega)⟩
    refine⟨by kernel_rfl,?_⟩
    refine cT ⟨by omega,⟨(⟨k2.k+1,((k2.k:Nat):Int)⟩:KP),(by show k0.s.I[i].g.length-(k2.k+1)<k0.s.I[i].g.length-k2.k;omega),(cO (.cons rfl rfl (.cons rfl rfl (.cons rfl rfl (.cons rfl rfl (.cons rfl rfl (.cons rfl rfl (.cons rfl rfl .nil))))))) (.cons rfl rfl rfl (.cons rfl rfl (aa ab _ _) (.cons rfl rfl (aa ai _ _) (.cons rfl rfl (aa ah _ _) (.cons rfl rfl (aa ap _ _) (.cons rfl rfl (aa ae _ _) (.cons rfl rfl (aa ag _ _) (.cons rfl rfl (aa aj _ _) .nil))))))))),?_⟩⟩
    refine⟨by show k2.k+1<=_;omega,?_⟩
    exact⟨hm,fun _=>by show(((k2.k:Nat):Int)).toNat<_;omega⟩
   have g7:0<=k2.p:=by omega
   have hz:=hb.2 g7
   obtain⟨_,rfl,hs⟩:=T9 (x:=k0.s.I[i].g[k2.k]) (hk _ (ags _))
   obtain⟨_,rfl,ht⟩:=T9 (x:=k0.s.I[i].g[k2.p.toNat]) (hk _ (ags hz))
   refine IdxG.of ‹_› (OpG.lk (fg T1 rfl rfl rfl hs) ?_)
   refine OpG.lk (cp Tryz.underlying45 ik rfl rfl (Int.toNat_of_nonneg g7).symm hz) ?_
   refine OpG.lk (fg T1 rfl rfl rfl ht) ?_
   refine ArgG.mk (nk (x:=aZ k0.s.I[i].g[k2.k]) (y:=aZ k0.s.I[i].g[k2.p.toNat]) (aZ_b (hk _ (ags _))) (aZ_b (hk _ (ags _)))) rfl ?_
   rintro _ rfl
   refine⟨by kernel_rfl,?_⟩
   refine cB (fun hh=>?_) (fun hh=>?_)
   ·have g3:((sgZ (aZ k0.s.I[i].g[k2.k]-aZ k0.s.I[i].g[k2.p.toNat])):Int)<(0:Int):=ag3 hh
    have hm:=Sj hd hb.1 ⟨hy,.inr (by rw[Gv hz];have:=R9.1 (by simpa using hh);omega)⟩
    refine⟨by omega,?_⟩
    refine⟨(⟨k2.k+1,((k2.k:Nat):Int)⟩:KP),(by show k0.s.I[i].g.length-(k2.k+1)<k0.s.I[i].g.length-k2.k;omega),(cO (.cons rfl rfl (.cons rfl rfl (.cons rfl rfl (.cons rfl rfl (.cons rfl rfl (.cons rfl rfl (.cons rfl rfl .nil))))))) (.cons rfl rfl rfl (.cons rfl rfl (aa ab _ _) (.cons rfl rfl (aa ai _ _) (.cons rfl rfl (aa ah _ _) (.cons rfl rfl (aa ap _ _) (.cons rfl rfl (aa ae _ _) (.cons rfl rfl (aa ag _ _) (.cons rfl rfl (aa aj _ _) .nil))))))))),?_⟩
    refine⟨by show k2.k+1<=_;omega,?_⟩
    exact⟨hm,fun _=>by show(((k2.k:Nat):Int)).toNat<_;omega⟩
   have g3:¬(((sgZ (aZ k0.s.I[i].g[k2.k]-aZ k0.s.I[i].g[k2.p.toNat])):Int)<(0:Int)):=ag2 hh
   have hm:=Sk hd hb.1 (fun c=>by rcases c.2 with c|c;omega;rw[Gv hz]at c;exact absurd (R9.2 (show aZ k0.s.I[i].g[k2.k]-aZ k0.s.I[i].g[k2.p.toNat]<0 by omega)) (by simpa using hh))
   refine⟨by omega,?_⟩
   refine⟨(⟨k2.k+1,k2.p⟩:KP),(by show k0.s.I[i].g.length-(k2.k+1)<k0.s.I[i].g.length-k2.k;omega),(cO (.cons rfl rfl (.cons rfl rfl (.cons rfl rfl (.cons rfl rfl (.cons rfl rfl (.cons rfl rfl (.cons rfl rfl .nil))))))) (.cons rfl rfl rfl (.cons rfl rfl (aa ab _ _) (.cons rfl rfl (aa ai _ _) (.cons rfl rfl (aa ah _ _) (.cons rfl rfl (aa ap _ _) (.cons rfl rfl (aa ae _ _) (.cons rfl rfl (aa ag _ _) (.cons rfl rfl (aa aj _ _) .nil))))))))),?_⟩
   refine⟨by show k2.k+1<=_;omega,?_⟩
   exact⟨hm,hb.2⟩
  have g1:((sgZ (k0.s.I[i].g[k2.k])):Int)=(0:Int):=by simpa using hg
  have hy:k0.s.I[i].g[k2.k]=0:=sgZ_0.1 (by simpa using hg)
  have hm:=Sk hd hb.1 (fun c=>c.1 hy)
  refine⟨by kernel_rfl,?_⟩
  refine cF ⟨by omega,⟨(⟨k2.k+1,k2.p⟩:KP),(by show k0.s.I[i].g.length-(k2.k+1)<k0.s.I[i].g.length-k2.k;omega),(cO (.cons rfl rfl (.cons rfl rfl (.cons rfl rfl (.cons rfl rfl (.cons rfl rfl (.cons rfl rfl (.cons rfl rfl .nil))))))) (.cons rfl rfl rfl (.cons rfl rfl (aa ab _ _) (.cons rfl rfl (aa ai _ _) (.cons rfl rfl (aa ah _ _) (.cons rfl rfl (aa ap _ _) (.cons rfl rfl (aa ae _ _) (.cons rfl rfl (aa ag _ _) (.cons rfl rfl (aa aj _ _) .nil))))))))),?_⟩⟩
  refine⟨by show k2.k+1<=_;omega,?_⟩
  exact⟨hm,hb.2⟩
 have gc:k2.p=((P:Nat):Int):=(U4 hr hb.1).trans g9
 rw[gc]
 refine LenG.of (LpG.on (fun k4:KI=>(⟨fL [(0,.ptr 1000000 0 0),(1,.v (.int .i64 ((i:Nat):Int))),(5,.clo 214 []),(6,.tree 2 ((k0.s.I[i].g).map bI)),(7,.v (.int .i64 ((P:Nat):Int))),(9,.v (.bool k4.b)),(56,.v (.int .i64 ((k0.s.I[i].g.length:Nat):Int))),(57,.v (.int .i64 ((k4.k:Nat):Int)))],hLz [(1000000,sB k4.s),(1000001,s1 k4.s),(1000002,s2 k4.s),(1000003,s3 k4.s),(1000004,s4 k4.s),(1000005,s5 k4.s),(1000006,s6 k4.s),(1000007,s7 k4.s)],0⟩:St)) (fun k4=>(k0.s.I[i].g.length-k4.k)) (fun k4=>(k4.k<=k0.s.I[i].g.length/\(Gp k0.s.I[i].g P i (k0.s.I[i].g.length-k4.k) k4.k k4.s k4.b=some (s1x,b1x)/\Sam s k4.s))) (⟨0,k0.s,true⟩:KI) (cO (.cons rfl rfl (.cons rfl rfl (.cons rfl rfl (.cons rfl rfl (.cons rfl rfl (.cons rfl rfl (.cons rfl rfl (.cons rfl rfl .nil)))))))) (.cons rfl rfl rfl (.cons rfl rfl (aa ab _ _) (.cons rfl rfl (aa ai _ _) (.cons rfl rfl (aa ah _ _) (.cons rfl rfl (aa ap _ _) (.cons rfl rfl (aa ae _ _) (.cons rfl rfl (aa ag _ _) (.cons rfl rfl (aa aj _ _) .nil))))))))) ⟨ag5 _,⟨gb,hc.2⟩⟩ ?_)
 rintro k4 hf
 obtain⟨hle_k4,ha⟩:=hf
 refine cL (fun hl=>?_) (fun hu=>?_)
 ·obtain⟨hv,gd,hn⟩:=Vw hl ha.1
  refine cN (fun hw=>?_) (fun hw=>?_)
  ·refine OpG.lk (br (k:=i) ag Tryz.underlying215 pk rfl rfl rfl hv rfl hv) ?_
   refine OpG.lk (ic s9 rfl rfl rfl hv) ?_
   refine OpG.lk (LOp.cellN (k:=i) (o:=1) ag vu rfl rfl hv rfl) ?_
   refine IdxG.of ‹_› (ArgG.mk (j8 (x:=k4.s.I[i].g[k4.k]) ((ha.2.ok.I _ (ags hv)).1 _ (ags gd))) rfl ?_)
   rintro _ rfl
   refine cB (fun he=>?_) (fun he=>?_)
   ·have g4:¬(((sgZ (k4.s.I[i].g[k4.k])):Int)=(0:Int)):=by simpa using he
    obtain⟨_,g8,sy,g5,hx⟩:=hn.resolve_right (fun k=>k.1 ⟨fun e=>hw (by omega),fun e=>by rw[e]at he;simp[sgZ]at he⟩)
    rw[Gv hl,Gv hP]at g8 g5
    obtain⟨_,rfl,ge⟩:=Ur k4.s sy k4.k P _ g8 ha.2.ok g5
    skip -- iT
    refine IdxG.of ‹_› (IdxG.of ‹_› ?_)
    refine ArgG.mk (nj (x:=k0.s.I[i].g[k4.k]) (y:=k0.s.I[i].g[P]) (hk _ (ags _)) (hk _ (ags _)) ga) rfl ?_
    rintro _ rfl
    refine⟨by kernel_rfl,?_⟩
    refine OpG.mk _ _ _ 2 (a8 [(1000000,1000000),(1000001,1000001),(1000002,1000002),(1000003,1000003),(1000004,1000004),(1000005,1000005),(1000006,1000006),(1000007,1000007)] aa0 ge rfl rfl rfl rfl ⟨rfl,sX ab,sX ai,sX ah,sX ap,sX ae,sX ag,sX aj,trivial⟩ ⟨⟨rfl,.inl rfl⟩,au ab,au ai,au ah,au ap,au ae,au ag,au aj,trivial⟩ ⟨rfl,aq ab _ _,aq ai _ _,aq ah _ _,aq ap _ _,aq ae _ _,aq ag _ _,aq aj _ _,trivial⟩ rfl rfl rfl rfl uz rfl) rfl rfl ?_
    refine⟨by omega,?_⟩
    refine⟨(⟨k4.k+1,sy,false⟩:KI),(by show k0.s.I[i].g.length-(k4.k+1)<k0.s.I[i].g.length-k4.k;omega),(cO (.cons rfl rfl (.cons rfl rfl (.cons rfl rfl (.cons rfl rfl (.cons rfl rfl (.cons rfl rfl (.cons rfl rfl (.cons rfl rfl .nil)))))))) (.cons rfl rfl rfl (.cons rfl rfl (aa ab _ _) (.cons rfl rfl (aa ai _ _) (.cons rfl rfl (aa ah _ _) (.cons rfl rfl (aa ap _ _) (.cons rfl rfl (aa ae _ _) (.cons rfl rfl (aa ag _ _) (.cons rfl rfl (aa aj _ _) .nil))))))))),?_⟩
    refine⟨by show k4.k+1<=_;omega,?_⟩
    exact⟨hx,ha.2.chg B4 g5⟩
   have g4:((sgZ (k4.s.I[i].g[k4.k])):Int)=(0:Int):=by simpa using he
   have hx:=(hn.resolve_left (fun k=>k.1.2 (sgZ_0.1 (by simpa using he)))).2
   skip -- iF
   refine⟨by omega,?_⟩
   refine⟨(⟨k4.k+1,k4.s,k4.b⟩:KI),(by show k0.s.I[i].g.length-(k4.k+1)<k0.s.I[i].g.length-k4.k;omega),(cO (.cons rfl rfl (.cons rfl rfl (.cons rfl rfl (.cons rfl rfl (.cons rfl rfl (.cons rfl rfl (.cons rfl rfl (.cons rfl rfl .nil)))))))) (.cons rfl rfl rfl (.cons rfl rfl (aa ab _ _) (.cons rfl rfl (aa ai _ _) (.cons rfl rfl (aa ah _ _) (.cons rfl rfl (aa ap _ _) (.cons rfl rfl (aa ae _ _) (.cons rfl rfl (aa ag _ _) (.cons rfl rfl (aa aj _ _) .nil))))))))),?_⟩
   refine⟨by show k4.k+1<=_;omega,?_⟩
   exact⟨hx,ha.2⟩
  have hx:=(hn.resolve_left (fun k=>absurd (show(k4.k:Int)=(P:Int)by omega) (fun e=>k.1.1 (by omega)))).2
  refine cF ⟨by omega,⟨(⟨k4.k+1,k4.s,k4.b⟩:KI),(by show k0.s.I[i].g.length-(k4.k+1)<k0.s.I[i].g.length-k4.k;omega),(cO (.cons rfl rfl (.cons rfl rfl (.cons rfl rfl (.cons rfl rfl (.cons rfl rfl (.cons rfl rfl (.cons rfl rfl (.cons rfl rfl .nil)))))))) (.cons rfl rfl rfl (.cons rfl rfl (aa ab _ _) (.cons rfl rfl (aa ai _ _) (.cons rfl rfl (aa ah _ _) (.cons rfl rfl (aa ap _ _) (.cons rfl rfl (aa ae _ _) (.cons rfl rfl (aa ag _ _) (.cons rfl rfl (aa aj _ _) .nil))))))))),?_⟩⟩
  refine⟨by show k4.k+1<=_;omega,?_⟩
  exact⟨hx,ha.2⟩
 have hR:=Vx hu ha.1
 cases hR
 refine cB (fun hi=>?_) (fun hi=>?_)
 ·have g0:=(hq.resolve_right (fun k=>by rw[k.1]at hi;cases hi)).2
  refine IdxG.of ‹_› (ArgG.mk (j8 (x:=k0.s.I[i].g[P]) (hk _ (ags _))) rfl ?_)
  rintro _ rfl
  refine cD (fun hj=>?_) (fun hj=>?_)
  ·obtain⟨_,sy,gf,hZ⟩:=g0.resolve_right (fun k=>k.1 (R9.1 hj))
   cases hZ
   obtain⟨_,rfl,gg⟩:=aaa k4.s s' _ ha.2.ok gf
   refine OpG.mk _ _ _ 0 (a8 [(1000000,1000000),(1000001,1000001),(1000002,1000002),(1000003,1000003),(1000004,1000004),(1000005,1000005),(1000006,1000006),(1000007,1000007)] aaz gg rfl rfl rfl rfl ⟨rfl,sX ab,sX ai,sX ah,sX ap,sX ae,sX ag,sX aj,trivial⟩ ⟨⟨rfl,.inl rfl⟩,au ab,au ai,au ah,au ap,au ae,au ag,au aj,trivial⟩ ⟨rfl,aq ab _ _,aq ai _ _,aq ah _ _,aq ap _ _,aq ae _ _,aq ag _ _,aq aj _ _,trivial⟩ rfl rfl rfl rfl uz rfl) rfl rfl ?_
   refine⟨.inr rfl,_,Nf.of [] (az rfl (.cons (abn.tmp rfl) .nil)) rfl ⟨.same rfl (by decide),.same rfl (by decide),.same rfl (by decide),.same rfl (by decide),.same rfl (by decide),.same rfl (by decide),.same rfl (by decide),.same rfl (by decide),trivial⟩ .same,?_⟩
   rfl
  have hZ:=(g0.resolve_left (fun k=>hj (R9.2 k.1))).2
  cases hZ
  refine⟨.inr rfl,_,Nf.of [] (az rfl (.cons (abn.tmp rfl) .nil)) rfl ⟨.same rfl (by decide),.same rfl (by decide),.same rfl (by decide),.same rfl (by decide),.same rfl (by decide),.same rfl (by decide),.same rfl (by decide),.same rfl (by decide),trivial⟩ .same,?_⟩
  rfl
 have g0:=(hq.resolve_left (fun k=>by rw[k.1]at hi;cases hi)).2
 refine⟨(⟨k0.k+1,k4.s⟩:KO),(by show F-(k0.k+1)<F-k0.k;omega),(cO (.cons rfl rfl (.cons rfl rfl (.cons rfl rfl .nil))) (.cons rfl rfl rfl (.cons rfl rfl (aa ab _ _) (.cons rfl rfl (aa ai _ _) (.cons rfl rfl (aa ah _ _) (.cons rfl rfl (aa ap _ _) (.cons rfl rfl (aa ae _ _) (.cons rfl rfl (aa ag _ _) (.cons rfl rfl (aa aj _ _) .nil))))))))),?_⟩
 refine⟨by show k0.k+1<=_;omega,?_⟩
 exact⟨g0,ha.2⟩
theorem zu{G:List Int}{p i:Nat}{s0:OSt}:∀(f j:Nat) (s:OSt) (b:Bool) {s':OSt} {b':Bool} (_:Gp G p i f j s b=some (s',b')) (_:Sam s0 s),Sam s0 s'
 |0,j,s,b,s',b',h,hs=>by unfold Gp at h;cases h;exact hs
 |f+1,j,s,b,s',b',h,hs=>by
  unfold Gp at h
  split at h
  ·cases h
  ·split at h
   ·cases h
   ·split at h
    ·split at h
     ·split at h
      ·cases h
      ·next e=>exact zu f _ _ _ h (hs.chg B4 e)
     ·cases h
    ·exact zu f _ _ _ h hs
theorem zv{i:Nat}{s0:OSt}:∀(F:Nat) (s:OSt) {s':OSt} {p:Nat} (_:Lb i F s=some (s',p)) (_:Sam s0 s),Sam s0 s'/\p<s'.n
 |0,s,s',p,h,hs=>by cases h
 |F+1,s,s',p,h,hs=>by
  obtain⟨_,hi,P,hP,_,_,t1,b1,hR,hc⟩:=La (F:=F+1) (k:=0) (i:=i) (s:=s) h
  have h1:=zu _ _ _ _ hR hs
  have ha:P<s0.n:=by rw[(hs.ok.I _ (ags hi)).2.1,hs.n]at hP;exact hP
  rcases hc with⟨_,⟨_,t2,h2,hZ⟩|⟨_,hZ⟩⟩|⟨_,hn⟩
  ·cases hZ
   have h3:=h1.chg K6 h2
   exact⟨h3,by rw[h3.n];exact ha⟩
  ·cases hZ;exact⟨h1,by rw[h1.n];exact ha⟩
  ·exact zv F t1 (by simpa using hn) h1
theorem aar{s s':OSt}{g:List Int}{us:List UsS}{x:ItS}{sm ok:Bool}(h0:0<us.length)(h:Cm s g us=some (s',x,sm,ok)):s.K.length<=s'.K.length:=by
 by_cases hc:1<us.length\/dOf g≠1
 ·obtain⟨_,q,_,rfl,_⟩:=Ak h hc
  simp
 ·obtain⟨j,hj,_,rfl,_⟩:=Ei h0 h hc
  exact ag7 _
theorem Y2{s s':OSt}{g:List Int}{us:List UsS}{ok:Bool}(h0:0<us.length)(hg:BL g)(hl:g.length=s.n)(ho:OOk s)(h:xf s g us=some (s',ok)):s.K.length<=s'.K.length:=by
 obtain⟨t1,x,sm,hd,hc⟩:=Br h
 have h1:=aar h0 hd
 obtain⟨h2,_,h3⟩:=Eh hd ho h0 hg hl
 rcases hc with⟨_,ha⟩|⟨_,rfl⟩
 ·rw[(Eu ha h2 h3).2.2];exact h1
 ·exact h1
structure Lat(s t:OSt):Prop where
 ok:OOk t
 n:t.n=s.n
 K:s.K.length<=t.K.length
theorem Lat.it{s t:OSt}(h:Lat s t){x:ItS}(hx:I7 s x):I7 t x:=by
 obtain⟨a,b,j,c,d⟩:=hx
 exact⟨a,b.trans h.n.symm,j,c,Nat.lt_of_lt_of_le d h.K⟩
theorem Lat.add{s t t':OSt}{x:ItS}(h:Lat s t)(hx:I7 s x)(e:xg t x=some t'):Lat s t':=by
 obtain⟨a,b,c⟩:=Eu e h.ok (h.it hx)
 exact⟨a,b.trans h.n,by rw[c];exact h.K⟩
theorem Lat.put{s t t':OSt}{g:List Int}{us:List UsS}{ok:Bool}(h:Lat s t)(h0:0<us.length)(hg:BL g)(hl:g.length=t.n)(e:xf t g us=some (t',ok)):Lat s t':=by
 obtain⟨a,b⟩:=Dr e h.ok h0 hg hl
 exact⟨a,b.trans h.n,aha h.K (Y2 h0 hg hl h.ok e)⟩
abbrev Wa(s:OSt)(p:Nat)(up:ItS):OSt:={s with T:=s.T.set p 1,V:=s.V.set p (bnd s up),I:=[],vI:=s.vI+1}
theorem K4{s:OSt}{p:Nat}{up:ItS}(h:OOk s)(hu:I7 s up):Lat s (Wa s p up):=
 ⟨⟨h.n1,h.n2,h.K,fun x hx=>by simp at hx,h.Ul,h.U,by simpa using h.T,by simpa using h.Vl,rp h.V (h.bB hu)⟩,rfl,ag7 _⟩
theorem G1{s s':OSt}{i j:Nat}{ok:Bool}(h:eqO s i j=some (s',ok)):∃(t:OSt) (p:Nat) (hi:i<t.I.length) (hj:j<t.I.length),Lb i (1000-0) s=some (t,p)/\p<t.n/\SzS t/\eqF i j p t.I[i] t.I[j] (t.I.drop 0) 0 (Wa t p t.I[i])=some (s',ok):=by
 unfold eqO at h
 split at h
 ·cases h
 ·next t p e=>
  split at h
  ·next up down e1 e2=>
   obtain⟨hi,rfl⟩:=ahl.1 e1
   obtain⟨hj,rfl⟩:=ahl.1 e2
   split at h
   ·next hc=>exact⟨t,p,hi,hj,e,hc.1,hc.2,h⟩
   ·cases h
  ·cases h
theorem Ks{x:Int}(h:B1 x):B1 (-x):=⟨by omega,by omega⟩
theorem adc{s:OSt}{p:Nat}{x:ItS}:(⟨0,[.v (.int .i64 ((s.n:Nat):Int)),.sl 1000001 s.vK 0 s.K.length,.sl 1000002 s.vS 0 s.S.length,.sl 1000003 s.vU 0 s.U.length,.sl 1000004 0 0 s.T.length,.sl 1000005 0 0 s.V.length,.sl 1000006 (s.vI+1) 0 0,.sl 1000007 s.vE 0 s.E.length],0,false⟩:Blk)=sB (Wa s p x):=by simp only[sB,List.length_set,ahf]
theorem aa2:bw Tryz.prog 179=true:=by kernel_rfl
theorem pl48:mt Tryz.prog 48=some [(0,1),(1,1)]:=by kernel_rfl
theorem Wn(s s':OSt)(i j:Nat)(ok:Bool)(ho:OOk s)(h:eqO s i j=some (s',ok)):qa Tryz.prog 152 [.ptr 1000000 0 0,.v (.int .i64 ((i:Nat):Int)),.v (.int .i64 ((j:Nat):Int))] [(1000000,sB s),(1000001,s1 s),(1000002,s2 s),(1000003,s3 s),(1000004,s4 s),(1000005,s5 s),(1000006,s6 s),(1000007,s7 s)] [(1000000,some (sB s')),(1000001,some (s1 s')),(1000002,some (s2 s')),(1000003,some (s3 s')),(1000004,some (s4 s')),(1000005,some (s5 s')),(1000006,some (s6 s')),(1000007,some (s7 s'))] (fun q=>q=.v (.bool ok)):=by
 obtain⟨t,p,hl,ht,hm,hpn,⟨z1,z2,z3,z4,z5,z6,z7,z8⟩,he⟩:=G1 h
 obtain⟨g2,_⟩:=zv _ _ hm (As ho)
 have hg:=g2.ok
 have hTl:=hg.T
 have hVl:=hg.Vl
 have g3:=hg.n2
 obtain⟨_,rfl,g4⟩:=K9 s t i p 1000 (by decide) ho hm
 obtain⟨_,rfl,hu⟩:=Ms t t.I[i] (hg.I _ (ags hl))
 refine qa.of_vc jc [18,24,25,31,32,45,46,47,80,83,86,87,107,108,100046,100047,100087] [6,18] Tryz.func152 rfl Tryz.ntmps152 rfl (by kernel_rfl) (OpG.mk _ _ _ 0 (a8 [(1000000,1000000),(1000001,1000001),(1000002,1000002),(1000003,1000003),(1000004,1000004),(1000005,1000005),(1000006,1000006),(1000007,1000007)] aa2 g4 rfl rfl rfl rfl ⟨rfl,sX ab,sX ai,sX ah,sX ap,sX ae,sX ag,sX aj,trivial⟩ ⟨⟨rfl,.inl rfl⟩,au ab,au ai,au ah,au ap,au ae,au ag,au aj,trivial⟩ ⟨rfl,aq ab _ _,aq ai _ _,aq ah _ _,aq ap _ _,aq ae _ _,aq ag _ _,aq aj _ _,trivial⟩ rfl rfl rfl rfl uz rfl) rfl rfl ?_)
 refine OpG.lk (br (k:=i) ag Tryz.underlying215 pk rfl rfl rfl hl rfl hl) (OpG.lk (jz (k:=i) ag m9 rfl rfl hl) ?_)
 refine OpG.lk (br (k:=j) ag Tryz.underlying215 pk rfl rfl rfl ht rfl ht) (OpG.lk (jz (k:=j) ag m9 rfl rfl ht) ?_)
 refine⟨by kernel_rfl,OpG.lk (co (a8 [(1000000,1000000),(1000001,1000001),(1000002,1000002),(1000003,1000003),(1000004,1000004),(1000005,1000005),(1000006,1000006),(1000007,1000007)] t6 hu rfl rfl rfl rfl ⟨rfl,sX ab,sX ai,sX ah,sX ap,sX ae,sX ag,sX aj,trivial⟩ ⟨⟨rfl,.inl rfl⟩,au ab,au ai,au ah,au ap,au ae,au ag,au aj,trivial⟩ ⟨rfl,aq ab _ _,aq ai _ _,aq ah _ _,aq ap _ _,aq ae _ _,aq ag _ _,aq aj _ _,trivial⟩ rfl rfl rfl rfl uz rfl) ⟨⟨.head _,rfl,rfl⟩,⟨.tail _ (.head _),rfl,rfl⟩,⟨.tail _ (.tail _ (.head _)),rfl,rfl⟩,⟨.tail _ (.tail _ (.tail _ (.head _))),rfl,rfl⟩,⟨.tail _ (.tail _ (.tail _ (.tail _ (.head _)))),rfl,rfl⟩,⟨.tail _ (.tail _ (.tail _ (.tail _ (.tail _ (.head _))))),rfl,rfl⟩,⟨.tail _ (.tail _ (.tail _ (.tail _ (.tail _ (.tail _ (.head _)))))),rfl,rfl⟩,⟨.tail _ (.tail _ (.tail _ (.tail _ (.tail _ (.tail _ (.tail _ (.head _))))))),rfl,rfl⟩,trivial⟩) ?_⟩
 refine OpG.lk (br (k:=p) ap Tryz.underlying27 sz3 rfl rfl rfl (by omega) rfl (by omega)) (OpG.wr (jw (k:=p) (o:=0) (v:=1) ap sz3 rfl rfl rfl rfl rfl rfl (by omega) (by decide) rfl) rfl ?_)
 refine OpG.lk (br (k:=p) ae Tryz.underlying45 ik rfl rfl rfl (by omega) rfl (by omega)) (OpG.wr (jw (k:=p) (o:=0) (v:=bnd t t.I[i]) ae ik rfl rfl rfl rfl rfl rfl (by omega) (by decide) rfl) rfl ?_)
 refine⟨by kernel_rfl,RegG.via (fun _ h=>Nx 1000006 1000000 10 t.vI 0 0 2 (.tree 2 (t.I.map itA)) rfl rfl rfl rfl (j6 ag (agx.2 rfl) rfl) (.keep (.keep (.keep (.keep (.keep (.keep (.here _))))))) h) ?_⟩
 refine RegG.via (fun _ h=>ck 1000000 (sB (Wa t p t.I[i])) rfl (adc) h) (aw ?_)
 refine LenG.of (LpG.on (fun k0:KO=>(⟨fL [(0,.ptr 1000000 0 0),(1,.v (.int .i64 ((i:Nat):Int))),(2,.v (.int .i64 ((j:Nat):Int))),(7,.v (.int .i64 ((p:Nat):Int))),(8,.ptr 0 0 0),(9,.ptr 1 0 0),(55,.tree 2 (t.I.map itA)),(56,.v (.int .i64 ((t.I.length:Nat):Int))),(57,.v (.int .i64 ((k0.k:Nat):Int)))],hLz [(0,⟨0,itA t.I[i],0,false⟩),(1,⟨0,itA t.I[j],0,false⟩),(1000000,sB k0.s),(1000001,s1 k0.s),(1000002,s2 k0.s),(1000003,s3 k0.s),(1000004,s4 k0.s),(1000005,s5 k0.s),(1000006,s6 k0.s),(1000007,s7 k0.s)],2⟩:St)) (fun k0=>(t.I.length-k0.k)) (fun k0=>(k0.k<=t.I.length/\(eqF i j p t.I[i] t.I[j] (t.I.drop k0.k) k0.k k0.s=some (s',ok)/\Lat t k0.s))) (⟨0,Wa t p t.I[i]⟩:KO) (cO (.cons rfl rfl (.cons rfl rfl (.cons rfl rfl (.cons rfl rfl (.cons rfl rfl (.cons rfl rfl (.cons rfl rfl (.cons rfl rfl (.cons rfl rfl .nil))))))))) (.cons rfl rfl rfl (.cons rfl rfl rfl (.cons rfl rfl rfl (.cons rfl rfl (aa ab _ _) (.cons rfl rfl (aa ai _ _) (.cons rfl rfl (aa ah _ _) (.cons rfl rfl (aa ap _ _) (.cons rfl rfl (aa ae _ _) (.cons rfl rfl (aa ag _ _) (.cons rfl rfl (aa aj _ _) .nil))))))))))) ⟨ag5 _,⟨he,K4 hg (hg.I _ (ags hl))⟩⟩ ?_)
 rintro k0 hv
 obtain⟨hle_k0,hd⟩:=hv
 refine cL (fun hb=>?_) (fun hn=>?_)
 ·have hx:=aaj hb hd.1
  refine IdxG.of ‹_› (cE (fun hy=>?_) (fun hy=>?_))
  have hi:=(hx.resolve_right (fun k=>k.1 (.inl (by omega)))).2
  skip -- u0
  refine cT ⟨by omega,⟨(⟨k0.k+1,k0.s⟩:KO),(by show t.I.length-(k0.k+1)<t.I.length-k0.k;omega),(cO (.cons rfl rfl (.cons rfl rfl (.cons rfl rfl (.cons rfl rfl (.cons rfl rfl (.cons rfl rfl (.cons rfl rfl (.cons rfl rfl (.cons rfl rfl .nil))))))))) (.cons rfl rfl rfl (.cons rfl rfl rfl (.cons rfl rfl rfl (.cons rfl rfl (aa ab _ _) (.cons rfl rfl (aa ai _ _) (.cons rfl rfl (aa ah _ _) (.cons rfl rfl (aa ap _ _) (.cons rfl rfl (aa ae _ _) (.cons rfl rfl (aa ag _ _) (.cons rfl rfl (aa aj _ _) .nil))))))))))),?_⟩⟩
  exact⟨by show k0.k+1<=_;omega,⟨hi,hd.2⟩⟩
  refine cE (fun hz=>?_) (fun hz=>?_)
  ·have hi:=(hx.resolve_right (fun k=>k.1 (.inr (by omega)))).2
   skip -- u0
   refine⟨by omega,⟨(⟨k0.k+1,k0.s⟩:KO),(by show t.I.length-(k0.k+1)<t.I.length-k0.k;omega),(cO (.cons rfl rfl (.cons rfl rfl (.cons rfl rfl (.cons rfl rfl (.cons rfl rfl (.cons rfl rfl (.cons rfl rfl (.cons rfl rfl (.cons rfl rfl .nil))))))))) (.cons rfl rfl rfl (.cons rfl rfl rfl (.cons rfl rfl rfl (.cons rfl rfl (aa ab _ _) (.cons rfl rfl (aa ai _ _) (.cons rfl rfl (aa ah _ _) (.cons rfl rfl (aa ap _ _) (.cons rfl rfl (aa ae _ _) (.cons rfl rfl (aa ag _ _) (.cons rfl rfl (aa aj _ _) .nil))))))))))),?_⟩⟩
   exact⟨by show k0.k+1<=_;omega,⟨hi,hd.2⟩⟩
  obtain⟨_,hp,hc⟩:=hx.resolve_left (fun k=>by rcases k.1 with k|k<;>omega)
  have g0:t.I[k0.k].g.length=k0.s.n:=(hg.I _ (ags hb)).2.1.trans hd.2.n.symm
  have hgm:t.I[k0.k].g.length<=1000:=by rw[(hg.I _ (ags hb)).2.1];exact g3
  refine IdxG.of ‹_› (ArgG.mk (j8 (x:=t.I[k0.k].g[p]) ((hg.I _ (ags hb)).1 _ (ags hp))) rfl ?_)
  rintro _ rfl
  refine cE (fun hj=>?_) (fun hj=>?_)
  ·obtain⟨_,sy,ha,hi⟩:=hc.resolve_right (fun k=>k.1 (sgZ_0.1 hj))
   have hr:=hd.2.add (hg.I _ (ags hb)) ha
   obtain⟨_,rfl,g5⟩:=abl k0.s sy t.I[k0.k] hd.2.ok (hd.2.it (hg.I _ (ags hb))) ha
   skip -- u1
   refine OpG.mk _ _ _ 4 (a8 [(1000000,1000000),(1000001,1000001),(1000002,1000002),(1000003,1000003),(1000004,1000004),(1000005,1000005),(1000006,1000006),(1000007,1000007)] T2 g5 rfl rfl rfl rfl ⟨rfl,sX ab,sX ai,sX ah,sX ap,sX ae,sX ag,sX aj,trivial⟩ ⟨⟨rfl,.inl rfl⟩,au ab,au ai,au ah,au ap,au ae,au ag,au aj,trivial⟩ ⟨rfl,aq ab _ _,aq ai _ _,aq ah _ _,aq ap _ _,aq ae _ _,aq ag _ _,aq aj _ _,trivial⟩ rfl rfl rfl rfl uz rfl) rfl rfl ⟨by omega,⟨(⟨k0.k+1,sy⟩:KO),(by show t.I.length-(k0.k+1)<t.I.length-k0.k;omega),(cO (.cons rfl rfl (.cons rfl rfl (.cons rfl rfl (.cons rfl rfl (.cons rfl rfl (.cons rfl rfl (.cons rfl rfl (.cons rfl rfl (.cons rfl rfl .nil))))))))) (.cons rfl rfl rfl (.cons rfl rfl rfl (.cons rfl rfl rfl (.cons rfl rfl (aa ab _ _) (.cons rfl rfl (aa ai _ _) (.cons rfl rfl (aa ah _ _) (.cons rfl rfl (aa ap _ _) (.cons rfl rfl (aa ae _ _) (.cons rfl rfl (aa ag _ _) (.cons rfl rfl (aa aj _ _) .nil))))))))))),?_⟩⟩
   exact⟨by show k0.k+1<=_;omega,⟨hi,hr⟩⟩
  obtain⟨_,sy,okx,hq,hs⟩:=hc.resolve_left (fun k=>hj (sgZ_0.2 k.1))
  have hr:=hd.2.put (by simp) (rp (hg.I _ (ags hb)).1 Hm) (by rw[List.length_set];exact g0) hq
  refine OpG.mk _ _ _ 5 (a8 [(0,4)] Hk (mh ace ae t.I[k0.k].g (by omega) (by omega)) rfl rfl rfl rfl trivial trivial ⟨aq ae _ _,trivial⟩ rfl rfl rfl rfl (di ae rfl) rfl) rfl rfl (OpG.lk (Xo (Nr A4 pl48 rfl rfl) (fun _=>FzP.aggL (.cons (.pure rfl) (.cons (FzP.nil (n:=1)) .nil)))) ?_)
  refine OpG.lk (av (k:=p) ae Tryz.underlying45 ik rfl rfl rfl hp rfl) (OpG.wr (bl (k:=p) (o:=0) (v:=0) ae ik rfl rfl rfl rfl rfl rfl hp (by decide) rfl) rfl ?_)
  refine ArgG.mk (j8 (x:=t.I[k0.k].g[p]) ((hg.I _ (ags hb)).1 _ (ags hp))) rfl ?_
  rintro _ rfl
  refine cD (fun hk=>?_) (fun hk=>?_)
  ·rw[ag1 (R9.1 hk)]at hq
   skip -- uT
   refine ArgG.mk (wc (x:=t.I[k0.k].g[p]) ((hg.I _ (ags hb)).1 _ (ags hp))) rfl ?_
   rintro _ rfl
   refine⟨by kernel_rfl,RegG.via (fun _ h=>bm [4] 14 (.tree 2 ((t.I[k0.k].g.set p 0).map bI)) (b7 ae (agx.2 rfl) rfl (by simp)) rfl h) ?_⟩
   obtain⟨_,rfl,g1⟩:=Pd (t.I[k0.k].g.set p 0) [(⟨t.I[k0.k].a,1⟩:UsS),(⟨t.I[i].a,-t.I[k0.k].g[p]⟩:UsS)] k0.s sy okx hd.2.ok (by rw[List.length_set];exact g0) (rp (hg.I _ (ags hb)).1 Hm) (fun w hw=>by(rcases ahi.1 hw with rfl|hw;exact qu;rw[agx.1 hw];exact Ks ((hg.I _ (ags hb)).1 _ (ags hp)))) (by simp) (by simp) (fun h=>absurd h (by simp)) hq
   refine aw (ArgG.mk (pm (n:=1) ⟨by decide,by decide⟩) rfl ?_)
   rintro _ rfl
   refine OpG.nw (bq (cj Tryz.underlying121 Ou N6 rfl rfl rfl rfl) (fun η' h=>bc (f:=usA) (l:=[(⟨t.I[k0.k].a,1⟩:UsS),(⟨t.I[i].a,-t.I[k0.k].g[p]⟩:UsS)]) (agx.2 rfl) h rfl rfl rfl rfl rfl (fun a _=>⟨rfl,rfl⟩))) rfl (OpG.mk _ _ _ 7 (a8 [(1000000,1000000),(1000001,1000001),(1000002,1000002),(1000003,1000003),(1000004,1000004),(1000005,1000005),(1000006,1000006),(1000007,1000007)] Hj g1 rfl rfl rfl rfl ⟨rfl,sX ab,sX ai,sX ah,sX ap,sX ae,sX ag,sX aj,trivial⟩ ⟨⟨rfl,.inl rfl⟩,au ab,au ai,au ah,au ap,au ae,au ag,au aj,trivial⟩ ⟨rfl,aq ab _ _,aq ai _ _,aq ah _ _,aq ap _ _,aq ae _ _,aq ag _ _,aq aj _ _,trivial⟩ rfl rfl rfl rfl uz rfl) rfl rfl ?_)
   refine⟨by kernel_rfl,cB (fun hf=>?_) (fun hf=>?_)⟩
   ·have hR:=(hs.resolve_left (fun k=>by rw[k.1]at hf;cases hf)).2
    cases hR
    refine⟨.inr rfl,_,Nf.of [] (az rfl (.cons (abn.tmp rfl) .nil)) rfl ⟨.same rfl (by decide),.same rfl (by decide),.same rfl (by decide),.same rfl (by decide),.same rfl (by decide),.same rfl (by decide),.same rfl (by decide),.same rfl (by decide),trivial⟩ .same,?_⟩
    rfl
   have hi:=(hs.resolve_right (fun k=>by rw[k.1]at hf;cases hf)).2
   refine⟨by omega,⟨(⟨k0.k+1,sy⟩:KO),(by show t.I.length-(k0.k+1)<t.I.length-k0.k;omega),(cO (.cons rfl rfl (.cons rfl rfl (.cons rfl rfl (.cons rfl rfl (.cons rfl rfl (.cons rfl rfl (.cons rfl rfl (.cons rfl rfl (.cons rfl rfl .nil))))))))) (.cons rfl rfl rfl (.cons rfl rfl rfl (.cons rfl rfl rfl (.cons rfl rfl (aa ab _ _) (.cons rfl rfl (aa ai _ _) (.cons rfl rfl (aa ah _ _) (.cons rfl rfl (aa ap _ _) (.cons rfl rfl (aa ae _ _) (.cons rfl rfl (aa ag _ _) (.cons rfl rfl (aa aj _ _) .nil))))))))))),?_⟩⟩
   exact⟨by show k0.k+1<=_;omega,⟨hi,hr⟩⟩
  rw[ag0 (fun k=>hk (R9.2 k))]at hq
  skip -- uF
  refine RegG.via (fun _ h=>bm [4] 14 (.tree 2 ((t.I[k0.k].g.set p 0).map bI)) (b7 ae (agx.2 rfl) rfl (by simp)) rfl h) ?_
  obtain⟨_,rfl,g1⟩:=Pd (t.I[k0.k].g.set p 0) [(⟨t.I[k0.k].a,1⟩:UsS),(⟨t.I[j].a,t.I[k0.k].g[p]⟩:UsS)] k0.s sy okx hd.2.ok (by rw[List.length_set];exact g0) (rp (hg.I _ (ags hb)).1 Hm) (fun w hw=>by(rcases ahi.1 hw with rfl|hw;exact qu;rw[agx.1 hw];exact((hg.I _ (ags hb)).1 _ (ags hp)))) (by simp) (by simp) (fun h=>absurd h (by simp)) hq
  refine aw (ArgG.mk (pm (n:=1) ⟨by decide,by decide⟩) rfl ?_)
  rintro _ rfl
  refine OpG.nw (bq (cj Tryz.underlying121 Ou N6 rfl rfl rfl rfl) (fun η' h=>bc (f:=usA) (l:=[(⟨t.I[k0.k].a,1⟩:UsS),(⟨t.I[j].a,t.I[k0.k].g[p]⟩:UsS)]) (agx.2 rfl) h rfl rfl rfl rfl rfl (fun a _=>⟨rfl,rfl⟩))) rfl (OpG.mk _ _ _ 7 (a8 [(1000000,1000000),(1000001,1000001),(1000002,1000002),(1000003,1000003),(1000004,1000004),(1000005,1000005),(1000006,1000006),(1000007,1000007)] Hj g1 rfl rfl rfl rfl ⟨rfl,sX ab,sX ai,sX ah,sX ap,sX ae,sX ag,sX aj,trivial⟩ ⟨⟨rfl,.inl rfl⟩,au ab,au ai,au ah,au ap,au ae,au ag,au aj,trivial⟩ ⟨rfl,aq ab _ _,aq ai _ _,aq ah _ _,aq ap _ _,aq ae _ _,aq ag _ _,aq aj _ _,trivial⟩ rfl rfl rfl rfl uz rfl) rfl rfl ?_)
  refine⟨by kernel_rfl,cB (fun hf=>?_) (fun hf=>?_)⟩
  ·have hR:=(hs.resolve_left (fun k=>by rw[k.1]at hf;cases hf)).2
   cases hR
   refine⟨.inr rfl,_,Nf.of [] (az rfl (.cons (abn.tmp rfl) .nil)) rfl ⟨.same rfl (by decide),.same rfl (by decide),.same rfl (by decide),.same rfl (by decide),.same rfl (by decide),.same rfl (by decide),.same rfl (by decide),.same rfl (by decide),trivial⟩ .same,?_⟩
   rfl
  have hi:=(hs.resolve_right (fun k=>by rw[k.1]at hf;cases hf)).2
  refine⟨by omega,⟨(⟨k0.k+1,sy⟩:KO),(by show t.I.length-(k0.k+1)<t.I.length-k0.k;omega),(cO (.cons rfl rfl (.cons rfl rfl (.cons rfl rfl (.cons rfl rfl (.cons rfl rfl (.cons rfl rfl (.cons rfl rfl (.cons rfl rfl (.cons rfl rfl .nil))))))))) (.cons rfl rfl rfl (.cons rfl rfl rfl (.cons rfl rfl rfl (.cons rfl rfl (aa ab _ _) (.cons rfl rfl (aa ai _ _) (.cons rfl rfl (aa ah _ _) (.cons rfl rfl (aa ap _ _) (.cons rfl rfl (aa ae _ _) (.cons rfl rfl (aa ag _ _) (.cons rfl rfl (aa aj _ _) .nil))))))))))),?_⟩⟩
  exact⟨by show k0.k+1<=_;omega,⟨hi,hr⟩⟩
 have hR:=aak hn hd.1
 cases hR
 refine⟨.inr rfl,_,Nf.of [] (az rfl (.cons (abn.tmp rfl) .nil)) rfl ⟨.same rfl (by decide),.same rfl (by decide),.same rfl (by decide),.same rfl (by decide),.same rfl (by decide),.same rfl (by decide),.same rfl (by decide),.same rfl (by decide),trivial⟩ .same,?_⟩
 rfl
end Go.Proofs.YtbhhmbchdponjaaGreatDoor
