/- Texts of the claim. -/
import Derived.Test.YtmbmbhkemgmhfaaGreatDoorT3
import Derived.Test.YtmbmbhkemgmhfaaGreatDoorQ2
namespace Go.Proofs
open Go.Shelf
def Tryz.cloI_ren:Go.Shelf.Ren:=⟨fun|41=>94|n=>n,fun|22=>131|23=>196|4=>4|n=>n,fun|n=>n⟩
theorem Tryz.cloI:Go.Proofs.SlLaysE0.n41 Tryz.prog Tryz.cloI_ren:={
 mixed:=by kernel_rfl
 f41:=⟨Tryz.f94.name,by decide,Tryz.func94.trans (congrArg some (by kernel_rfl))⟩
 t4:=Tryz.underlying4
 a4:=Tryz.isAgg4
 z4:=Tryz.sizeOf4
 v4:=Tryz.zeroValue4
 t22:=Tryz.underlying131
 a22:=Tryz.isAgg131
 z22:=Tryz.sizeOf131
 v22:=Tryz.zeroValue131}
end Go.Proofs
namespace Go.Proofs.YtmbmbhkemgmhfaaGreatDoor
set_option maxRecDepth 1000000
set_option maxHeartbeats 0
open Go.Shelf in
theorem cl_I:CloneL Tryz.prog 94 3:=⟨⟨Tryz.cloI_ren,Tryz.t196,_,_,rfl,Tryz.cloI,by kernel_rfl,rfl,rfl,rfl,rfl,Tryz.sizeOf196,by decide⟩,by decide⟩
set_option linter.unusedVariables false
set_option linter.unusedSimpArgs false
open Go.RowKit
abbrev Jy(n i:Nat):List Int:=(List.replicate n 0).set i 1
abbrev nuS(n:Nat)(sys:List IqS):OSt:={n:=n,K:=sys,vK:=0,S:=[],vS:=0,U:=(List.range n).map (Jy n),vU:=n,T:=List.replicate n 0,V:=List.replicate n 0,I:=[],vI:=0,E:=[],vE:=0}
theorem Ui{n i:Nat}:(Jy n i).length=n:=by simp
theorem Uj{n k:Nat}:(List.range k).map (Jy n)++[Jy n k]=(List.range (k+1)).map (Jy n):=by rw[List.range_succ,ahi];rfl
theorem S3{n:Nat}{sys:List IqS}(h1:1<=n)(h2:n<=1000)(h3:∀q∈sys,BQ q/\q.cs.length=n):OOk (nuS n sys):=
 ⟨h1,h2,h3,fun x hx=>by simp at hx,by simp,fun r hr=>by
  obtain⟨i,_,rfl⟩:=ahj.1 hr
  exact⟨q9 (tl n) Xj,Ui⟩,by simp,by simp,tl n⟩
theorem flg{α:Type}{l:List α}(h:0<l.length):Nat.beq l.length 0=false:=jv (by omega)
theorem blkI{n v:Nat}(h:1<=n):some (⟨v,rF iA (List.replicate n 0),1,false⟩:Blk)=some ⟨v,rF iA (List.replicate n 0),1,Nat.beq (List.replicate n (0:Int)).length 0⟩:=by rw[flg (by simp;omega)]
theorem blkB{n v:Nat}(h:1<=n):some (⟨v,rF bI (List.replicate n 0),2,false⟩:Blk)=some ⟨v,rF bI (List.replicate n 0),2,Nat.beq (List.replicate n (0:Int)).length 0⟩:=by rw[flg (by simp;omega)]
theorem blkK{sys:List IqS}{v:Nat}(h:0<sys.length):some (⟨v,rF iqA sys,3,false⟩:Blk)=some ⟨v,rF iqA sys,3,Nat.beq sys.length 0⟩:=by rw[flg h]
theorem agb:bv Tryz.prog 94=true:=by kernel_rfl
theorem by3:(Tryz.prog.info? 3).map (·.bytes)=some 8:=by kernel_rfl
theorem by66:(Tryz.prog.info? 66).map (·.bytes)=some 24:=by kernel_rfl
theorem zr66:bi Tryz.prog 66=some (.slice none 0 0):=by kernel_rfl
theorem Ie(sys:List IqS)(hsys:fy sys (fun y=>True))(n:Nat)(h1:1<=n)(h2:n<=1000)(h4:0<sys.length)(hl:sys.length<=100000):o7 Tryz.prog 71 [.v (.int .i64 ((n:Nat):Int)),.tree 3 (sys.map iqA)] [] [(3,some (⟨0,[.v (.int .i64 (((nuS n sys).n:Nat):Int)),.sl 0 (nuS n sys).vK 0 (nuS n sys).K.length,.sl 4 (nuS n sys).vS 0 (nuS n sys).S.length,.sl 7 (nuS n sys).vU 0 (nuS n sys).U.length,.sl 1 0 0 (nuS n sys).T.length,.sl 2 0 0 (nuS n sys).V.length,.sl 5 (nuS n sys).vI 0 (nuS n sys).I.length,.sl 6 (nuS n sys).vE 0 (nuS n sys).E.length],0,false⟩)),(0,some (s1 (nuS n sys))),(4,some (s2 (nuS n sys))),(7,some (s3 (nuS n sys))),(1,some (s4 (nuS n sys))),(2,some (s5 (nuS n sys))),(5,some (s6 (nuS n sys))),(6,some (s7 (nuS n sys)))] (fun q=>q=.ptr 3 0 0):=by
 refine o7.of_vc ik [10,12,14,22,26,100026] [2,7] Tryz.func71 rfl Tryz.ntmps71 rfl (by kernel_rfl) (OpG.mk _ _ _ 1 (a8 [(0,0)] agb (o8 cl_I ag sys h4 (by omega)) rfl rfl rfl rfl trivial trivial ⟨au ag _ _,trivial⟩ rfl rfl rfl rfl (l7 ag rfl) rfl) rfl rfl ?_)
 refine OpG.nw (oc (len:=n) ao 1 Tryz.underlying58 sz3 zr3 by3 rfl rfl rfl rfl rfl (by omega) (by omega) (by omega)) rfl (OpG.nw (cq 2 (len:=n) Tryz.underlying66 jf Dj E6 rfl rfl rfl (by omega)) rfl ?_)
 refine⟨by kernel_rfl,RegG.via (fun _ h=>dc 3 2 3 rfl rfl rfl rfl rfl 5 rfl h) ?_⟩
 refine RegG.via (fun _ h=>dc 3 6 2 rfl rfl rfl rfl rfl 6 rfl h) (RegG.via (fun _ h=>dc 3 7 3 rfl rfl rfl rfl rfl 7 rfl h) ?_)
 refine ba (LpG.via (fun _ h=>dc 3 3 1 rfl rfl rfl rfl rfl 8 rfl h) ?_)
 refine LpG.on (fun k0:KL (List Int)=>(⟨fL [(0,.v (.int .i64 ((n:Nat):Int))),(5,.ptr 3 0 0),(17,.v (.int .i64 ((n:Nat):Int))),(18,.v (.int .i64 ((k0.k:Nat):Int)))],hLz [(0,⟨0,rF iqA sys,3,false⟩),(1,⟨0,rF iA (List.replicate n 0),1,false⟩),(2,⟨0,rF bI (List.replicate n 0),2,false⟩),(3,⟨0,[.v (.int .i64 ((n:Nat):Int)),.sl 0 0 0 sys.length,.sl 4 0 0 0,.sl 7 k0.L.length 0 k0.L.length,.sl 1 0 0 n,.sl 2 0 0 n,.sl 5 0 0 0,.sl 6 0 0 0],0,false⟩),(4,⟨0,[],3,true⟩),(5,⟨0,[],2,true⟩),(6,⟨0,[],3,true⟩),(7,⟨k0.L.length,rF rlA k0.L,1,Nat.beq k0.L.length 0⟩)],8⟩:St)) (fun k0=>(n-k0.k)) (fun k0=>(k0.k<=n/\(k0.L=(List.range k0.k).map (Jy n)))) (⟨0,[]⟩:KL (List Int)) (cO (.cons rfl rfl (.cons rfl rfl (.cons rfl rfl (.cons rfl rfl .nil)))) (.cons rfl rfl (aa ag _ _) (.cons rfl rfl (aa ao _ _) (.cons rfl rfl (aa ab _ _) (.cons (by rfl) rfl rfl (.cons rfl rfl rfl (.cons rfl rfl rfl (.cons rfl rfl rfl (.cons (by rfl) rfl (aa ah _ _) .nil))))))))) ⟨ag6 _,rfl⟩ ?_
 rintro k0 h3
 obtain⟨hle_k0,h0⟩:=h3
 refine cL (fun hlt19=>?_) (fun hge19=>?_)
 ·have h6:k0.L.length=k0.k:=by rw[h0];simp
  refine OpG.nw (cq 8 (len:=n) Tryz.underlying66 jf Dj E6 rfl rfl rfl (by omega)) rfl (ArgG.mk (nq (n:=1) ⟨by decide,by decide⟩) rfl ?_)
  rintro _ rfl
  refine OpG.lk (ak (k:=k0.k) ab Tryz.underlying66 jf rfl rfl rfl (by omega) rfl) (OpG.wr (az (k:=k0.k) (o:=0) (v:=1) ab jf rfl rfl rfl rfl rfl rfl (by simp;omega) (by decide) rfl) rfl ?_)
  refine RegG.via (fun _ h=>br [8] 7 (.tree 2 ((Jy n k0.k).map bI)) (bn ab (agy.2 rfl) rfl (by simp)) rfl h) (ba ?_)
  refine OpG.mk _ _ _ 10 (bh ah (a:=(Jy n k0.k)) Tryz.underlying197 Oy zr66 by66 rfl rfl rfl (ce rfl rfl rfl rfl) rfl (by omega) (by omega) (by unfold TV;omega)) rfl rfl ⟨by omega,⟨(⟨k0.k+1,k0.L++[Jy n k0.k]⟩:KL (List Int)),(by show n-(k0.k+1)<n-k0.k;omega),(cO (.cons rfl rfl (.cons rfl rfl (.cons rfl rfl (.cons rfl rfl .nil)))) (.cons rfl rfl (aa ag _ _) (.cons rfl rfl (aa ao _ _) (.cons rfl rfl (aa ab _ _) (.cons (by(rw[agx];rfl)) rfl rfl (.cons rfl rfl rfl (.cons rfl rfl rfl (.cons rfl rfl rfl (.cons (by(rw[agx];rfl)) rfl (aa ah _ _) .nil))))))))),?_⟩⟩
  refine⟨by show k0.k+1<=_;omega,?_⟩
  show k0.L++_=_
  rw[h0];exact Uj
 have h6:k0.L.length=k0.k:=by rw[h0];simp
 have h7:k0.k=n:=by omega
 have h5:k0.L=(List.range n).map (Jy n):=by rw[h0,h7]
 refine⟨.inr rfl,_,Fg.of [] (aw rfl (.cons (acn.tmp rfl) .nil)) rfl ⟨.same (Eq.trans (b:=some ⟨0,[.v (.int .i64 ((n:Nat):Int)),.sl 0 0 0 sys.length,.sl 4 0 0 0,.sl 7 k0.L.length 0 k0.L.length,.sl 1 0 0 n,.sl 2 0 0 n,.sl 5 0 0 0,.sl 6 0 0 0],0,false⟩) rfl (by rw[h5];simp)) (by decide),.same (blkK h4) (by decide),.same rfl (by decide),.same (Eq.trans (b:=some ⟨k0.L.length,rF rlA k0.L,1,Nat.beq k0.L.length 0⟩) rfl (by rw[h5];simp)) (by decide),.same (Eq.trans (b:=some ⟨0,rF iA (List.replicate n 0),1,false⟩) rfl (blkI h1)) (by decide),.same (Eq.trans (b:=some ⟨0,rF bI (List.replicate n 0),2,false⟩) rfl (blkB h1)) (by decide),.same rfl (by decide),.same rfl (by decide),trivial⟩ .same,?_⟩
 rfl
theorem ug{s0:OSt}:∀(f k:Nat) {s':OSt} {i j:Int} {fd ok:Bool} (_:OOk s0) (_:ly s0 f k=some (s',i,j,fd,ok)),Lat s0 s'/\0<=i/\0<=j
 |0,k,s',i,j,fd,ok,ho,h=>by unfold ly at h;cases h;exact⟨⟨ho,rfl,ag8 _⟩,by decide,by decide⟩
 |f+1,k,s',i,j,fd,ok,ho,h=>by
  unfold ly at h
  split at h
  ·cases h
  ·split at h
   ·exact ug f _ ho h
   ·split at h
    ·exact ug f _ ho h
    ·split at h
     ·cases h
     ·split at h
      ·split at h
       ·split at h
        ·cases h
        ·next e=>cases h;exact⟨Lat.put ⟨ho,rfl,ag8 _⟩ (by simp) (tl _) (by simp) e,by decide,by decide⟩
       ·split at h
        ·cases h;exact⟨⟨ho,rfl,ag8 _⟩,Int.natCast_nonneg _,Int.natCast_nonneg _⟩
        ·exact ug f _ ho h
      ·cases h
theorem P2{s s':OSt}{i j:Int}{fd ok:Bool}(ho:OOk s)(h:vu s=some (s',i,j,fd,ok)):Lat s s'/\0<=i/\0<=j:=ug _ _ ho (yd h).2
theorem G6{i j p:Nat}{up down:ItS}{s0:OSt}:∀(L:List ItS) (k:Nat) (s:OSt) {s':OSt} {ok:Bool} (_:Lat s0 s) (_:∀x∈L,Jq s0 x) (_:eqF i j p up down L k s=some (s',ok)),Lat s0 s'
 |[],k,s,s',ok,h1,h2,h=>by unfold eqF at h;cases h;exact h1
 |x::r,k,s,s',ok,h1,h2,h=>by
  have hr:∀y∈r,Jq s0 y:=fun y hy=>h2 y (List.mem_cons_of_mem _ hy)
  have hx:=h2 x (List.mem_cons_self ..)
  unfold eqF at h
  split at h
  ·exact G6 r _ _ h1 hr h
  ·split at h
   ·cases h
   ·split at h
    ·split at h
     ·cases h
     ·next e=>exact G6 r _ _ (h1.add hx e) hr h
    ·split at h
     ·cases h
     ·next e=>
      have hl:=h1.put (by simp) (q9 hx.1 Do) (by rw[List.length_set,hx.2.1,h1.n]) e
      split at h
      ·exact G6 r _ _ hl hr h
      ·cases h;exact hl
theorem Tj{s s':OSt}{i j:Nat}{ok:Bool}(ho:OOk s)(h:eqO s i j=some (s',ok)):OOk s'/\s'.n=s.n:=by
 obtain⟨t,p,hi,hj,h0,hpn,_,he⟩:=G5 h
 obtain⟨hs,_⟩:=uj _ _ h0 (uq ho)
 have hu:=hs.ok.I _ (agt hi)
 have h1:=G6 (s0:=t) _ _ _ (L2 (p:=p) hs.ok hu) (fun x hx=>hs.ok.I x (List.mem_of_mem_drop hx)) he
 exact⟨h1.ok,h1.n.trans hs.n⟩
theorem E9:∀(f k:Nat) (s:OSt) {s':OSt} {ok:Bool} (_:OOk s) (_:I4 f k s=some (s',ok)),OOk s'
 |0,k,s,s',ok,ho,h=>by unfold I4 at h;cases h;exact ho
 |f+1,k,s,s',ok,ho,h=>by
  unfold I4 at h
  split at h
  ·cases h
  ·next q e=>
   obtain⟨hk,rfl⟩:=ahn.1 e
   have hq:=ho.K _ (agt hk)
   split at h
   ·cases h
   ·next e1=>
    obtain⟨h1,_⟩:=D9 e1 ho (by simp) hq.1.c hq.2
    split at h
    ·exact E9 f _ _ h1 h
    ·cases h;exact h1
abbrev xf:AV:=.v (.slice none 0 0)
theorem delL{s:OSt}:d6 [(1000000,1),(1000001,2),(1000002,3),(1000003,4),(1000004,5),(1000005,6),(1000006,7),(1000007,8)] [(1000000,some (sB s)),(1000001,some (s1 s)),(1000002,some (s2 s)),(1000003,some (s3 s)),(1000004,some (s4 s)),(1000005,some (s5 s)),(1000006,some (s6 s)),(1000007,some (s7 s))]=[(1,some (⟨0,[.v (.int .i64 ((s.n:Nat):Int)),.sl 2 s.vK 0 s.K.length,.sl 3 s.vS 0 s.S.length,.sl 4 s.vU 0 s.U.length,.sl 5 0 0 s.T.length,.sl 6 0 0 s.V.length,.sl 7 s.vI 0 s.I.length,.sl 8 s.vE 0 s.E.length],0,false⟩)),(2,some (s1 s)),(3,some (s2 s)),(4,some (s3 s)),(5,some (s4 s)),(6,some (s5 s)),(7,some (s6 s)),(8,some (s7 s))]:=by
 simp only[d6,ahh,List.map_nil,ahp,Option.map_none,cv ag,cv ai,cv ah,cv ao,cv ab,cv ae,cv aj]
 rfl
theorem afv:d6 [(1000000,1),(1000001,2),(1000002,3),(1000003,4),(1000004,5),(1000005,6),(1000006,7),(1000007,8)] [(1000000,none),(1000001,none),(1000002,none),(1000003,none),(1000004,none),(1000005,none),(1000006,none),(1000007,none)]=[(1,none),(2,none),(3,none),(4,none),(5,none),(6,none),(7,none),(8,none)]:=rfl
theorem afu{s:OSt}:d6 [(3,1),(0,2),(4,3),(7,4),(1,5),(2,6),(5,7),(6,8)] [(3,some (⟨0,[.v (.int .i64 ((s.n:Nat):Int)),.sl 0 s.vK 0 s.K.length,.sl 4 s.vS 0 s.S.length,.sl 7 s.vU 0 s.U.length,.sl 1 0 0 s.T.length,.sl 2 0 0 s.V.length,.sl 5 s.vI 0 s.I.length,.sl 6 s.vE 0 s.E.length],0,false⟩)),(0,some (s1 s)),(4,some (s2 s)),(7,some (s3 s)),(1,some (s4 s)),(2,some (s5 s)),(5,some (s6 s)),(6,some (s7 s))]=[(1,some (⟨0,[.v (.int .i64 ((s.n:Nat):Int)),.sl 2 s.vK 0 s.K.length,.sl 3 s.vS 0 s.S.length,.sl 4 s.vU 0 s.U.length,.sl 5 0 0 s.T.length,.sl 6 0 0 s.V.length,.sl 7 s.vI 0 s.I.length,.sl 8 s.vE 0 s.E.length],0,false⟩)),(2,some (s1 s)),(3,some (s2 s)),(4,some (s3 s)),(5,some (s4 s)),(6,some (s5 s)),(7,some (s6 s)),(8,some (s7 s))]:=by
 simp only[d6,ahh,List.map_nil,ahp,Option.map_none,cv ag,cv ai,cv ah,cv ao,cv ab,cv ae,cv aj]
 rfl
theorem age:bv Tryz.prog 71=true:=by kernel_rfl
theorem agd:bv Tryz.prog 72=true:=by kernel_rfl
theorem agc:bv Tryz.prog 74=true:=by kernel_rfl
theorem aga:bv Tryz.prog 98=true:=by kernel_rfl
theorem af9:bv Tryz.prog 99=true:=by kernel_rfl
theorem Kr:c9 Tryz.prog 129=some (some 8):=by kernel_rfl
def cfN(n:Nat)(cs:List PCoef):Nat->List Int
 |0=>List.replicate n 0
 |k+1=>(cfN n cs k).set (cs.getD k ⟨0,0⟩).v.toNat (cs.getD k ⟨0,0⟩).n
abbrev cfR(n:Nat)(cs:List PCoef):List Int:=cfN n cs cs.length
def ofC(n:Nat)(c:PCon):List IqS:=if c.eq=true then[⟨cfR n c.l.cs,-c.l.k⟩,⟨rq (cfR n c.l.cs),c.l.k⟩]else[⟨cfR n c.l.cs,-c.l.k⟩]
def xx(n:Nat):List PCon->List IqS
 |[]=>[]
 |c::l=>ofC n c++xx n l
structure CnB(c:PCon):Prop where
 k:B1 c.l.k
 cs:∀x∈c.l.cs,B1 x.n
 ln:c.l.cs.length<=1000
theorem qe{n:Nat}{cs:List PCoef}:∀{k:Nat},(cfN n cs k).length=n
 |0=>by simp[cfN]
 |k+1=>by rw[cfN,List.length_set,qe]
theorem Cs{n:Nat}{cs:List PCoef}(h:∀x∈cs,B1 x.n):∀{k:Nat},BL (cfN n cs k)
 |0=>tl n
 |k+1=>by
  rw[cfN]
  refine q9 (Cs h) ?_
  by_cases hk:k<cs.length
  ·simp only[List.getD,agu hk,Option.getD_some];exact h _ (agt hk)
  ·simp only[List.getD,List.getElem?_eq_none (by omega:cs.length<=k),Option.getD_none];exact Do
theorem aby{n:Nat}{cs:List PCoef}{k:Nat}(hk:k<cs.length):(cfN n cs k).set cs[k].v.toNat cs[k].n=cfN n cs (k+1):=by
 rw[cfN];simp only[List.getD,agu hk,Option.getD_some]
theorem Zz{n:Nat}{c:PCon}(h:CnB c):∀q∈ofC n c,BQ q/\q.cs.length=n:=fun q hq=>by
 have h1:=h.k
 unfold ofC at hq
 split at hq
 ·rcases ahk.1 hq with rfl|hq
  ·exact⟨⟨Cs h.cs,Gi h1⟩,qe⟩
  ·rw[agy.1 hq]
   exact⟨⟨Lk (Cs h.cs),h1⟩,by show(List.map _ _).length=n;rw[ag0,qe]⟩
 ·rw[agy.1 hq]
  exact⟨⟨Cs h.cs,Gi h1⟩,qe⟩
theorem Lc{n:Nat}{c:PCon}:1<=(ofC n c).length/\(ofC n c).length<=2:=by
 unfold ofC;split<;>simp
theorem F3{n:Nat}:∀{l:List PCon} {k:Nat} (hk:k<l.length),xx n (l.take k)++ofC n l[k]=xx n (l.take (k+1))
 |[],k,h=>absurd h (by simp)
 |c::l,0,_=>by simp[xx]
 |c::l,k+1,h=>by
  have:=F3 (n:=n) (l:=l) (k:=k) (by simpa using h)
  simp only[List.take_succ_cons,xx,List.getElem_cons_succ,List.append_assoc]
  rw[this]
theorem Dx{n:Nat}:∀{l:List PCon} (_:∀c∈l,CnB c),∀q∈xx n l,BQ q/\q.cs.length=n
 |[],_,q,hq=>by simp[xx]at hq
 |c::l,h,q,hq=>by
  rcases agz.1 hq with hq|hq
  ·exact Zz (h c (List.mem_cons_self ..)) q hq
  ·exact Dx (l:=l) (fun c hc=>h c (List.mem_cons_of_mem _ hc)) q hq
theorem ol{n:Nat}:∀{l:List PCon},l.length<=(xx n l).length/\(xx n l).length<=2*l.length
 |[]=>⟨ag8 _,ag8 _⟩
 |c::l=>by
  have h1:=@Lc n c
  have h2:=ol (n:=n) (l:=l)
  simp only[xx,agx,ahf];omega
structure KWq where
 k:Nat
 L:List IqS
 v:Nat
structure KV1 where
 k:Nat
 p:Int
theorem ad3:c9 Tryz.prog 72=some (some 5):=by kernel_rfl
theorem Bc(c:PCon)(n:Int)(hs:c.l.cs.length<=100000)(hr:rgC c n):PRet Tryz.prog 75 [.agg (cnA c),.v (.int .i64 n)] (fun r=>r=.v (.bool true)):=by
 obtain⟨h8,h9,hr3,hr4⟩:=hr
 refine ovT [] [] Tryz.func75 rfl rfl (LenG.of ?_)
 refine LpG.on (fun k0:KV1=>(⟨fL [(1,.v (.int .i64 n)),(5,.v (.int .i64 k0.p)),(10,.tree 2 (c.l.cs.map cfA)),(11,.v (.int .i64 ((c.l.cs.length:Nat):Int))),(12,.v (.int .i64 ((k0.k:Nat):Int)))],hLz [],1⟩:St)) (fun k0=>(c.l.cs.length-k0.k)) (fun k0=>(k0.k<=c.l.cs.length/\((k0.k=0/\k0.p=-1)\/(∃h:k0.k-1<c.l.cs.length,1<=k0.k/\k0.p=c.l.cs[k0.k-1].v)))) (⟨0,-1⟩:KV1) (cO (.cons rfl rfl (.cons rfl rfl (.cons rfl rfl (.cons rfl rfl (.cons rfl rfl .nil))))) .nil) ⟨ag6 _,(.inl ⟨rfl,rfl⟩)⟩ ?_
 rintro k0 h5
 obtain⟨hle_k0,h3⟩:=h5
 refine cL (fun h4=>?_) (fun hge13=>?_)
 have hv0:=h8 k0.k h4
 have hv1:k0.p<c.l.cs[k0.k].v:=by
  rcases h3 with⟨_,e⟩|⟨h1,h2,e⟩
  ·omega
  ·have:=h9 (k0.k-1) (by omega);simp only[show k0.k-1+1=k0.k by omega]at this;omega
 refine IdxG.of ‹_› (cD (fun h6=>?_) (fun h6=>?_))
 ·exfalso;omega
 ·refine cB (fun h0=>?_) (fun h0=>?_)
  ·exfalso;have h:=ag4 h0;omega
  have hq25:¬((c.l.cs[k0.k].v:Int)≥(n:Int)):=ag3 h0
  refine⟨by omega,⟨(⟨k0.k+1,c.l.cs[k0.k].v⟩:KV1),(by show c.l.cs.length-(k0.k+1)<c.l.cs.length-k0.k;omega),(cO (.cons rfl rfl (.cons rfl rfl (.cons rfl rfl (.cons rfl rfl (.cons rfl rfl .nil))))) .nil),?_⟩⟩
  exact⟨by show k0.k+1<=_;omega,.inr ⟨by show k0.k+1-1<_;omega,by show 1<=k0.k+1;omega,by simp only[show k0.k+1-1=k0.k by omega]⟩⟩
 refine cD (fun h7=>?_) (fun h7=>?_)
 ·refine rV rfl rfl ?_
  show AV.v (.bool (decide _))=_;rw[decide_eq_true (by omega)]
 exfalso;omega
theorem Lj(l:List Int)(hl:fy l (fun y=>True))(b:Int)(hb:B1 b)(hq:BL l)(hs:l.length<=100000):PRet Tryz.prog 106 [.tree 2 (l.map bI),.agg (bI b)] (fun r=>r=.agg (iqA ⟨rq l,b⟩)):=by
 refine ovT [] [7] Tryz.func106 rfl rfl (ArgG.mk (v7 hb) rfl ?_)
 rintro _ rfl
 refine LenG.of (LpG.via (fun _ h=>dc 2 0 2 rfl rfl rfl rfl rfl 4 rfl h) ?_)
 refine LpG.on (fun k0:KL Int=>(⟨fL [(4,.ptr 1 0 0),(5,.ptr 2 0 0),(11,.tree 2 (l.map bI)),(12,.v (.int .i64 ((l.length:Nat):Int))),(13,.v (.int .i64 ((k0.k:Nat):Int)))],hLz [(1,⟨0,[.v (.slice none 0 0),.v (.bool false),.v (.slice none 0 0)],0,false⟩),(2,⟨0,.sl 3 k0.L.length 0 k0.L.length::bI b,0,false⟩),(3,⟨k0.L.length,rF bI k0.L,2,Nat.beq k0.L.length 0⟩)],4⟩:St)) (fun k0=>(l.length-k0.k)) (fun k0=>(k0.k<=l.length/\(k0.L=(l.take k0.k).map (-·)))) (⟨0,[]⟩:KL Int) (cO (.cons rfl rfl (.cons rfl rfl (.cons rfl rfl (.cons rfl rfl (.cons rfl rfl .nil))))) (.cons rfl rfl rfl (.cons (by rfl) rfl rfl (.cons (by rfl) rfl (aa ab _ _) .nil)))) ⟨ag6 _,rfl⟩ ?_
 rintro k0 h2
 have hgr_k0:l.length<=140737488355328:=hl.1
 obtain⟨hle_k0,h0⟩:=h2
 refine cL (fun h1=>?_) (fun hge14=>?_)
 ·have h3:k0.L.length=k0.k:=by rw[h0];simp;omega
  refine IdxG.of ‹_› (ArgG.mk (v8 (x:=l[k0.k]) (hq _ (agt ‹_›))) rfl ?_)
  rintro _ rfl
  refine OpG.mk _ _ _ 6 (bh ab (a:=(-l[k0.k])) Tryz.underlying66 jf Dj E6 rfl rfl rfl (ce rfl rfl rfl rfl) rfl (by omega) (by omega) (by unfold TV;omega)) rfl rfl ⟨by kernel_rfl,⟨by omega,?_⟩⟩
  refine⟨(⟨k0.k+1,k0.L++[-l[k0.k]]⟩:KL Int),(by show l.length-(k0.k+1)<l.length-k0.k;omega),(cO (.cons rfl rfl (.cons rfl rfl (.cons rfl rfl (.cons rfl rfl (.cons rfl rfl .nil))))) (.cons rfl rfl rfl (.cons (by(rw[agx];rfl)) rfl rfl (.cons (by(rw[agx];rfl)) rfl (aa ab _ _) .nil)))),⟨by show k0.k+1<=_;omega,?_⟩⟩
  show k0.L++_=(l.take (k0.k+1)).map (-·)
  rw[ag5 h1,ahi,h0];rfl
 have h3:k0.L.length<=100000:=by rw[h0];simp;omega
 refine RegG.via (fun _ h=>b8 [3] 2 0 0 (.sl 3 k0.L.length 0 k0.L.length::bI b) (.tree 2 (k0.L.map bI)::bI b) rfl rfl (.fz (FzP.rows ab (by simp) rfl) (.same _)) rfl h) (ba ?_)
 refine⟨.inr rfl,_,Og.cell rfl Kq rfl rfl rfl rfl rfl ⟨[],FzP.pure rfl⟩,?_⟩
 rw[h0,ahl (by omega)]
theorem aej(c:PCon)(n:Nat)(hn:n<=512)(hc:CnB c)(hr:rgC c ((n:Nat):Int)):PRet Tryz.prog 76 [.agg (cnA c),.v (.int .i64 ((n:Nat):Int))] (fun q=>q=.tree 3 ((ofC n c).map iqA)):=by
 have hln:=hc.ln
 refine ovT [13,35,41,50,100035] [9] Tryz.func76 rfl rfl (ArgG.mk (Bc c ((n:Nat):Int) (ahb hc.ln (by decide)) hr) rfl ?_)
 rintro _ rfl
 refine cF (OpG.nw (cq 1 (len:=n) Tryz.underlying66 jf Dj E6 rfl rfl rfl (by omega)) rfl ?_)
 refine ArgG.mk (nq (n:=c.l.k) hc.k) rfl ?_
 rintro _ rfl
 refine ArgG.mk (v8 (x:=c.l.k) hc.k) rfl ?_
 rintro _ rfl
 refine⟨by kernel_rfl,LenG.of ?_⟩
 refine LpG.on (fun k0:Nat=>(⟨fL [(2,.ptr 0 0 0),(5,.ptr 2 0 0),(22,.tree 2 (c.l.cs.map cfA)),(23,.v (.int .i64 ((c.l.cs.length:Nat):Int))),(24,.v (.int .i64 ((k0:Nat):Int)))],hLz [(0,⟨0,cnA c,0,false⟩),(1,⟨0,rF bI (cfN n c.l.cs k0),2,false⟩),(2,⟨0,.sl 1 0 0 n::bI (-c.l.k),0,false⟩)],3⟩:St)) (fun k0=>(c.l.cs.length-k0)) (fun k0=>(k0<=c.l.cs.length)) 0 (cO (.cons rfl rfl (.cons rfl rfl (.cons rfl rfl (.cons rfl rfl (.cons rfl rfl .nil))))) (.cons rfl rfl rfl (.cons (by rfl) rfl (aa ab _ _) (.cons rfl rfl rfl .nil)))) (ag6 _) ?_
 rintro k0 h2
 have hle_k0:=h2
 refine cL (fun h1=>?_) (fun hge25=>?_)
 ·have hv:=hr.1 k0 h1
  refine IdxG.of ‹_› (ArgG.mk (nq (n:=c.l.cs[k0].n) (hc.cs _ (agt ‹_›))) rfl ?_)
  rintro _ rfl
  refine OpG.lk (ak (k:=c.l.cs[k0].v.toNat) ab Tryz.underlying66 jf rfl rfl (Int.toNat_of_nonneg hv.1).symm (by omega) rfl) (OpG.wr (az (k:=c.l.cs[k0].v.toNat) (o:=0) (v:=c.l.cs[k0].n) ab jf rfl rfl rfl rfl rfl rfl (by rw[qe];omega) (by decide) rfl) rfl ?_)
  refine⟨by kernel_rfl,⟨by omega,?_⟩⟩
  refine⟨(k0+1),by omega,(cO (.cons rfl rfl (.cons rfl rfl (.cons rfl rfl (.cons rfl rfl (.cons rfl rfl .nil))))) (.cons rfl rfl rfl (.cons (by(rw[aby (by omega)];rfl)) rfl (aa ab _ _) (.cons rfl rfl rfl .nil)))),?_⟩
  omega
 have h3:cfN n c.l.cs k0=cfR n c.l.cs:=by rw[show k0=c.l.cs.length by omega]
 refine RegG.via (fun _ h=>cd 1 ⟨0,rF bI (cfR n c.l.cs),2,false⟩ rfl (by rw[h3]) h) (RegG.via (fun _ h=>b8 [1] 2 0 0 (.sl 1 0 0 n::bI (-c.l.k)) (iqA (⟨cfR n c.l.cs,-c.l.k⟩:IqS)) rfl rfl (.fz (bn ab (agy.2 rfl) rfl qe.symm) (.same _)) rfl h) ?_)
 refine ba (cB (fun h0=>?_) (fun h0=>?_))
 ·refine OpG.nw (fx (je Tryz.underlying131 xh Dq rfl rfl rfl rfl) (fun η' h=>cx (f:=iqA) (l:=[(⟨cfR n c.l.cs,-c.l.k⟩:IqS)]) (agy.2 rfl) h rfl rfl rfl rfl rfl (fun a _=>⟨rfl,rfl⟩))) rfl ⟨.inr rfl,_,Og.tmp rfl ⟨[],FzP.pure rfl⟩,?_⟩
  rw[ofC,ag1 (by simpa using h0)];rfl
 refine ArgG.mk (nq (n:=c.l.k) hc.k) rfl ?_
 rintro _ rfl
 refine ArgG.mk (Lj (cfR n c.l.cs) ⟨by rw[qe];omega,fun _ _=>trivial⟩ c.l.k hc.k (Cs hc.cs) (by rw[qe];omega)) rfl ?_
 rintro _ rfl
 refine OpG.nw (fx (je Tryz.underlying131 xh Dq rfl rfl rfl rfl) (fun η' h=>cx (f:=iqA) (l:=[(⟨cfR n c.l.cs,-c.l.k⟩:IqS),(⟨rq (cfR n c.l.cs),c.l.k⟩:IqS)]) (agy.2 rfl) h rfl rfl rfl rfl rfl (fun a _=>⟨rfl,rfl⟩))) rfl ⟨by kernel_rfl,⟨.inr rfl,_,Og.tmp rfl ⟨[],FzP.pure rfl⟩,?_⟩⟩
 rw[ofC,ag2 (by simpa using h0)];rfl
theorem Pf(l:List PCon)(hl:fy l (fun y=>True))(n:Nat)(hn:n<=512)(hll:l.length<=10000)(hc:∀c∈l,CnB c)(hr:∀c∈l,rgC c ((n:Nat):Int)):PRet Tryz.prog 50 [.tree 3 (l.map cnA),.v (.int .i64 ((n:Nat):Int))] (fun q=>q=.tree 3 ((xx n l).map iqA)):=by
 refine ovT [22] [] Tryz.func50 rfl rfl (LenG.of ?_)
 refine LpG.via (fun _ h=>ic 5 3 rfl 1 rfl h) (LpG.on (fun k0:KWq=>(⟨fL [(1,.v (.int .i64 ((n:Nat):Int))),(5,.sl 0 k0.v 0 k0.L.length),(8,.tree 3 (l.map cnA)),(9,.v (.int .i64 ((l.length:Nat):Int))),(10,.v (.int .i64 ((k0.k:Nat):Int)))],hLz [(0,⟨k0.v,rF iqA k0.L,3,Nat.beq k0.L.length 0⟩)],1⟩:St)) (fun k0=>(l.length-k0.k)) (fun k0=>(k0.k<=l.length/\(k0.L=xx n (l.take k0.k)/\k0.v<=k0.k))) (⟨0,[],0⟩:KWq) (cO (.cons rfl rfl (.cons (by rfl) rfl (.cons rfl rfl (.cons rfl rfl (.cons rfl rfl .nil))))) (.cons (by rfl) rfl (aa ag _ _) .nil)) ⟨ag6 _,⟨rfl,ag8 _⟩⟩ ?_)
 rintro k0 h2
 have hgr_k0:l.length<=140737488355328:=hl.1
 obtain⟨hle_k0,h1⟩:=h2
 refine cL (fun h0=>?_) (fun hge11=>?_)
 ·have hlL:k0.L.length<=20000:=by rw[h1.1];have:=ol (n:=n) (l:=l.take k0.k);simp at this;omega
  have hl2:=Lc (n:=n) (c:=l[k0.k])
  refine IdxG.of ‹_› (ArgG.mk (Bc l[k0.k] ((n:Nat):Int) (ahb (hc _ (agt h0)).ln (by decide)) (hr _ (agt h0))) rfl ?_)
  rintro _ rfl
  refine cF (ArgG.mk (aej l[k0.k] n hn (hc _ (agt h0)) (hr _ (agt h0))) rfl ?_)
  rintro _ rfl
  refine OpG.mk _ _ _ 2 (og ag (l:=k0.L) (l':=ofC n l[k0.k]) Tryz.underlying131 xh Dq Nr rfl rfl rfl rfl (by omega) (by omega) (by unfold TV;omega)) rfl rfl ⟨by omega,⟨(⟨k0.k+1,(k0.L++ofC n l[k0.k]),vbX k0.v (k0.L++ofC n l[k0.k]).length⟩:KWq),(by show l.length-(k0.k+1)<l.length-k0.k;omega),(cO (.cons rfl rfl (.cons (by rfl) rfl (.cons rfl rfl (.cons rfl rfl (.cons rfl rfl .nil))))) (.cons (by rfl) rfl (aa ag _ _) .nil)),?_⟩⟩
  exact⟨by show k0.k+1<=_;omega,⟨by show k0.L++_=_;rw[h1.1];exact F3 h0,by have:=Ym (ver:=k0.v) (n:=(k0.L++ofC n l[k0.k]).length);show vbX _ _<=k0.k+1;omega⟩⟩
 refine⟨.inr rfl,_,Og.tmp rfl ⟨[0],FzP.rows ag (agy.2 rfl) rfl⟩,?_⟩
 rw[h1.1,ahl (by omega)]
end Go.Proofs.YtmbmbhkemgmhfaaGreatDoor
