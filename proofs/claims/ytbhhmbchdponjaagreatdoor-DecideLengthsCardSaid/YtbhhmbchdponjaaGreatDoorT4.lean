/- Texts of the claim. -/
import Derived.Test.YtbhhmbchdponjaaGreatDoorT3
import Derived.Test.YtbhhmbchdponjaaGreatDoorQ2
namespace Go.Proofs
open Go.Shelf
def Tryz.cloI_ren:Go.Shelf.Ren:=⟨fun|41=>132|n=>n,fun|22=>85|23=>118|4=>4|n=>n,fun|n=>n⟩
theorem Tryz.cloI:Go.Proofs.SlLaysE0.n41 Tryz.prog Tryz.cloI_ren:={
 mixed:=by kernel_rfl
 f41:=⟨Tryz.f132.name,by decide,Tryz.func132.trans (congrArg some (by kernel_rfl))⟩
 t4:=Tryz.underlying4
 a4:=Tryz.isAgg4
 z4:=Tryz.sizeOf4
 v4:=Tryz.zeroValue4
 t22:=Tryz.underlying85
 a22:=Tryz.isAgg85
 z22:=Tryz.sizeOf85
 v22:=Tryz.zeroValue85}
end Go.Proofs
namespace Go.Proofs.YtbhhmbchdponjaaGreatDoor
set_option maxRecDepth 1000000
set_option maxHeartbeats 0
open Go.Shelf in
theorem cl_I:CloneL Tryz.prog 132 3:=⟨⟨Tryz.cloI_ren,Tryz.t118,_,_,rfl,Tryz.cloI,by kernel_rfl,rfl,rfl,rfl,rfl,Tryz.sizeOf118,by decide⟩,by decide⟩
set_option linter.unusedVariables false
set_option linter.unusedSimpArgs false
open Go.RowKit
abbrev Ny(n i:Nat):List Int:=(List.replicate n 0).set i 1
abbrev nuS(n:Nat)(sys:List IqS):OSt:={n:=n,K:=sys,vK:=0,S:=[],vS:=0,U:=(List.range n).map (Ny n),vU:=n,T:=List.replicate n 0,V:=List.replicate n 0,I:=[],vI:=0,E:=[],vE:=0}
theorem Uj{n i:Nat}:(Ny n i).length=n:=by simp
theorem Uk{n k:Nat}:(List.range k).map (Ny n)++[Ny n k]=(List.range (k+1)).map (Ny n):=by rw[List.range_succ,List.map_append];rfl
theorem Zi{n:Nat}{sys:List IqS}(h1:1<=n)(h2:n<=1000)(h3:∀q∈sys,BQ q/\q.cs.length=n):OOk (nuS n sys):=
 ⟨h1,h2,h3,fun x hx=>by simp at hx,by simp,fun r hr=>by
  obtain⟨i,_,rfl⟩:=ahh.1 hr
  exact⟨rp (me n) qu,Uj⟩,by simp,by simp,me n⟩
theorem flg{α:Type}{l:List α}(h:0<l.length):Nat.beq l.length 0=false:=mf (by omega)
theorem blkI{n v:Nat}(h:1<=n):some (⟨v,rF iA (List.replicate n 0),1,false⟩:Blk)=some ⟨v,rF iA (List.replicate n 0),1,Nat.beq (List.replicate n (0:Int)).length 0⟩:=by rw[flg (by simp;omega)]
theorem blkB{n v:Nat}(h:1<=n):some (⟨v,rF bI (List.replicate n 0),2,false⟩:Blk)=some ⟨v,rF bI (List.replicate n 0),2,Nat.beq (List.replicate n (0:Int)).length 0⟩:=by rw[flg (by simp;omega)]
theorem blkK{sys:List IqS}{v:Nat}(h:0<sys.length):some (⟨v,rF iqA sys,3,false⟩:Blk)=some ⟨v,rF iqA sys,3,Nat.beq sys.length 0⟩:=by rw[flg h]
theorem T4:bw Tryz.prog 132=true:=by kernel_rfl
theorem by45:(Tryz.prog.info? 45).map (·.bytes)=some 24:=by kernel_rfl
theorem zr45:bj Tryz.prog 45=some (.slice none 0 0):=by kernel_rfl
theorem Ic(sys:List IqS)(hsys:ip sys (fun y=>True))(n:Nat)(h1:1<=n)(h2:n<=1000)(hc:0<sys.length)(hl:sys.length<=100000):qa Tryz.prog 113 [.v (.int .i64 ((n:Nat):Int)),.tree 3 (sys.map iqA)] [] [(3,some (⟨0,[.v (.int .i64 (((nuS n sys).n:Nat):Int)),.sl 0 (nuS n sys).vK 0 (nuS n sys).K.length,.sl 4 (nuS n sys).vS 0 (nuS n sys).S.length,.sl 7 (nuS n sys).vU 0 (nuS n sys).U.length,.sl 1 0 0 (nuS n sys).T.length,.sl 2 0 0 (nuS n sys).V.length,.sl 5 (nuS n sys).vI 0 (nuS n sys).I.length,.sl 6 (nuS n sys).vE 0 (nuS n sys).E.length],0,false⟩)),(0,some (s1 (nuS n sys))),(4,some (s2 (nuS n sys))),(7,some (s3 (nuS n sys))),(1,some (s4 (nuS n sys))),(2,some (s5 (nuS n sys))),(5,some (s6 (nuS n sys))),(6,some (s7 (nuS n sys)))] (fun q=>q=.ptr 3 0 0):=by
 refine qa.of_vc jc [10,12,14,22,26,100026] [2,7] Tryz.func113 rfl Tryz.ntmps113 rfl (by kernel_rfl) (OpG.mk _ _ _ 1 (a8 [(0,0)] T4 (mh cl_I ab sys hc (by omega)) rfl rfl rfl rfl trivial trivial ⟨aq ab _ _,trivial⟩ rfl rfl rfl rfl (di ab rfl) rfl) rfl rfl ?_)
 refine OpG.nw (ot (len:=n) ap 1 Tryz.underlying27 sz3 zr3 by3 rfl rfl rfl rfl rfl (by omega) (by omega) (by omega)) rfl (OpG.nw (cv 2 (len:=n) Tryz.underlying45 ik A4 Db rfl rfl rfl (by omega)) rfl ?_)
 refine⟨by kernel_rfl,RegG.via (fun _ h=>kf 3 2 3 rfl rfl rfl rfl rfl 5 rfl h) ?_⟩
 refine RegG.via (fun _ h=>kf 3 6 2 rfl rfl rfl rfl rfl 6 rfl h) (RegG.via (fun _ h=>kf 3 7 3 rfl rfl rfl rfl rfl 7 rfl h) ?_)
 refine aw (LpG.via (fun _ h=>kf 3 3 1 rfl rfl rfl rfl rfl 8 rfl h) ?_)
 refine LpG.on (fun k0:KL (List Int)=>(⟨fL [(0,.v (.int .i64 ((n:Nat):Int))),(5,.ptr 3 0 0),(17,.v (.int .i64 ((n:Nat):Int))),(18,.v (.int .i64 ((k0.k:Nat):Int)))],hLz [(0,⟨0,rF iqA sys,3,false⟩),(1,⟨0,rF iA (List.replicate n 0),1,false⟩),(2,⟨0,rF bI (List.replicate n 0),2,false⟩),(3,⟨0,[.v (.int .i64 ((n:Nat):Int)),.sl 0 0 0 sys.length,.sl 4 0 0 0,.sl 7 k0.L.length 0 k0.L.length,.sl 1 0 0 n,.sl 2 0 0 n,.sl 5 0 0 0,.sl 6 0 0 0],0,false⟩),(4,⟨0,[],3,true⟩),(5,⟨0,[],2,true⟩),(6,⟨0,[],3,true⟩),(7,⟨k0.L.length,rF rlA k0.L,1,Nat.beq k0.L.length 0⟩)],8⟩:St)) (fun k0=>(n-k0.k)) (fun k0=>(k0.k<=n/\(k0.L=(List.range k0.k).map (Ny n)))) (⟨0,[]⟩:KL (List Int)) (cO (.cons rfl rfl (.cons rfl rfl (.cons rfl rfl (.cons rfl rfl .nil)))) (.cons rfl rfl (aa ab _ _) (.cons rfl rfl (aa ap _ _) (.cons rfl rfl (aa ae _ _) (.cons (by rfl) rfl rfl (.cons rfl rfl rfl (.cons rfl rfl rfl (.cons rfl rfl rfl (.cons (by rfl) rfl (aa ah _ _) .nil))))))))) ⟨ag5 _,rfl⟩ ?_
 rintro k0 hb
 obtain⟨hle_k0,ha⟩:=hb
 refine cL (fun hlt19=>?_) (fun hge19=>?_)
 ·have he:k0.L.length=k0.k:=by rw[ha];simp
  refine OpG.nw (cv 8 (len:=n) Tryz.underlying45 ik A4 Db rfl rfl rfl (by omega)) rfl (ArgG.mk (pm (n:=1) ⟨by decide,by decide⟩) rfl ?_)
  rintro _ rfl
  refine OpG.lk (av (k:=k0.k) ae Tryz.underlying45 ik rfl rfl rfl (by omega) rfl) (OpG.wr (bl (k:=k0.k) (o:=0) (v:=1) ae ik rfl rfl rfl rfl rfl rfl (by simp;omega) (by decide) rfl) rfl ?_)
  refine RegG.via (fun _ h=>bm [8] 7 (.tree 2 ((Ny n k0.k).map bI)) (b7 ae (agx.2 rfl) rfl (by simp)) rfl h) (aw ?_)
  refine OpG.mk _ _ _ 10 (b9 ah (a:=(Ny n k0.k)) Tryz.underlying214 Ot zr45 by45 rfl rfl rfl (dv rfl rfl rfl rfl) rfl (by omega) (by omega) (by unfold TV;omega)) rfl rfl ⟨by omega,⟨(⟨k0.k+1,k0.L++[Ny n k0.k]⟩:KL (List Int)),(by show n-(k0.k+1)<n-k0.k;omega),(cO (.cons rfl rfl (.cons rfl rfl (.cons rfl rfl (.cons rfl rfl .nil)))) (.cons rfl rfl (aa ab _ _) (.cons rfl rfl (aa ap _ _) (.cons rfl rfl (aa ae _ _) (.cons (by(rw[agw];rfl)) rfl rfl (.cons rfl rfl rfl (.cons rfl rfl rfl (.cons rfl rfl rfl (.cons (by(rw[agw];rfl)) rfl (aa ah _ _) .nil))))))))),?_⟩⟩
  refine⟨by show k0.k+1<=_;omega,?_⟩
  show k0.L++_=_
  rw[ha];exact Uk
 have he:k0.L.length=k0.k:=by rw[ha];simp
 have hf:k0.k=n:=by omega
 have hd:k0.L=(List.range n).map (Ny n):=by rw[ha,hf]
 refine⟨.inr rfl,_,Nf.of [] (az rfl (.cons (abn.tmp rfl) .nil)) rfl ⟨.same (Eq.trans (b:=some ⟨0,[.v (.int .i64 ((n:Nat):Int)),.sl 0 0 0 sys.length,.sl 4 0 0 0,.sl 7 k0.L.length 0 k0.L.length,.sl 1 0 0 n,.sl 2 0 0 n,.sl 5 0 0 0,.sl 6 0 0 0],0,false⟩) rfl (by rw[hd];simp)) (by decide),.same (blkK hc) (by decide),.same rfl (by decide),.same (Eq.trans (b:=some ⟨k0.L.length,rF rlA k0.L,1,Nat.beq k0.L.length 0⟩) rfl (by rw[hd];simp)) (by decide),.same (Eq.trans (b:=some ⟨0,rF iA (List.replicate n 0),1,false⟩) rfl (blkI h1)) (by decide),.same (Eq.trans (b:=some ⟨0,rF bI (List.replicate n 0),2,false⟩) rfl (blkB h1)) (by decide),.same rfl (by decide),.same rfl (by decide),trivial⟩ .same,?_⟩
 rfl
theorem ur{s0:OSt}:∀(f k:Nat) {s':OSt} {i j:Int} {fd ok:Bool} (_:OOk s0) (_:ia s0 f k=some (s',i,j,fd,ok)),Lat s0 s'/\0<=i/\0<=j
 |0,k,s',i,j,fd,ok,ho,h=>by unfold ia at h;cases h;exact⟨⟨ho,rfl,ag7 _⟩,by decide,by decide⟩
 |f+1,k,s',i,j,fd,ok,ho,h=>by
  unfold ia at h
  split at h
  ·cases h
  ·split at h
   ·exact ur f _ ho h
   ·split at h
    ·exact ur f _ ho h
    ·split at h
     ·cases h
     ·split at h
      ·split at h
       ·split at h
        ·cases h
        ·next e=>cases h;exact⟨Lat.put ⟨ho,rfl,ag7 _⟩ (by simp) (me _) (by simp) e,by decide,by decide⟩
       ·split at h
        ·cases h;exact⟨⟨ho,rfl,ag7 _⟩,Int.natCast_nonneg _,Int.natCast_nonneg _⟩
        ·exact ur f _ ho h
      ·cases h
theorem Ph{s s':OSt}{i j:Int}{fd ok:Bool}(ho:OOk s)(h:nm s=some (s',i,j,fd,ok)):Lat s s'/\0<=i/\0<=j:=ur _ _ ho (yd h).2
theorem G5{i j p:Nat}{up down:ItS}{s0:OSt}:∀(L:List ItS) (k:Nat) (s:OSt) {s':OSt} {ok:Bool} (_:Lat s0 s) (_:∀x∈L,I7 s0 x) (_:eqF i j p up down L k s=some (s',ok)),Lat s0 s'
 |[],k,s,s',ok,h1,h2,h=>by unfold eqF at h;cases h;exact h1
 |x::r,k,s,s',ok,h1,h2,h=>by
  have hr:∀y∈r,I7 s0 y:=fun y hy=>h2 y (List.mem_cons_of_mem _ hy)
  have hx:=h2 x (List.mem_cons_self ..)
  unfold eqF at h
  split at h
  ·exact G5 r _ _ h1 hr h
  ·split at h
   ·cases h
   ·split at h
    ·split at h
     ·cases h
     ·next e=>exact G5 r _ _ (h1.add hx e) hr h
    ·split at h
     ·cases h
     ·next e=>
      have hl:=h1.put (by simp) (rp hx.1 Hm) (by rw[List.length_set,hx.2.1,h1.n]) e
      split at h
      ·exact G5 r _ _ hl hr h
      ·cases h;exact hl
theorem aah{s s':OSt}{i j:Nat}{ok:Bool}(ho:OOk s)(h:eqO s i j=some (s',ok)):OOk s'/\s'.n=s.n:=by
 obtain⟨t,p,hi,hj,ha,hpn,_,he⟩:=G1 h
 obtain⟨hs,_⟩:=zv _ _ ha (As ho)
 have hu:=hs.ok.I _ (ags hi)
 have h1:=G5 (s0:=t) _ _ _ (K4 (p:=p) hs.ok hu) (fun x hx=>hs.ok.I x (List.mem_of_mem_drop hx)) he
 exact⟨h1.ok,h1.n.trans hs.n⟩
def H5:Nat->OSt->Option (List StS)
 |0,_=>none
 |f+1,s=>match nm s with
  |none=>none
  |some (s',_,_,_,false)=>some s'.S
  |some (s',i,j,true,true)=>match eqO s' i.toNat j.toNat with
   |none=>none
   |some (s2,true)=>H5 f s2
   |some (s2,false)=>some s2.S
  |some (_,_,_,false,true)=>none
theorem Uy{s:OSt}{k F:Nat}{S:List StS}(h:H5 (F-k) s=some S):k<F/\∃s' i j fd ok,nm s=some (s',i,j,fd,ok)/\((ok=false/\S=s'.S)\/(ok=true/\fd=true/\∃s2 o2,eqO s' i.toNat j.toNat=some (s2,o2)/\((o2=true/\H5 (F-(k+1)) s2=some S)\/(o2=false/\S=s2.S)))):=by
 by_cases hF:k<F
 ·refine⟨hF,?_⟩
  rw[show F-k=(F-(k+1))+1 by omega]at h
  unfold H5 at h
  split at h
  ·cases h
  ·next s' i j fd e=>cases h;exact⟨s',i,j,fd,false,e,.inl ⟨rfl,rfl⟩⟩
  ·next s' i j e=>
   refine⟨s',i,j,true,true,e,.inr ⟨rfl,rfl,?_⟩⟩
   split at h
   ·cases h
   ·next s2 e2=>exact⟨s2,true,e2,.inl ⟨rfl,h⟩⟩
   ·next s2 e2=>cases h;exact⟨s2,false,e2,.inr ⟨rfl,rfl⟩⟩
  ·cases h
 ·rw[show F-k=0 by omega]at h;cases h
def A0(n:Nat)(sys:List IqS):Option (List StS):=match acg (nuS n sys)with
 |none=>none
 |some (s,false)=>some s.S
 |some (s,true)=>H5 1000 s
theorem Jv{n:Nat}{sys:List IqS}{S:List StS}(h:A0 n sys=some S):∃s ok,acg (nuS n sys)=some (s,ok)/\((ok=true/\H5 (1000-0) s=some S)\/(ok=false/\S=s.S)):=by
 unfold A0 at h
 split at h
 ·cases h
 ·next s e=>cases h;exact⟨s,false,e,.inr ⟨rfl,rfl⟩⟩
 ·next s e=>exact⟨s,true,e,.inl ⟨rfl,h⟩⟩
theorem Mu:∀(f k:Nat) (s:OSt) {s':OSt} {ok:Bool} (_:OOk s) (_:Mv f k s=some (s',ok)),OOk s'
 |0,k,s,s',ok,ho,h=>by unfold Mv at h;cases h;exact ho
 |f+1,k,s,s',ok,ho,h=>by
  unfold Mv at h
  split at h
  ·cases h
  ·next q e=>
   obtain⟨hk,rfl⟩:=ahl.1 e
   have hq:=ho.K _ (ags hk)
   split at h
   ·cases h
   ·next e1=>
    obtain⟨h1,_⟩:=Dr e1 ho (by simp) hq.1.c hq.2
    split at h
    ·exact Mu f _ _ h1 h
    ·cases h;exact h1
abbrev ba:AV:=.v (.slice none 0 0)
abbrev pfA(S:List StS):List AV:=[.tree 3 (S.map stA),ba,.v (.bool false),ba,ba]
abbrev adw(S:List StS):List AV:=[.v (.int .i64 1),ba,.tree 3 (S.map stA),ba,.v (.bool false),ba,ba,.v (.int .i64 0)]
theorem delR{s:OSt}:fj [(1000000,1000000),(1000001,1000001),(1000002,1000002),(1000003,1000003),(1000004,1000004),(1000005,1000005),(1000006,1000006),(1000007,1000007)] [(1000000,some (sB s)),(1000001,some (s1 s)),(1000002,none),(1000003,some (s3 s)),(1000004,some (s4 s)),(1000005,some (s5 s)),(1000006,some (s6 s)),(1000007,some (s7 s))]=[(1000000,some (sB s)),(1000001,some (s1 s)),(1000002,none),(1000003,some (s3 s)),(1000004,some (s4 s)),(1000005,some (s5 s)),(1000006,some (s6 s)),(1000007,some (s7 s))]:=by
 simp only[fj,ahg,List.map_nil,ahn,Option.map_none,ci ab,ci ai,ci ah,ci ap,ci ae,ci ag,ci aj]
 rfl
theorem delL{s:OSt}:fj [(1000000,1),(1000001,2),(1000002,3),(1000003,4),(1000004,5),(1000005,6),(1000006,7),(1000007,8)] [(1000000,some (sB s)),(1000001,some (s1 s)),(1000002,some (s2 s)),(1000003,some (s3 s)),(1000004,some (s4 s)),(1000005,some (s5 s)),(1000006,some (s6 s)),(1000007,some (s7 s))]=[(1,some (⟨0,[.v (.int .i64 ((s.n:Nat):Int)),.sl 2 s.vK 0 s.K.length,.sl 3 s.vS 0 s.S.length,.sl 4 s.vU 0 s.U.length,.sl 5 0 0 s.T.length,.sl 6 0 0 s.V.length,.sl 7 s.vI 0 s.I.length,.sl 8 s.vE 0 s.E.length],0,false⟩)),(2,some (s1 s)),(3,some (s2 s)),(4,some (s3 s)),(5,some (s4 s)),(6,some (s5 s)),(7,some (s6 s)),(8,some (s7 s))]:=by
 simp only[fj,ahg,List.map_nil,ahn,Option.map_none,ci ab,ci ai,ci ah,ci ap,ci ae,ci ag,ci aj]
 rfl
theorem afu{s:OSt}:fj [(1000000,1),(1000001,2),(1000002,3),(1000003,4),(1000004,5),(1000005,6),(1000006,7),(1000007,8)] [(1000000,some (sB s)),(1000001,some (s1 s)),(1000002,none),(1000003,some (s3 s)),(1000004,some (s4 s)),(1000005,some (s5 s)),(1000006,some (s6 s)),(1000007,some (s7 s))]=[(1,some (⟨0,[.v (.int .i64 ((s.n:Nat):Int)),.sl 2 s.vK 0 s.K.length,.sl 3 s.vS 0 s.S.length,.sl 4 s.vU 0 s.U.length,.sl 5 0 0 s.T.length,.sl 6 0 0 s.V.length,.sl 7 s.vI 0 s.I.length,.sl 8 s.vE 0 s.E.length],0,false⟩)),(2,some (s1 s)),(3,none),(4,some (s3 s)),(5,some (s4 s)),(6,some (s5 s)),(7,some (s6 s)),(8,some (s7 s))]:=by
 simp only[fj,ahg,List.map_nil,ahn,Option.map_none,ci ab,ci ai,ci ah,ci ap,ci ae,ci ag,ci aj]
 rfl
theorem afv:fj [(1000000,1),(1000001,2),(1000002,3),(1000003,4),(1000004,5),(1000005,6),(1000006,7),(1000007,8)] [(1000000,none),(1000001,none),(1000002,none),(1000003,none),(1000004,none),(1000005,none),(1000006,none),(1000007,none)]=[(1,none),(2,none),(3,none),(4,none),(5,none),(6,none),(7,none),(8,none)]:=rfl
theorem aft{s:OSt}:fj [(3,1),(0,2),(4,3),(7,4),(1,5),(2,6),(5,7),(6,8)] [(3,some (⟨0,[.v (.int .i64 ((s.n:Nat):Int)),.sl 0 s.vK 0 s.K.length,.sl 4 s.vS 0 s.S.length,.sl 7 s.vU 0 s.U.length,.sl 1 0 0 s.T.length,.sl 2 0 0 s.V.length,.sl 5 s.vI 0 s.I.length,.sl 6 s.vE 0 s.E.length],0,false⟩)),(0,some (s1 s)),(4,some (s2 s)),(7,some (s3 s)),(1,some (s4 s)),(2,some (s5 s)),(5,some (s6 s)),(6,some (s7 s))]=[(1,some (⟨0,[.v (.int .i64 ((s.n:Nat):Int)),.sl 2 s.vK 0 s.K.length,.sl 3 s.vS 0 s.S.length,.sl 4 s.vU 0 s.U.length,.sl 5 0 0 s.T.length,.sl 6 0 0 s.V.length,.sl 7 s.vI 0 s.I.length,.sl 8 s.vE 0 s.E.length],0,false⟩)),(2,some (s1 s)),(3,some (s2 s)),(4,some (s3 s)),(5,some (s4 s)),(6,some (s5 s)),(7,some (s6 s)),(8,some (s7 s))]:=by
 simp only[fj,ahg,List.map_nil,ahn,Option.map_none,ci ab,ci ai,ci ah,ci ap,ci ae,ci ag,ci aj]
 rfl
theorem abd:bw Tryz.prog 113=true:=by kernel_rfl
theorem abc:bw Tryz.prog 114=true:=by kernel_rfl
theorem Mr:bw Tryz.prog 115=true:=by kernel_rfl
theorem abb:bw Tryz.prog 116=true:=by kernel_rfl
theorem aa7:bw Tryz.prog 151=true:=by kernel_rfl
theorem aa6:bw Tryz.prog 152=true:=by kernel_rfl
theorem Bp:ej Tryz.prog 152=some (some 8):=by kernel_rfl
theorem vv(s:OSt):qa Tryz.prog 115 [.ptr 1000000 0 0] [(1000000,sB s),(1000001,s1 s),(1000002,s2 s),(1000003,s3 s),(1000004,s4 s),(1000005,s5 s),(1000006,s6 s),(1000007,s7 s)] [(1000000,some (sB s)),(1000001,some (s1 s)),(1000002,none),(1000003,some (s3 s)),(1000004,some (s4 s)),(1000005,some (s5 s)),(1000006,some (s6 s)),(1000007,some (s7 s))] (fun q=>q=.agg (adw s.S)):=by
 refine qa.of_vc jc [] [] Tryz.func115 rfl Tryz.ntmps115 rfl (by kernel_rfl) ⟨.inr rfl,_,Nf.of [1000002] (az rfl (.cons (abn.cellN Bp rfl rfl trivial rfl rfl rfl) .nil)) rfl ⟨.same rfl (by decide),.same rfl (by decide),.gone,.same rfl (by decide),.same rfl (by decide),.same rfl (by decide),.same rfl (by decide),.same rfl (by decide),trivial⟩ (.fz (FzP.aggL (.cons (.pure rfl) (.cons (.pure rfl) (.cons (j6 ai (agx.2 rfl) rfl) (.cons (.pure rfl) (.cons (.pure rfl) (.cons (.pure rfl) (.cons (.pure rfl) (.cons (.pure rfl) .nil)))))))))),?_⟩
 rfl
theorem ade(s:OSt)(F:Nat)(S:List StS)(hF:F<=1000000)(ho:OOk s)(hl:∀c,aZ c<=FM->Nt c)(hJ:I3)(h:H5 (F-0) s=some S):qa Tryz.prog 116 [.ptr 1000000 0 0] [(1000000,sB s),(1000001,s1 s),(1000002,s2 s),(1000003,s3 s),(1000004,s4 s),(1000005,s5 s),(1000006,s6 s),(1000007,s7 s)] [(1000000,none),(1000001,none),(1000002,none),(1000003,none),(1000004,none),(1000005,none),(1000006,none),(1000007,none)] (fun q=>q=.agg (adw S)):=by
 refine qa.of_vc jc [11,19,24,27] [3,6] Tryz.func116 rfl Tryz.ntmps116 rfl (by kernel_rfl) (LpG.on (fun k0:KO=>(⟨fL [(0,.ptr 1000000 0 0),(2,.ptr 0 0 0)],hLz [(0,⟨0,[.v (.int .i64 0),.v (.slice none 0 0),.v (.slice none 0 0),.v (.slice none 0 0),.v (.bool false),.v (.slice none 0 0),.v (.slice none 0 0),.v (.int .i64 0)],0,false⟩),(1000000,sB k0.s),(1000001,s1 k0.s),(1000002,s2 k0.s),(1000003,s3 k0.s),(1000004,s4 k0.s),(1000005,s5 k0.s),(1000006,s6 k0.s),(1000007,s7 k0.s)],1⟩:St)) (fun k0=>(F-k0.k)) (fun k0=>(k0.k<=F/\(H5 (F-k0.k) k0.s=some S/\OOk k0.s))) (⟨0,s⟩:KO) (cO (.cons rfl rfl (.cons rfl rfl .nil)) (.cons rfl rfl rfl (.cons rfl rfl rfl (.cons rfl rfl (aa ab _ _) (.cons rfl rfl (aa ai _ _) (.cons rfl rfl (aa ah _ _) (.cons rfl rfl (aa ap _ _) (.cons rfl rfl (aa ae _ _) (.cons rfl rfl (aa ag _ _) (.cons rfl rfl (aa aj _ _) .nil)))))))))) ⟨ag5 _,⟨h,ho⟩⟩ ?_)
 rintro k0 hf
 obtain⟨hle_k0,ha⟩:=hf
 obtain⟨hlt0,sx,ix,jx,fdx,okx,hi,hj⟩:=Uy ha.1
 obtain⟨hk,hm,hn⟩:=Ph ha.2 hi
 obtain⟨ix,rfl⟩:=Int.eq_ofNat_of_zero_le hm
 obtain⟨jx,rfl⟩:=Int.eq_ofNat_of_zero_le hn
 obtain⟨_,rfl,hp⟩:=Y6 k0.s sx _ _ fdx okx ha.2 hl hJ hi
 refine OpG.mk _ _ _ 1 (a8 [(1000000,1000000),(1000001,1000001),(1000002,1000002),(1000003,1000003),(1000004,1000004),(1000005,1000005),(1000006,1000006),(1000007,1000007)] aa7 hp rfl rfl rfl rfl ⟨rfl,sX ab,sX ai,sX ah,sX ap,sX ae,sX ag,sX aj,trivial⟩ ⟨⟨rfl,.inl rfl⟩,au ab,au ai,au ah,au ap,au ae,au ag,au aj,trivial⟩ ⟨rfl,aq ab _ _,aq ai _ _,aq ah _ _,aq ap _ _,aq ae _ _,aq ag _ _,aq aj _ _,trivial⟩ rfl rfl rfl rfl uz rfl) rfl rfl (cB (fun hb=>?_) (fun hb=>?_))
 ·obtain rfl:=(hj.resolve_right (fun k=>by rw[k.1]at hb;cases hb)).2
  obtain⟨_,rfl,hg⟩:=vv sx
  refine aw (OpG.mk _ _ _ 1 (a8 [(1000000,1000000),(1000001,1000001),(1000002,1000002),(1000003,1000003),(1000004,1000004),(1000005,1000005),(1000006,1000006),(1000007,1000007)] Mr hg rfl rfl rfl rfl ⟨rfl,sX ab,sX ai,sX ah,sX ap,sX ae,sX ag,sX aj,trivial⟩ ⟨⟨rfl,.inl rfl⟩,au ab,au ai,au ah,au ap,au ae,au ag,au aj,trivial⟩ ⟨rfl,aq ab _ _,trivial,aq ah _ _,aq ap _ _,aq ae _ _,aq ag _ _,aq aj _ _,trivial⟩ rfl rfl rfl rfl delR rfl) rfl rfl ?_)
  refine⟨.inr rfl,_,Nf.of [] (az rfl (.cons (abn.cellN Bp rfl rfl trivial rfl rfl rfl) .nil)) rfl ⟨.gone,.gone,.gone,.gone,.gone,.gone,.gone,.gone,trivial⟩ .same,?_⟩
  rfl
 obtain⟨_,hq,sy,o2,hh,he⟩:=hj.resolve_left (fun k=>by rw[k.1]at hb;cases hb)
 refine cB (fun hd=>?_) (fun hd=>?_)
 ·rw[Int.toNat_natCast,Int.toNat_natCast]at hh
  obtain⟨hr,_⟩:=aah hk.ok hh
  obtain⟨_,rfl,hs⟩:=Wn sx sy ix jx o2 hk.ok hh
  refine OpG.mk _ _ _ 1 (a8 [(1000000,1000000),(1000001,1000001),(1000002,1000002),(1000003,1000003),(1000004,1000004),(1000005,1000005),(1000006,1000006),(1000007,1000007)] aa6 hs rfl rfl rfl rfl ⟨rfl,sX ab,sX ai,sX ah,sX ap,sX ae,sX ag,sX aj,trivial⟩ ⟨⟨rfl,.inl rfl⟩,au ab,au ai,au ah,au ap,au ae,au ag,au aj,trivial⟩ ⟨rfl,aq ab _ _,aq ai _ _,aq ah _ _,aq ap _ _,aq ae _ _,aq ag _ _,aq aj _ _,trivial⟩ rfl rfl rfl rfl uz rfl) rfl rfl (cB (fun hc=>?_) (fun hc=>?_))
  ·obtain rfl:=(he.resolve_left (fun k=>by rw[k.1]at hc;cases hc)).2
   obtain⟨_,rfl,hg⟩:=vv sy
   refine aw (OpG.mk _ _ _ 1 (a8 [(1000000,1000000),(1000001,1000001),(1000002,1000002),(1000003,1000003),(1000004,1000004),(1000005,1000005),(1000006,1000006),(1000007,1000007)] Mr hg rfl rfl rfl rfl ⟨rfl,sX ab,sX ai,sX ah,sX ap,sX ae,sX ag,sX aj,trivial⟩ ⟨⟨rfl,.inl rfl⟩,au ab,au ai,au ah,au ap,au ae,au ag,au aj,trivial⟩ ⟨rfl,aq ab _ _,trivial,aq ah _ _,aq ap _ _,aq ae _ _,aq ag _ _,aq aj _ _,trivial⟩ rfl rfl rfl rfl delR rfl) rfl rfl ?_)
   refine⟨.inr rfl,_,Nf.of [] (az rfl (.cons (abn.cellN Bp rfl rfl trivial rfl rfl rfl) .nil)) rfl ⟨.gone,.gone,.gone,.gone,.gone,.gone,.gone,.gone,trivial⟩ .same,?_⟩
   rfl
  have ht:=(he.resolve_right (fun k=>by rw[k.1]at hc;cases hc)).2
  refine⟨(⟨k0.k+1,sy⟩:KO),(by show F-(k0.k+1)<F-k0.k;omega),(cO (.cons rfl rfl (.cons rfl rfl .nil)) (.cons rfl rfl rfl (.cons rfl rfl rfl (.cons rfl rfl (aa ab _ _) (.cons rfl rfl (aa ai _ _) (.cons rfl rfl (aa ah _ _) (.cons rfl rfl (aa ap _ _) (.cons rfl rfl (aa ae _ _) (.cons rfl rfl (aa ag _ _) (.cons rfl rfl (aa aj _ _) .nil)))))))))),⟨by show k0.k+1<=_;omega,?_⟩⟩
  exact⟨ht,hr⟩
 exfalso;rw[hq]at hd;cases hd
theorem Qo(sys:List IqS)(hc:ip sys (fun y=>True))(n:Nat)(S:List StS)(h1:1<=n)(h2:n<=1000)(hg:0<sys.length)(hl:sys.length<=100000)(hh:∀q∈sys,BQ q/\q.cs.length=n)(hi:∀c,aZ c<=FM->Nt c)(hJ:I3)(h:A0 n sys=some S):PRet Tryz.prog 81 [.v (.int .i64 ((n:Nat):Int)),.tree 3 (sys.map iqA)] (fun q=>q=.agg (adw S)):=by
 obtain⟨_,rfl,hj⟩:=Ic sys hc n h1 h2 hg hl
 have he:=Zi h1 h2 hh
 obtain⟨sx,okx,hb,hf⟩:=Jv h
 obtain⟨_,rfl,hk⟩:=Xb (nuS n sys) sx okx he (by show sys.length<=_;omega) hb
 have hm:=Mu _ _ _ he hb
 refine ovT [8,10,13,15] [] Tryz.func81 rfl rfl (OpG.mk _ _ _ 9 (a8 [(3,1),(0,2),(4,3),(7,4),(1,5),(2,6),(5,7),(6,8)] abd hj rfl rfl rfl rfl trivial trivial ⟨rfl,aq ab _ _,aq ai _ _,aq ah _ _,aq ap _ _,aq ae _ _,aq ag _ _,aq aj _ _,trivial⟩ rfl rfl rfl rfl aft rfl) rfl rfl ?_)
 refine OpG.mk _ _ _ 9 (a8 [(1000000,1),(1000001,2),(1000002,3),(1000003,4),(1000004,5),(1000005,6),(1000006,7),(1000007,8)] abc hk rfl rfl rfl rfl ⟨rfl,sX ab,sX ai,sX ah,sX ap,sX ae,sX ag,sX aj,trivial⟩ ⟨⟨rfl,.inl rfl⟩,au ab,au ai,au ah,au ap,au ae,au ag,au aj,trivial⟩ ⟨rfl,aq ab _ _,aq ai _ _,aq ah _ _,aq ap _ _,aq ae _ _,aq ag _ _,aq aj _ _,trivial⟩ rfl rfl rfl rfl delL rfl) rfl rfl (cB (fun ha=>?_) (fun ha=>?_))
 ·obtain rfl:=(hf.resolve_left (fun k=>by rw[k.1]at ha;cases ha)).2
  obtain⟨_,rfl,hd⟩:=vv sx
  refine OpG.mk _ _ _ 9 (a8 [(1000000,1),(1000001,2),(1000002,3),(1000003,4),(1000004,5),(1000005,6),(1000006,7),(1000007,8)] Mr hd rfl rfl rfl rfl ⟨rfl,sX ab,sX ai,sX ah,sX ap,sX ae,sX ag,sX aj,trivial⟩ ⟨⟨rfl,.inl rfl⟩,au ab,au ai,au ah,au ap,au ae,au ag,au aj,trivial⟩ ⟨rfl,aq ab _ _,trivial,aq ah _ _,aq ap _ _,aq ae _ _,aq ag _ _,aq aj _ _,trivial⟩ rfl rfl rfl rfl afu rfl) rfl rfl ⟨.inr rfl,_,Ng.cell rfl Bp rfl rfl rfl rfl rfl ⟨[],FzP.pure rfl⟩,?_⟩
  rfl
 have hr:=(hf.resolve_right (fun k=>by rw[k.1]at ha;cases ha)).2
 obtain⟨_,rfl,hd⟩:=ade sx 1000 S (by decide) hm hi hJ hr
 refine OpG.mk _ _ _ 9 (a8 [(1000000,1),(1000001,2),(1000002,3),(1000003,4),(1000004,5),(1000005,6),(1000006,7),(1000007,8)] abb hd rfl rfl rfl rfl ⟨rfl,sX ab,sX ai,sX ah,sX ap,sX ae,sX ag,sX aj,trivial⟩ ⟨⟨rfl,.inl rfl⟩,au ab,au ai,au ah,au ap,au ae,au ag,au aj,trivial⟩ ⟨trivial,trivial,trivial,trivial,trivial,trivial,trivial,trivial,trivial⟩ rfl rfl rfl rfl afv rfl) rfl rfl ⟨.inr rfl,_,Ng.cell rfl Bp rfl rfl rfl rfl rfl ⟨[],FzP.pure rfl⟩,?_⟩
 rfl
def cfN(n:Nat)(cs:List PCoef):Nat->List Int
 |0=>List.replicate n 0
 |k+1=>(cfN n cs k).set (cs.getD k ⟨0,0⟩).v.toNat (cs.getD k ⟨0,0⟩).n
abbrev cfR(n:Nat)(cs:List PCoef):List Int:=cfN n cs cs.length
def ofC(n:Nat)(c:PCon):List IqS:=if c.eq=true then[⟨cfR n c.l.cs,-c.l.k⟩,⟨By (cfR n c.l.cs),c.l.k⟩]else[⟨cfR n c.l.cs,-c.l.k⟩]
def x3(n:Nat):List PCon->List IqS
 |[]=>[]
 |c::l=>ofC n c++x3 n l
structure CnB(c:PCon):Prop where
 k:B1 c.l.k
 cs:∀x∈c.l.cs,B1 x.n
 ln:c.l.cs.length<=1000
theorem m3{n:Nat}{cs:List PCoef}:∀{k:Nat},(cfN n cs k).length=n
 |0=>by simp[cfN]
 |k+1=>by rw[cfN,List.length_set,m3]
theorem yn{n:Nat}{cs:List PCoef}(h:∀x∈cs,B1 x.n):∀{k:Nat},BL (cfN n cs k)
 |0=>me n
 |k+1=>by
  rw[cfN]
  refine rp (yn h) ?_
  by_cases hk:k<cs.length
  ·simp only[List.getD,agt hk,Option.getD_some];exact h _ (ags hk)
  ·simp only[List.getD,List.getElem?_eq_none (by omega:cs.length<=k),Option.getD_none];exact Hm
theorem Tw{n:Nat}{cs:List PCoef}{k:Nat}(hk:k<cs.length):(cfN n cs k).set cs[k].v.toNat cs[k].n=cfN n cs (k+1):=by
 rw[cfN];simp only[List.getD,agt hk,Option.getD_some]
theorem Zh{n:Nat}{c:PCon}(h:CnB c):∀q∈ofC n c,BQ q/\q.cs.length=n:=fun q hq=>by
 have h1:=h.k
 unfold ofC at hq
 split at hq
 ·rcases ahi.1 hq with rfl|hq
  ·exact⟨⟨yn h.cs,Ks h1⟩,m3⟩
  ·rw[agx.1 hq]
   exact⟨⟨Kr (yn h.cs),h1⟩,by show(List.map _ _).length=n;rw[agz,m3]⟩
 ·rw[agx.1 hq]
  exact⟨⟨yn h.cs,Ks h1⟩,m3⟩
theorem Dv{n:Nat}{c:PCon}:1<=(ofC n c).length/\(ofC n c).length<=2:=by
 unfold ofC;split<;>simp
theorem yw{n:Nat}:∀{l:List PCon} {k:Nat} (hk:k<l.length),x3 n (l.take k)++ofC n l[k]=x3 n (l.take (k+1))
 |[],k,h=>absurd h (by simp)
 |c::l,0,_=>by simp[x3]
 |c::l,k+1,h=>by
  have:=yw (n:=n) (l:=l) (k:=k) (by simpa using h)
  simp only[List.take_succ_cons,x3,List.getElem_cons_succ,List.append_assoc]
  rw[this]
theorem Df{n:Nat}:∀{l:List PCon} (_:∀c∈l,CnB c),∀q∈x3 n l,BQ q/\q.cs.length=n
 |[],_,q,hq=>by simp[x3]at hq
 |c::l,h,q,hq=>by
  rcases agy.1 hq with hq|hq
  ·exact Zh (h c (List.mem_cons_self ..)) q hq
  ·exact Df (l:=l) (fun c hc=>h c (List.mem_cons_of_mem _ hc)) q hq
theorem ow{n:Nat}:∀{l:List PCon},l.length<=(x3 n l).length/\(x3 n l).length<=2*l.length
 |[]=>⟨ag7 _,ag7 _⟩
 |c::l=>by
  have h1:=@Dv n c
  have h2:=ow (n:=n) (l:=l)
  simp only[x3,agw,ahe];omega
structure KWq where
 k:Nat
 L:List IqS
 v:Nat
structure KV1 where
 k:Nat
 p:Int
theorem adg:ej Tryz.prog 51=some (some 5):=by kernel_rfl
theorem Ba(c:PCon)(n:Int)(hs:c.l.cs.length<=100000)(hr:rgC c n):PRet Tryz.prog 117 [.agg (cnA c),.v (.int .i64 n)] (fun r=>r=.v (.bool true)):=by
 obtain⟨hg,hh,hr3,hr4⟩:=hr
 refine ovT [] [] Tryz.func117 rfl rfl (LenG.of ?_)
 refine LpG.on (fun k0:KV1=>(⟨fL [(1,.v (.int .i64 n)),(5,.v (.int .i64 k0.p)),(10,.tree 2 (c.l.cs.map cfA)),(11,.v (.int .i64 ((c.l.cs.length:Nat):Int))),(12,.v (.int .i64 ((k0.k:Nat):Int)))],hLz [],1⟩:St)) (fun k0=>(c.l.cs.length-k0.k)) (fun k0=>(k0.k<=c.l.cs.length/\((k0.k=0/\k0.p=-1)\/(∃h:k0.k-1<c.l.cs.length,1<=k0.k/\k0.p=c.l.cs[k0.k-1].v)))) (⟨0,-1⟩:KV1) (cO (.cons rfl rfl (.cons rfl rfl (.cons rfl rfl (.cons rfl rfl (.cons rfl rfl .nil))))) .nil) ⟨ag5 _,(.inl ⟨rfl,rfl⟩)⟩ ?_
 rintro k0 hd
 obtain⟨hle_k0,hb⟩:=hd
 refine cL (fun hc=>?_) (fun hge13=>?_)
 have hv0:=hg k0.k hc
 have hv1:k0.p<c.l.cs[k0.k].v:=by
  rcases hb with⟨_,e⟩|⟨h1,h2,e⟩
  ·omega
  ·have:=hh (k0.k-1) (by omega);simp only[show k0.k-1+1=k0.k by omega]at this;omega
 refine IdxG.of ‹_› (cD (fun he=>?_) (fun he=>?_))
 ·exfalso;omega
 ·refine cB (fun ha=>?_) (fun ha=>?_)
  ·exfalso;have h:=ag3 ha;omega
  have hq25:¬((c.l.cs[k0.k].v:Int)≥(n:Int)):=ag2 ha
  refine⟨by omega,⟨(⟨k0.k+1,c.l.cs[k0.k].v⟩:KV1),(by show c.l.cs.length-(k0.k+1)<c.l.cs.length-k0.k;omega),(cO (.cons rfl rfl (.cons rfl rfl (.cons rfl rfl (.cons rfl rfl (.cons rfl rfl .nil))))) .nil),?_⟩⟩
  exact⟨by show k0.k+1<=_;omega,.inr ⟨by show k0.k+1-1<_;omega,by show 1<=k0.k+1;omega,by simp only[show k0.k+1-1=k0.k by omega]⟩⟩
 refine cD (fun hf=>?_) (fun hf=>?_)
 ·refine rV rfl rfl ?_
  show AV.v (.bool (decide _))=_;rw[decide_eq_true (by omega)]
 exfalso;omega
theorem Kq(l:List Int)(hl:ip l (fun y=>True))(b:Int)(hb:B1 b)(hq:BL l)(hs:l.length<=100000):PRet Tryz.prog 136 [.tree 2 (l.map bI),.agg (bI b)] (fun r=>r=.agg (iqA ⟨By l,b⟩)):=by
 refine ovT [] [7] Tryz.func136 rfl rfl (ArgG.mk (wb hb) rfl ?_)
 rintro _ rfl
 refine LenG.of (LpG.via (fun _ h=>kf 2 0 2 rfl rfl rfl rfl rfl 4 rfl h) ?_)
 refine LpG.on (fun k0:KL Int=>(⟨fL [(4,.ptr 1 0 0),(5,.ptr 2 0 0),(11,.tree 2 (l.map bI)),(12,.v (.int .i64 ((l.length:Nat):Int))),(13,.v (.int .i64 ((k0.k:Nat):Int)))],hLz [(1,⟨0,[.v (.slice none 0 0),.v (.bool false),.v (.slice none 0 0)],0,false⟩),(2,⟨0,.sl 3 k0.L.length 0 k0.L.length::bI b,0,false⟩),(3,⟨k0.L.length,rF bI k0.L,2,Nat.beq k0.L.length 0⟩)],4⟩:St)) (fun k0=>(l.length-k0.k)) (fun k0=>(k0.k<=l.length/\(k0.L=(l.take k0.k).map (-·)))) (⟨0,[]⟩:KL Int) (cO (.cons rfl rfl (.cons rfl rfl (.cons rfl rfl (.cons rfl rfl (.cons rfl rfl .nil))))) (.cons rfl rfl rfl (.cons (by rfl) rfl rfl (.cons (by rfl) rfl (aa ae _ _) .nil)))) ⟨ag5 _,rfl⟩ ?_
 rintro k0 hd
 have hgr_k0:l.length<=140737488355328:=hl.1
 obtain⟨hle_k0,ha⟩:=hd
 refine cL (fun hc=>?_) (fun hge14=>?_)
 ·have he:k0.L.length=k0.k:=by rw[ha];simp;omega
  refine IdxG.of ‹_› (ArgG.mk (wc (x:=l[k0.k]) (hq _ (ags ‹_›))) rfl ?_)
  rintro _ rfl
  refine OpG.mk _ _ _ 6 (b9 ae (a:=(-l[k0.k])) Tryz.underlying45 ik A4 Db rfl rfl rfl (dv rfl rfl rfl rfl) rfl (by omega) (by omega) (by unfold TV;omega)) rfl rfl ⟨by kernel_rfl,⟨by omega,?_⟩⟩
  refine⟨(⟨k0.k+1,k0.L++[-l[k0.k]]⟩:KL Int),(by show l.length-(k0.k+1)<l.length-k0.k;omega),(cO (.cons rfl rfl (.cons rfl rfl (.cons rfl rfl (.cons rfl rfl (.cons rfl rfl .nil))))) (.cons rfl rfl rfl (.cons (by(rw[agw];rfl)) rfl rfl (.cons (by(rw[agw];rfl)) rfl (aa ae _ _) .nil)))),⟨by show k0.k+1<=_;omega,?_⟩⟩
  show k0.L++_=(l.take (k0.k+1)).map (-·)
  rw[ag4 hc,List.map_append,ha];rfl
 have he:k0.L.length<=100000:=by rw[ha];simp;omega
 refine RegG.via (fun _ h=>cm [3] 2 0 0 (.sl 3 k0.L.length 0 k0.L.length::bI b) (.tree 2 (k0.L.map bI)::bI b) rfl rfl (.fz (j6 ae (by simp) rfl) (.same _)) rfl h) (aw ?_)
 refine⟨.inr rfl,_,Ng.cell rfl na rfl rfl rfl rfl rfl ⟨[],FzP.pure rfl⟩,?_⟩
 rw[ha,ahj (by omega)]
theorem ad5(c:PCon)(n:Nat)(hn:n<=512)(hc:CnB c)(hr:rgC c ((n:Nat):Int)):PRet Tryz.prog 118 [.agg (cnA c),.v (.int .i64 ((n:Nat):Int))] (fun q=>q=.tree 3 ((ofC n c).map iqA)):=by
 have hln:=hc.ln
 refine ovT [13,35,41,50,100035] [9] Tryz.func118 rfl rfl (ArgG.mk (Ba c ((n:Nat):Int) (aha hc.ln (by decide)) hr) rfl ?_)
 rintro _ rfl
 refine cF (OpG.nw (cv 1 (len:=n) Tryz.underlying45 ik A4 Db rfl rfl rfl (by omega)) rfl ?_)
 refine ArgG.mk (pm (n:=c.l.k) hc.k) rfl ?_
 rintro _ rfl
 refine ArgG.mk (wc (x:=c.l.k) hc.k) rfl ?_
 rintro _ rfl
 refine⟨by kernel_rfl,LenG.of ?_⟩
 refine LpG.on (fun k0:Nat=>(⟨fL [(2,.ptr 0 0 0),(5,.ptr 2 0 0),(22,.tree 2 (c.l.cs.map cfA)),(23,.v (.int .i64 ((c.l.cs.length:Nat):Int))),(24,.v (.int .i64 ((k0:Nat):Int)))],hLz [(0,⟨0,cnA c,0,false⟩),(1,⟨0,rF bI (cfN n c.l.cs k0),2,false⟩),(2,⟨0,.sl 1 0 0 n::bI (-c.l.k),0,false⟩)],3⟩:St)) (fun k0=>(c.l.cs.length-k0)) (fun k0=>(k0<=c.l.cs.length)) 0 (cO (.cons rfl rfl (.cons rfl rfl (.cons rfl rfl (.cons rfl rfl (.cons rfl rfl .nil))))) (.cons rfl rfl rfl (.cons (by rfl) rfl (aa ae _ _) (.cons rfl rfl rfl .nil)))) (ag5 _) ?_
 rintro k0 hd
 have hle_k0:=hd
 refine cL (fun hb=>?_) (fun hge25=>?_)
 ·have hv:=hr.1 k0 hb
  refine IdxG.of ‹_› (ArgG.mk (pm (n:=c.l.cs[k0].n) (hc.cs _ (ags ‹_›))) rfl ?_)
  rintro _ rfl
  refine OpG.lk (av (k:=c.l.cs[k0].v.toNat) ae Tryz.underlying45 ik rfl rfl (Int.toNat_of_nonneg hv.1).symm (by omega) rfl) (OpG.wr (bl (k:=c.l.cs[k0].v.toNat) (o:=0) (v:=c.l.cs[k0].n) ae ik rfl rfl rfl rfl rfl rfl (by rw[m3];omega) (by decide) rfl) rfl ?_)
  refine⟨by kernel_rfl,⟨by omega,?_⟩⟩
  refine⟨(k0+1),by omega,(cO (.cons rfl rfl (.cons rfl rfl (.cons rfl rfl (.cons rfl rfl (.cons rfl rfl .nil))))) (.cons rfl rfl rfl (.cons (by(rw[Tw (by omega)];rfl)) rfl (aa ae _ _) (.cons rfl rfl rfl .nil)))),?_⟩
  omega
 have he:cfN n c.l.cs k0=cfR n c.l.cs:=by rw[show k0=c.l.cs.length by omega]
 refine RegG.via (fun _ h=>ck 1 ⟨0,rF bI (cfR n c.l.cs),2,false⟩ rfl (by rw[he]) h) (RegG.via (fun _ h=>cm [1] 2 0 0 (.sl 1 0 0 n::bI (-c.l.k)) (iqA (⟨cfR n c.l.cs,-c.l.k⟩:IqS)) rfl rfl (.fz (b7 ae (agx.2 rfl) rfl m3.symm) (.same _)) rfl h) ?_)
 refine aw (cB (fun ha=>?_) (fun ha=>?_))
 ·refine OpG.nw (bq (cj Tryz.underlying85 jt r6 rfl rfl rfl rfl) (fun η' h=>bc (f:=iqA) (l:=[(⟨cfR n c.l.cs,-c.l.k⟩:IqS)]) (agx.2 rfl) h rfl rfl rfl rfl rfl (fun a _=>⟨rfl,rfl⟩))) rfl ⟨.inr rfl,_,Ng.tmp rfl ⟨[],FzP.pure rfl⟩,?_⟩
  rw[ofC,ag0 (by simpa using ha)];rfl
 refine ArgG.mk (pm (n:=c.l.k) hc.k) rfl ?_
 rintro _ rfl
 refine ArgG.mk (Kq (cfR n c.l.cs) ⟨by rw[m3];omega,fun _ _=>trivial⟩ c.l.k hc.k (yn hc.cs) (by rw[m3];omega)) rfl ?_
 rintro _ rfl
 refine OpG.nw (bq (cj Tryz.underlying85 jt r6 rfl rfl rfl rfl) (fun η' h=>bc (f:=iqA) (l:=[(⟨cfR n c.l.cs,-c.l.k⟩:IqS),(⟨By (cfR n c.l.cs),c.l.k⟩:IqS)]) (agx.2 rfl) h rfl rfl rfl rfl rfl (fun a _=>⟨rfl,rfl⟩))) rfl ⟨by kernel_rfl,⟨.inr rfl,_,Ng.tmp rfl ⟨[],FzP.pure rfl⟩,?_⟩⟩
 rw[ofC,ag1 (by simpa using ha)];rfl
theorem Fq(l:List PCon)(hl:ip l (fun y=>True))(n:Nat)(hn:n<=512)(hll:l.length<=10000)(hc:∀c∈l,CnB c)(hr:∀c∈l,rgC c ((n:Nat):Int)):PRet Tryz.prog 82 [.tree 3 (l.map cnA),.v (.int .i64 ((n:Nat):Int))] (fun q=>q=.tree 3 ((x3 n l).map iqA)):=by
 refine ovT [22] [] Tryz.func82 rfl rfl (LenG.of ?_)
 refine LpG.via (fun _ h=>ry 5 3 rfl 1 rfl h) (LpG.on (fun k0:KWq=>(⟨fL [(1,.v (.int .i64 ((n:Nat):Int))),(5,.sl 0 k0.v 0 k0.L.length),(8,.tree 3 (l.map cnA)),(9,.v (.int .i64 ((l.length:Nat):Int))),(10,.v (.int .i64 ((k0.k:Nat):Int)))],hLz [(0,⟨k0.v,rF iqA k0.L,3,Nat.beq k0.L.length 0⟩)],1⟩:St)) (fun k0=>(l.length-k0.k)) (fun k0=>(k0.k<=l.length/\(k0.L=x3 n (l.take k0.k)/\k0.v<=k0.k))) (⟨0,[],0⟩:KWq) (cO (.cons rfl rfl (.cons (by rfl) rfl (.cons rfl rfl (.cons rfl rfl (.cons rfl rfl .nil))))) (.cons (by rfl) rfl (aa ab _ _) .nil)) ⟨ag5 _,⟨rfl,ag7 _⟩⟩ ?_)
 rintro k0 hd
 have hgr_k0:l.length<=140737488355328:=hl.1
 obtain⟨hle_k0,hb⟩:=hd
 refine cL (fun ha=>?_) (fun hge11=>?_)
 ·have hlL:k0.L.length<=20000:=by rw[hb.1];have:=ow (n:=n) (l:=l.take k0.k);simp at this;omega
  have hl2:=Dv (n:=n) (c:=l[k0.k])
  refine IdxG.of ‹_› (ArgG.mk (Ba l[k0.k] ((n:Nat):Int) (aha (hc _ (ags ha)).ln (by decide)) (hr _ (ags ha))) rfl ?_)
  rintro _ rfl
  refine cF (ArgG.mk (ad5 l[k0.k] n hn (hc _ (ags ha)) (hr _ (ags ha))) rfl ?_)
  rintro _ rfl
  refine OpG.mk _ _ _ 2 (Cy ab (l:=k0.L) (l':=ofC n l[k0.k]) Tryz.underlying85 jt r6 Al rfl rfl rfl rfl (by omega) (by omega) (by unfold TV;omega)) rfl rfl ⟨by omega,⟨(⟨k0.k+1,(k0.L++ofC n l[k0.k]),vbX k0.v (k0.L++ofC n l[k0.k]).length⟩:KWq),(by show l.length-(k0.k+1)<l.length-k0.k;omega),(cO (.cons rfl rfl (.cons (by rfl) rfl (.cons rfl rfl (.cons rfl rfl (.cons rfl rfl .nil))))) (.cons (by rfl) rfl (aa ab _ _) .nil)),?_⟩⟩
  exact⟨by show k0.k+1<=_;omega,⟨by show k0.L++_=_;rw[hb.1];exact yw ha,by have:=X7 (ver:=k0.v) (n:=(k0.L++ofC n l[k0.k]).length);show vbX _ _<=k0.k+1;omega⟩⟩
 refine⟨.inr rfl,_,Ng.tmp rfl ⟨[0],j6 ab (agx.2 rfl) rfl⟩,?_⟩
 rw[hb.1,ahj (by omega)]
theorem Uq(l:List PCon)(hl:ip l (fun y=>True))(n:Nat)(S:List StS)(h1:1<=n)(h2:n<=512)(hl0:0<l.length)(ha:l.length<=10000)(hc:∀c∈l,CnB c)(hr:∀c∈l,rgC c ((n:Nat):Int))(hb:∀c,aZ c<=FM->Nt c)(hJ:I3)(h:A0 n (x3 n l)=some S):PRet Tryz.prog 37 [.v (.int .i64 ((n:Nat):Int)),.tree 3 (l.map cnA)] (fun q=>q=.tup [ba,.agg (pfA S),.v (.bool false)]):=by
 refine ovT [] [] Tryz.func37 rfl rfl (ArgG.mk (Fq l hl n (by omega) ha hc hr) rfl ?_)
 rintro _ rfl
 refine ArgG.mk (Qo (x3 n l) ⟨by have:=(ow (n:=n) (l:=l)).2;omega,fun _ _=>trivial⟩ n S h1 (by omega) (by have:=(ow (n:=n) (l:=l)).1;omega) (by have:=(ow (n:=n) (l:=l)).2;omega) (Df hc) hb hJ h) rfl ?_
 rintro _ rfl
 refine cF ⟨by kernel_rfl,⟨.inr rfl,_,ib rfl (Uc.tmp ⟨[],FzP.pure rfl⟩) (Uc.cellN Tryz.f37 adg rfl rfl rfl rfl rfl ⟨[],FzP.pure rfl⟩) (Uc.tmp ⟨[],FzP.pure rfl⟩),?_⟩⟩
 rfl
end Go.Proofs.YtbhhmbchdponjaaGreatDoor
