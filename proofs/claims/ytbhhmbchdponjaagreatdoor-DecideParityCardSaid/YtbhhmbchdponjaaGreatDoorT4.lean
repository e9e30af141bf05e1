/- Texts of the claim. -/
import Derived.Test.YtbhhmbchdponjaaGreatDoorT3
import Derived.Test.YtbhhmbchdponjaaGreatDoorQ2
namespace Go.Proofs
open Go.Shelf
def Tryz.cloI_ren:Go.Shelf.Ren:=⟨fun|41=>132|n=>n,fun|22=>85|23=>118|4=>4|n=>n,fun|n=>n⟩
theorem Tryz.cloI:Go.Proofs.SlLaysE0.n41 Tryz.prog Tryz.cloI_ren:={
 mixed:=by kernel_rfl
 f41:=⟨Tryz.f132.name,by decide,Tryz.func132.trans (congrArg some (by kernel_rfl))⟩
 t4:=Tryz.underlying4
 a4:=Tryz.isAgg4
 z4:=Tryz.sizeOf4
 v4:=Tryz.zeroValue4
 t22:=Tryz.underlying85
 a22:=Tryz.isAgg85
 z22:=Tryz.sizeOf85
 v22:=Tryz.zeroValue85}
end Go.Proofs
namespace Go.Proofs.YtbhhmbchdponjaaGreatDoor
set_option maxRecDepth 1000000
set_option maxHeartbeats 0
open Go.Shelf in
theorem cl_I:CloneL Tryz.prog 132 3:=⟨⟨Tryz.cloI_ren,Tryz.t118,_,_,rfl,Tryz.cloI,by kernel_rfl,rfl,rfl,rfl,rfl,Tryz.sizeOf118,by decide⟩,by decide⟩
set_option linter.unusedVariables false
set_option linter.unusedSimpArgs false
open Go.RowKit
abbrev Nk(n i:Nat):List Int:=(List.replicate n 0).set i 1
abbrev nuS(n:Nat)(sys:List IqS):OSt:={n:=n,K:=sys,vK:=0,S:=[],vS:=0,U:=(List.range n).map (Nk n),vU:=n,T:=List.replicate n 0,V:=List.replicate n 0,I:=[],vI:=0,E:=[],vE:=0}
theorem Th{n i:Nat}:(Nk n i).length=n:=by simp
theorem Ti{n k:Nat}:(List.range k).map (Nk n)++[Nk n k]=(List.range (k+1)).map (Nk n):=by rw[List.range_succ,List.map_append];rfl
theorem Xy{n:Nat}{sys:List IqS}(h1:1<=n)(h2:n<=1000)(h3:∀q∈sys,BQ q/\q.cs.length=n):OOk (nuS n sys):=
 ⟨h1,h2,h3,fun x hx=>by simp at hx,by simp,fun r hr=>by
  obtain⟨i,_,rfl⟩:=aej.1 hr
  exact⟨ru (oh n) Ns,Th⟩,by simp,by simp,oh n⟩
theorem flg{α:Type}{l:List α}(h:0<l.length):Nat.beq l.length 0=false:=l7 (by omega)
theorem blkI{n v:Nat}(h:1<=n):some (⟨v,rF iA (List.replicate n 0),1,false⟩:Blk)=some ⟨v,rF iA (List.replicate n 0),1,Nat.beq (List.replicate n (0:Int)).length 0⟩:=by rw[flg (by simp;omega)]
theorem blkB{n v:Nat}(h:1<=n):some (⟨v,rF bI (List.replicate n 0),2,false⟩:Blk)=some ⟨v,rF bI (List.replicate n 0),2,Nat.beq (List.replicate n (0:Int)).length 0⟩:=by rw[flg (by simp;omega)]
theorem blkK{sys:List IqS}{v:Nat}(h:0<sys.length):some (⟨v,rF iqA sys,3,false⟩:Blk)=some ⟨v,rF iqA sys,3,Nat.beq sys.length 0⟩:=by rw[flg h]
theorem Zo:b7 Tryz.prog 132=true:=by kernel_rfl
theorem by45:(Tryz.prog.info? 45).map (·.bytes)=some 24:=by kernel_rfl
theorem zr45:bh Tryz.prog 45=some (.slice none 0 0):=by kernel_rfl
theorem Hv(sys:List IqS)(hsys:iq sys (fun y=>True))(n:Nat)(h1:1<=n)(h2:n<=1000)(h4:0<sys.length)(hl:sys.length<=100000):t8 Tryz.prog 113 [.v (.int .i64 ((n:Nat):Int)),.tree 3 (sys.map iqA)] [] [(3,some (⟨0,[.v (.int .i64 (((nuS n sys).n:Nat):Int)),.sl 0 (nuS n sys).vK 0 (nuS n sys).K.length,.sl 4 (nuS n sys).vS 0 (nuS n sys).S.length,.sl 7 (nuS n sys).vU 0 (nuS n sys).U.length,.sl 1 0 0 (nuS n sys).T.length,.sl 2 0 0 (nuS n sys).V.length,.sl 5 (nuS n sys).vI 0 (nuS n sys).I.length,.sl 6 (nuS n sys).vE 0 (nuS n sys).E.length],0,false⟩)),(0,some (s1 (nuS n sys))),(4,some (s2 (nuS n sys))),(7,some (s3 (nuS n sys))),(1,some (s4 (nuS n sys))),(2,some (s5 (nuS n sys))),(5,some (s6 (nuS n sys))),(6,some (s7 (nuS n sys)))] (fun q=>q=.ptr 3 0 0):=by
 refine t8.of_vc kh [10,12,14,22,26,100026] [2,7] Tryz.func113 rfl Tryz.ntmps113 rfl (by kernel_rfl) (OpG.mk _ _ _ 1 (ba [(0,0)] Zo (pg cl_I ab sys h4 (by omega)) rfl rfl rfl rfl trivial trivial ⟨aq ab _ _,trivial⟩ rfl rfl rfl rfl (j6 ab rfl) rfl) rfl rfl ?_)
 refine OpG.nw (oo (len:=n) ap 1 Tryz.underlying27 sz3 zr3 by3 rfl rfl rfl rfl rfl (by omega) (by omega) (by omega)) rfl (OpG.nw (cr 2 (len:=n) Tryz.underlying45 iu Da Er rfl rfl rfl (by omega)) rfl ?_)
 refine⟨by kernel_rfl,RegG.via (fun _ h=>ky 3 2 3 rfl rfl rfl rfl rfl 5 rfl h) ?_⟩
 refine RegG.via (fun _ h=>ky 3 6 2 rfl rfl rfl rfl rfl 6 rfl h) (RegG.via (fun _ h=>ky 3 7 3 rfl rfl rfl rfl rfl 7 rfl h) ?_)
 refine aw (LpG.via (fun _ h=>ky 3 3 1 rfl rfl rfl rfl rfl 8 rfl h) ?_)
 refine LpG.on (fun k0:KL (List Int)=>(⟨fL [(0,.v (.int .i64 ((n:Nat):Int))),(5,.ptr 3 0 0),(17,.v (.int .i64 ((n:Nat):Int))),(18,.v (.int .i64 ((k0.k:Nat):Int)))],hLz [(0,⟨0,rF iqA sys,3,false⟩),(1,⟨0,rF iA (List.replicate n 0),1,false⟩),(2,⟨0,rF bI (List.replicate n 0),2,false⟩),(3,⟨0,[.v (.int .i64 ((n:Nat):Int)),.sl 0 0 0 sys.length,.sl 4 0 0 0,.sl 7 k0.L.length 0 k0.L.length,.sl 1 0 0 n,.sl 2 0 0 n,.sl 5 0 0 0,.sl 6 0 0 0],0,false⟩),(4,⟨0,[],3,true⟩),(5,⟨0,[],2,true⟩),(6,⟨0,[],3,true⟩),(7,⟨k0.L.length,rF rlA k0.L,1,Nat.beq k0.L.length 0⟩)],8⟩:St)) (fun k0=>(n-k0.k)) (fun k0=>(k0.k<=n/\(k0.L=(List.range k0.k).map (Nk n)))) (⟨0,[]⟩:KL (List Int)) (cO (.cons rfl rfl (.cons rfl rfl (.cons rfl rfl (.cons rfl rfl .nil)))) (.cons rfl rfl (aa ab _ _) (.cons rfl rfl (aa ap _ _) (.cons rfl rfl (aa ae _ _) (.cons (by rfl) rfl rfl (.cons rfl rfl rfl (.cons rfl rfl rfl (.cons rfl rfl rfl (.cons (by rfl) rfl (aa ah _ _) .nil))))))))) ⟨ad7 _,rfl⟩ ?_
 rintro k0 h3
 obtain⟨hle_k0,h0⟩:=h3
 refine cL (fun hlt19=>?_) (fun hge19=>?_)
 ·have h6:k0.L.length=k0.k:=by rw[h0];simp
  refine OpG.nw (cr 8 (len:=n) Tryz.underlying45 iu Da Er rfl rfl rfl (by omega)) rfl (ArgG.mk (qa (n:=1) ⟨by decide,by decide⟩) rfl ?_)
  rintro _ rfl
  refine OpG.lk (az (k:=k0.k) ae Tryz.underlying45 iu rfl rfl rfl (by omega) rfl) (OpG.wr (bj (k:=k0.k) (o:=0) (v:=1) ae iu rfl rfl rfl rfl rfl rfl (by simp;omega) (by decide) rfl) rfl ?_)
  refine RegG.via (fun _ h=>bl [8] 7 (.tree 2 ((Nk n k0.k).map bI)) (bz ae (ady.2 rfl) rfl (by simp)) rfl h) (aw ?_)
  refine OpG.mk _ _ _ 10 (b9 ah (a:=(Nk n k0.k)) Tryz.underlying214 Ob zr45 by45 rfl rfl rfl (er rfl rfl rfl rfl) rfl (by omega) (by omega) (by unfold TV;omega)) rfl rfl ⟨by omega,⟨(⟨k0.k+1,k0.L++[Nk n k0.k]⟩:KL (List Int)),(by show n-(k0.k+1)<n-k0.k;omega),(cO (.cons rfl rfl (.cons rfl rfl (.cons rfl rfl (.cons rfl rfl .nil)))) (.cons rfl rfl (aa ab _ _) (.cons rfl rfl (aa ap _ _) (.cons rfl rfl (aa ae _ _) (.cons (by(rw[adx];rfl)) rfl rfl (.cons rfl rfl rfl (.cons rfl rfl rfl (.cons rfl rfl rfl (.cons (by(rw[adx];rfl)) rfl (aa ah _ _) .nil))))))))),?_⟩⟩
  refine⟨by show k0.k+1<=_;omega,?_⟩
  show k0.L++_=_
  rw[h0];exact Ti
 have h6:k0.L.length=k0.k:=by rw[h0];simp
 have h7:k0.k=n:=by omega
 have h5:k0.L=(List.range n).map (Nk n):=by rw[h0,h7]
 refine⟨.inr rfl,_,M0.of [] (a8 rfl (.cons (Z5.tmp rfl) .nil)) rfl ⟨.same (Eq.trans (b:=some ⟨0,[.v (.int .i64 ((n:Nat):Int)),.sl 0 0 0 sys.length,.sl 4 0 0 0,.sl 7 k0.L.length 0 k0.L.length,.sl 1 0 0 n,.sl 2 0 0 n,.sl 5 0 0 0,.sl 6 0 0 0],0,false⟩) rfl (by rw[h5];simp)) (by decide),.same (blkK h4) (by decide),.same rfl (by decide),.same (Eq.trans (b:=some ⟨k0.L.length,rF rlA k0.L,1,Nat.beq k0.L.length 0⟩) rfl (by rw[h5];simp)) (by decide),.same (Eq.trans (b:=some ⟨0,rF iA (List.replicate n 0),1,false⟩) rfl (blkI h1)) (by decide),.same (Eq.trans (b:=some ⟨0,rF bI (List.replicate n 0),2,false⟩) rfl (blkB h1)) (by decide),.same rfl (by decide),.same rfl (by decide),trivial⟩ .same,?_⟩
 rfl
theorem ut{s0:OSt}:∀(f k:Nat) {s':OSt} {i j:Int} {fd ok:Bool} (_:OOk s0) (_:jk s0 f k=some (s',i,j,fd,ok)),Lat s0 s'/\0<=i/\0<=j
 |0,k,s',i,j,fd,ok,ho,h=>by unfold jk at h;cases h;exact⟨⟨ho,rfl,ad9 _⟩,by decide,by decide⟩
 |f+1,k,s',i,j,fd,ok,ho,h=>by
  unfold jk at h
  split at h
  ·cases h
  ·split at h
   ·exact ut f _ ho h
   ·split at h
    ·exact ut f _ ho h
    ·split at h
     ·cases h
     ·split at h
      ·split at h
       ·split at h
        ·cases h
        ·next e=>cases h;exact⟨Lat.put ⟨ho,rfl,ad9 _⟩ (by simp) (oh _) (by simp) e,by decide,by decide⟩
       ·split at h
        ·cases h;exact⟨⟨ho,rfl,ad9 _⟩,Int.natCast_nonneg _,Int.natCast_nonneg _⟩
        ·exact ut f _ ho h
      ·cases h
theorem O3{s s':OSt}{i j:Int}{fd ok:Bool}(ho:OOk s)(h:zf s=some (s',i,j,fd,ok)):Lat s s'/\0<=i/\0<=j:=ut _ _ ho (ye h).2
theorem Gs{i j p:Nat}{up down:ItS}{s0:OSt}:∀(L:List ItS) (k:Nat) (s:OSt) {s':OSt} {ok:Bool} (_:Lat s0 s) (_:∀x∈L,In s0 x) (_:eqF i j p up down L k s=some (s',ok)),Lat s0 s'
 |[],k,s,s',ok,h1,h2,h=>by unfold eqF at h;cases h;exact h1
 |x::r,k,s,s',ok,h1,h2,h=>by
  have hr:∀y∈r,In s0 y:=fun y hy=>h2 y (List.mem_cons_of_mem _ hy)
  have hx:=h2 x (List.mem_cons_self ..)
  unfold eqF at h
  split at h
  ·exact Gs r _ _ h1 hr h
  ·split at h
   ·cases h
   ·split at h
    ·split at h
     ·cases h
     ·next e=>exact Gs r _ _ (h1.add hx e) hr h
    ·split at h
     ·cases h
     ·next e=>
      have hl:=h1.put (by simp) (ru hx.1 Mi) (by rw[List.length_set,hx.2.1,h1.n]) e
      split at h
      ·exact Gs r _ _ hl hr h
      ·cases h;exact hl
theorem Yy{s s':OSt}{i j:Nat}{ok:Bool}(ho:OOk s)(h:eqO s i j=some (s',ok)):OOk s'/\s'.n=s.n:=by
 obtain⟨t,p,hi,hj,h0,hpn,_,he⟩:=Gr h
 obtain⟨hs,_⟩:=zr _ _ h0 (Ar ho)
 have hu:=hs.ok.I _ (adt hi)
 have h1:=Gs (s0:=t) _ _ _ (Kt (p:=p) hs.ok hu) (fun x hx=>hs.ok.I x (List.mem_of_mem_drop hx)) he
 exact⟨h1.ok,h1.n.trans hs.n⟩
def Nn:Nat->OSt->Option (List StS)
 |0,_=>none
 |f+1,s=>match zf s with
  |none=>none
  |some (s',_,_,_,false)=>some s'.S
  |some (s',i,j,true,true)=>match eqO s' i.toNat j.toNat with
   |none=>none
   |some (s2,true)=>Nn f s2
   |some (s2,false)=>some s2.S
  |some (_,_,_,false,true)=>none
theorem Ty{s:OSt}{k F:Nat}{S:List StS}(h:Nn (F-k) s=some S):k<F/\∃s' i j fd ok,zf s=some (s',i,j,fd,ok)/\((ok=false/\S=s'.S)\/(ok=true/\fd=true/\∃s2 o2,eqO s' i.toNat j.toNat=some (s2,o2)/\((o2=true/\Nn (F-(k+1)) s2=some S)\/(o2=false/\S=s2.S)))):=by
 by_cases hF:k<F
 ·refine⟨hF,?_⟩
  rw[show F-k=(F-(k+1))+1 by omega]at h
  unfold Nn at h
  split at h
  ·cases h
  ·next s' i j fd e=>cases h;exact⟨s',i,j,fd,false,e,.inl ⟨rfl,rfl⟩⟩
  ·next s' i j e=>
   refine⟨s',i,j,true,true,e,.inr ⟨rfl,rfl,?_⟩⟩
   split at h
   ·cases h
   ·next s2 e2=>exact⟨s2,true,e2,.inl ⟨rfl,h⟩⟩
   ·next s2 e2=>cases h;exact⟨s2,false,e2,.inr ⟨rfl,rfl⟩⟩
  ·cases h
 ·rw[show F-k=0 by omega]at h;cases h
def Nm(n:Nat)(sys:List IqS):Option (List StS):=match Zz (nuS n sys)with
 |none=>none
 |some (s,false)=>some s.S
 |some (s,true)=>Nn 1000 s
theorem Jf{n:Nat}{sys:List IqS}{S:List StS}(h:Nm n sys=some S):∃s ok,Zz (nuS n sys)=some (s,ok)/\((ok=true/\Nn (1000-0) s=some S)\/(ok=false/\S=s.S)):=by
 unfold Nm at h
 split at h
 ·cases h
 ·next s e=>cases h;exact⟨s,false,e,.inr ⟨rfl,rfl⟩⟩
 ·next s e=>exact⟨s,true,e,.inl ⟨rfl,h⟩⟩
theorem Me:∀(f k:Nat) (s:OSt) {s':OSt} {ok:Bool} (_:OOk s) (_:Ex f k s=some (s',ok)),OOk s'
 |0,k,s,s',ok,ho,h=>by unfold Ex at h;cases h;exact ho
 |f+1,k,s,s',ok,ho,h=>by
  unfold Ex at h
  split at h
  ·cases h
  ·next q e=>
   obtain⟨hk,rfl⟩:=aen.1 e
   have hq:=ho.K _ (adt hk)
   split at h
   ·cases h
   ·next e1=>
    obtain⟨h1,_⟩:=Dt e1 ho (by simp) hq.1.c hq.2
    split at h
    ·exact Me f _ _ h1 h
    ·cases h;exact h1
abbrev oy:AV:=.v (.slice none 0 0)
abbrev pfA(S:List StS):List AV:=[.tree 3 (S.map stA),oy,.v (.bool false),oy,oy]
abbrev abq(S:List StS):List AV:=[.v (.int .i64 1),oy,.tree 3 (S.map stA),oy,.v (.bool false),oy,oy,.v (.int .i64 0)]
theorem delR{s:OSt}:fj [(1000000,1000000),(1000001,1000001),(1000002,1000002),(1000003,1000003),(1000004,1000004),(1000005,1000005),(1000006,1000006),(1000007,1000007)] [(1000000,some (sB s)),(1000001,some (s1 s)),(1000002,none),(1000003,some (s3 s)),(1000004,some (s4 s)),(1000005,some (s5 s)),(1000006,some (s6 s)),(1000007,some (s7 s))]=[(1000000,some (sB s)),(1000001,some (s1 s)),(1000002,none),(1000003,some (s3 s)),(1000004,some (s4 s)),(1000005,some (s5 s)),(1000006,some (s6 s)),(1000007,some (s7 s))]:=by
 simp only[fj,aei,List.map_nil,aep,Option.map_none,ce ab,ce ai,ce ah,ce ap,ce ae,ce ag,ce aj]
 rfl
theorem delL{s:OSt}:fj [(1000000,1),(1000001,2),(1000002,3),(1000003,4),(1000004,5),(1000005,6),(1000006,7),(1000007,8)] [(1000000,some (sB s)),(1000001,some (s1 s)),(1000002,some (s2 s)),(1000003,some (s3 s)),(1000004,some (s4 s)),(1000005,some (s5 s)),(1000006,some (s6 s)),(1000007,some (s7 s))]=[(1,some (⟨0,[.v (.int .i64 ((s.n:Nat):Int)),.sl 2 s.vK 0 s.K.length,.sl 3 s.vS 0 s.S.length,.sl 4 s.vU 0 s.U.length,.sl 5 0 0 s.T.length,.sl 6 0 0 s.V.length,.sl 7 s.vI 0 s.I.length,.sl 8 s.vE 0 s.E.length],0,false⟩)),(2,some (s1 s)),(3,some (s2 s)),(4,some (s3 s)),(5,some (s4 s)),(6,some (s5 s)),(7,some (s6 s)),(8,some (s7 s))]:=by
 simp only[fj,aei,List.map_nil,aep,Option.map_none,ce ab,ce ai,ce ah,ce ap,ce ae,ce ag,ce aj]
 rfl
theorem ac0{s:OSt}:fj [(1000000,1),(1000001,2),(1000002,3),(1000003,4),(1000004,5),(1000005,6),(1000006,7),(1000007,8)] [(1000000,some (sB s)),(1000001,some (s1 s)),(1000002,none),(1000003,some (s3 s)),(1000004,some (s4 s)),(1000005,some (s5 s)),(1000006,some (s6 s)),(1000007,some (s7 s))]=[(1,some (⟨0,[.v (.int .i64 ((s.n:Nat):Int)),.sl 2 s.vK 0 s.K.length,.sl 3 s.vS 0 s.S.length,.sl 4 s.vU 0 s.U.length,.sl 5 0 0 s.T.length,.sl 6 0 0 s.V.length,.sl 7 s.vI 0 s.I.length,.sl 8 s.vE 0 s.E.length],0,false⟩)),(2,some (s1 s)),(3,none),(4,some (s3 s)),(5,some (s4 s)),(6,some (s5 s)),(7,some (s6 s)),(8,some (s7 s))]:=by
 simp only[fj,aei,List.map_nil,aep,Option.map_none,ce ab,ce ai,ce ah,ce ap,ce ae,ce ag,ce aj]
 rfl
theorem ac1:fj [(1000000,1),(1000001,2),(1000002,3),(1000003,4),(1000004,5),(1000005,6),(1000006,7),(1000007,8)] [(1000000,none),(1000001,none),(1000002,none),(1000003,none),(1000004,none),(1000005,none),(1000006,none),(1000007,none)]=[(1,none),(2,none),(3,none),(4,none),(5,none),(6,none),(7,none),(8,none)]:=rfl
theorem acz{s:OSt}:fj [(3,1),(0,2),(4,3),(7,4),(1,5),(2,6),(5,7),(6,8)] [(3,some (⟨0,[.v (.int .i64 ((s.n:Nat):Int)),.sl 0 s.vK 0 s.K.length,.sl 4 s.vS 0 s.S.length,.sl 7 s.vU 0 s.U.length,.sl 1 0 0 s.T.length,.sl 2 0 0 s.V.length,.sl 5 s.vI 0 s.I.length,.sl 6 s.vE 0 s.E.length],0,false⟩)),(0,some (s1 s)),(4,some (s2 s)),(7,some (s3 s)),(1,some (s4 s)),(2,some (s5 s)),(5,some (s6 s)),(6,some (s7 s))]=[(1,some (⟨0,[.v (.int .i64 ((s.n:Nat):Int)),.sl 2 s.vK 0 s.K.length,.sl 3 s.vS 0 s.S.length,.sl 4 s.vU 0 s.U.length,.sl 5 0 0 s.T.length,.sl 6 0 0 s.V.length,.sl 7 s.vI 0 s.I.length,.sl 8 s.vE 0 s.E.length],0,false⟩)),(2,some (s1 s)),(3,some (s2 s)),(4,some (s3 s)),(5,some (s4 s)),(6,some (s5 s)),(7,some (s6 s)),(8,some (s7 s))]:=by
 simp only[fj,aei,List.map_nil,aep,Option.map_none,ce ab,ce ai,ce ah,ce ap,ce ae,ce ag,ce aj]
 rfl
theorem Zr:b7 Tryz.prog 113=true:=by kernel_rfl
theorem Zq:b7 Tryz.prog 114=true:=by kernel_rfl
theorem Mb:b7 Tryz.prog 115=true:=by kernel_rfl
theorem Zp:b7 Tryz.prog 116=true:=by kernel_rfl
theorem Zn:b7 Tryz.prog 151=true:=by kernel_rfl
theorem Zm:b7 Tryz.prog 152=true:=by kernel_rfl
theorem Bo:d9 Tryz.prog 152=some (some 8):=by kernel_rfl
theorem vy(s:OSt):t8 Tryz.prog 115 [.ptr 1000000 0 0] [(1000000,sB s),(1000001,s1 s),(1000002,s2 s),(1000003,s3 s),(1000004,s4 s),(1000005,s5 s),(1000006,s6 s),(1000007,s7 s)] [(1000000,some (sB s)),(1000001,some (s1 s)),(1000002,none),(1000003,some (s3 s)),(1000004,some (s4 s)),(1000005,some (s5 s)),(1000006,some (s6 s)),(1000007,some (s7 s))] (fun q=>q=.agg (abq s.S)):=by
 refine t8.of_vc kh [] [] Tryz.func115 rfl Tryz.ntmps115 rfl (by kernel_rfl) ⟨.inr rfl,_,M0.of [1000002] (a8 rfl (.cons (Z5.cellN Bo rfl rfl trivial rfl rfl rfl) .nil)) rfl ⟨.same rfl (by decide),.same rfl (by decide),.gone,.same rfl (by decide),.same rfl (by decide),.same rfl (by decide),.same rfl (by decide),.same rfl (by decide),trivial⟩ (.fz (j0 (.cons (.pure rfl) (.cons (.pure rfl) (.cons (ld ai (ady.2 rfl) rfl) (.cons (.pure rfl) (.cons (.pure rfl) (.cons (.pure rfl) (.cons (.pure rfl) (.cons (.pure rfl) .nil)))))))))),?_⟩
 rfl
theorem aa3(s:OSt)(F:Nat)(S:List StS)(hF:F<=1000000)(ho:OOk s)(hb:∀c,aZ c<=FM->Nt c)(hJ:Ii)(h:Nn (F-0) s=some S):t8 Tryz.prog 116 [.ptr 1000000 0 0] [(1000000,sB s),(1000001,s1 s),(1000002,s2 s),(1000003,s3 s),(1000004,s4 s),(1000005,s5 s),(1000006,s6 s),(1000007,s7 s)] [(1000000,none),(1000001,none),(1000002,none),(1000003,none),(1000004,none),(1000005,none),(1000006,none),(1000007,none)] (fun q=>q=.agg (abq S)):=by
 refine t8.of_vc kh [11,19,24,27] [3,6] Tryz.func116 rfl Tryz.ntmps116 rfl (by kernel_rfl) (LpG.on (fun k0:KO=>(⟨fL [(0,.ptr 1000000 0 0),(2,.ptr 0 0 0)],hLz [(0,⟨0,[.v (.int .i64 0),.v (.slice none 0 0),.v (.slice none 0 0),.v (.slice none 0 0),.v (.bool false),.v (.slice none 0 0),.v (.slice none 0 0),.v (.int .i64 0)],0,false⟩),(1000000,sB k0.s),(1000001,s1 k0.s),(1000002,s2 k0.s),(1000003,s3 k0.s),(1000004,s4 k0.s),(1000005,s5 k0.s),(1000006,s6 k0.s),(1000007,s7 k0.s)],1⟩:St)) (fun k0=>(F-k0.k)) (fun k0=>(k0.k<=F/\(Nn (F-k0.k) k0.s=some S/\OOk k0.s))) (⟨0,s⟩:KO) (cO (.cons rfl rfl (.cons rfl rfl .nil)) (.cons rfl rfl rfl (.cons rfl rfl rfl (.cons rfl rfl (aa ab _ _) (.cons rfl rfl (aa ai _ _) (.cons rfl rfl (aa ah _ _) (.cons rfl rfl (aa ap _ _) (.cons rfl rfl (aa ae _ _) (.cons rfl rfl (aa ag _ _) (.cons rfl rfl (aa aj _ _) .nil)))))))))) ⟨ad7 _,⟨h,ho⟩⟩ ?_)
 rintro k0 h5
 obtain⟨hle_k0,h0⟩:=h5
 obtain⟨hlt0,sx,ix,jx,fdx,okx,h8,h9⟩:=Ty h0.1
 obtain⟨ha,hc,hd⟩:=O3 h0.2 h8
 obtain⟨ix,rfl⟩:=Int.eq_ofNat_of_zero_le hc
 obtain⟨jx,rfl⟩:=Int.eq_ofNat_of_zero_le hd
 obtain⟨_,rfl,he⟩:=Xp k0.s sx _ _ fdx okx h0.2 hb hJ h8
 refine OpG.mk _ _ _ 1 (ba [(1000000,1000000),(1000001,1000001),(1000002,1000002),(1000003,1000003),(1000004,1000004),(1000005,1000005),(1000006,1000006),(1000007,1000007)] Zn he rfl rfl rfl rfl ⟨rfl,sX ab,sX ai,sX ah,sX ap,sX ae,sX ag,sX aj,trivial⟩ ⟨⟨rfl,.inl rfl⟩,au ab,au ai,au ah,au ap,au ae,au ag,au aj,trivial⟩ ⟨rfl,aq ab _ _,aq ai _ _,aq ah _ _,aq ap _ _,aq ae _ _,aq ag _ _,aq aj _ _,trivial⟩ rfl rfl rfl rfl u3 rfl) rfl rfl (cB (fun h1=>?_) (fun h1=>?_))
 ·obtain rfl:=(h9.resolve_right (fun k=>by rw[k.1]at h1;cases h1)).2
  obtain⟨_,rfl,h6⟩:=vy sx
  refine aw (OpG.mk _ _ _ 1 (ba [(1000000,1000000),(1000001,1000001),(1000002,1000002),(1000003,1000003),(1000004,1000004),(1000005,1000005),(1000006,1000006),(1000007,1000007)] Mb h6 rfl rfl rfl rfl ⟨rfl,sX ab,sX ai,sX ah,sX ap,sX ae,sX ag,sX aj,trivial⟩ ⟨⟨rfl,.inl rfl⟩,au ab,au ai,au ah,au ap,au ae,au ag,au aj,trivial⟩ ⟨rfl,aq ab _ _,trivial,aq ah _ _,aq ap _ _,aq ae _ _,aq ag _ _,aq aj _ _,trivial⟩ rfl rfl rfl rfl delR rfl) rfl rfl ?_)
  refine⟨.inr rfl,_,M0.of [] (a8 rfl (.cons (Z5.cellN Bo rfl rfl trivial rfl rfl rfl) .nil)) rfl ⟨.gone,.gone,.gone,.gone,.gone,.gone,.gone,.gone,trivial⟩ .same,?_⟩
  rfl
 obtain⟨_,hf,sy,o2,h7,h4⟩:=h9.resolve_left (fun k=>by rw[k.1]at h1;cases h1)
 refine cB (fun h3=>?_) (fun h3=>?_)
 ·rw[Int.toNat_natCast,Int.toNat_natCast]at h7
  obtain⟨hg,_⟩:=Yy ha.ok h7
  obtain⟨_,rfl,hh⟩:=Vg sx sy ix jx o2 ha.ok h7
  refine OpG.mk _ _ _ 1 (ba [(1000000,1000000),(1000001,1000001),(1000002,1000002),(1000003,1000003),(1000004,1000004),(1000005,1000005),(1000006,1000006),(1000007,1000007)] Zm hh rfl rfl rfl rfl ⟨rfl,sX ab,sX ai,sX ah,sX ap,sX ae,sX ag,sX aj,trivial⟩ ⟨⟨rfl,.inl rfl⟩,au ab,au ai,au ah,au ap,au ae,au ag,au aj,trivial⟩ ⟨rfl,aq ab _ _,aq ai _ _,aq ah _ _,aq ap _ _,aq ae _ _,aq ag _ _,aq aj _ _,trivial⟩ rfl rfl rfl rfl u3 rfl) rfl rfl (cB (fun h2=>?_) (fun h2=>?_))
  ·obtain rfl:=(h4.resolve_left (fun k=>by rw[k.1]at h2;cases h2)).2
   obtain⟨_,rfl,h6⟩:=vy sy
   refine aw (OpG.mk _ _ _ 1 (ba [(1000000,1000000),(1000001,1000001),(1000002,1000002),(1000003,1000003),(1000004,1000004),(1000005,1000005),(1000006,1000006),(1000007,1000007)] Mb h6 rfl rfl rfl rfl ⟨rfl,sX ab,sX ai,sX ah,sX ap,sX ae,sX ag,sX aj,trivial⟩ ⟨⟨rfl,.inl rfl⟩,au ab,au ai,au ah,au ap,au ae,au ag,au aj,trivial⟩ ⟨rfl,aq ab _ _,trivial,aq ah _ _,aq ap _ _,aq ae _ _,aq ag _ _,aq aj _ _,trivial⟩ rfl rfl rfl rfl delR rfl) rfl rfl ?_)
   refine⟨.inr rfl,_,M0.of [] (a8 rfl (.cons (Z5.cellN Bo rfl rfl trivial rfl rfl rfl) .nil)) rfl ⟨.gone,.gone,.gone,.gone,.gone,.gone,.gone,.gone,trivial⟩ .same,?_⟩
   rfl
  have hi:=(h4.resolve_right (fun k=>by rw[k.1]at h2;cases h2)).2
  refine⟨(⟨k0.k+1,sy⟩:KO),(by show F-(k0.k+1)<F-k0.k;omega),(cO (.cons rfl rfl (.cons rfl rfl .nil)) (.cons rfl rfl rfl (.cons rfl rfl rfl (.cons rfl rfl (aa ab _ _) (.cons rfl rfl (aa ai _ _) (.cons rfl rfl (aa ah _ _) (.cons rfl rfl (aa ap _ _) (.cons rfl rfl (aa ae _ _) (.cons rfl rfl (aa ag _ _) (.cons rfl rfl (aa aj _ _) .nil)))))))))),⟨by show k0.k+1<=_;omega,?_⟩⟩
  exact⟨hi,hg⟩
 exfalso;rw[hf]at h3;cases h3
theorem Qe(sys:List IqS)(h3:iq sys (fun y=>True))(n:Nat)(S:List StS)(h1:1<=n)(h2:n<=1000)(h7:0<sys.length)(hl:sys.length<=100000)(h8:∀q∈sys,BQ q/\q.cs.length=n)(h9:∀c,aZ c<=FM->Nt c)(hJ:Ii)(h:Nm n sys=some S):PRet Tryz.prog 81 [.v (.int .i64 ((n:Nat):Int)),.tree 3 (sys.map iqA)] (fun q=>q=.agg (abq S)):=by
 obtain⟨_,rfl,ha⟩:=Hv sys h3 n h1 h2 h7 hl
 have h5:=Xy h1 h2 h8
 obtain⟨sx,okx,hb,h6⟩:=Jf h
 obtain⟨_,rfl,hc⟩:=Vy (nuS n sys) sx okx h5 (by show sys.length<=_;omega) hb
 have hd:=Me _ _ _ h5 hb
 refine ovT [8,10,13,15] [] Tryz.func81 rfl rfl (OpG.mk _ _ _ 9 (ba [(3,1),(0,2),(4,3),(7,4),(1,5),(2,6),(5,7),(6,8)] Zr ha rfl rfl rfl rfl trivial trivial ⟨rfl,aq ab _ _,aq ai _ _,aq ah _ _,aq ap _ _,aq ae _ _,aq ag _ _,aq aj _ _,trivial⟩ rfl rfl rfl rfl acz rfl) rfl rfl ?_)
 refine OpG.mk _ _ _ 9 (ba [(1000000,1),(1000001,2),(1000002,3),(1000003,4),(1000004,5),(1000005,6),(1000006,7),(1000007,8)] Zq hc rfl rfl rfl rfl ⟨rfl,sX ab,sX ai,sX ah,sX ap,sX ae,sX ag,sX aj,trivial⟩ ⟨⟨rfl,.inl rfl⟩,au ab,au ai,au ah,au ap,au ae,au ag,au aj,trivial⟩ ⟨rfl,aq ab _ _,aq ai _ _,aq ah _ _,aq ap _ _,aq ae _ _,aq ag _ _,aq aj _ _,trivial⟩ rfl rfl rfl rfl delL rfl) rfl rfl (cB (fun h0=>?_) (fun h0=>?_))
 ·obtain rfl:=(h6.resolve_left (fun k=>by rw[k.1]at h0;cases h0)).2
  obtain⟨_,rfl,h4⟩:=vy sx
  refine OpG.mk _ _ _ 9 (ba [(1000000,1),(1000001,2),(1000002,3),(1000003,4),(1000004,5),(1000005,6),(1000006,7),(1000007,8)] Mb h4 rfl rfl rfl rfl ⟨rfl,sX ab,sX ai,sX ah,sX ap,sX ae,sX ag,sX aj,trivial⟩ ⟨⟨rfl,.inl rfl⟩,au ab,au ai,au ah,au ap,au ae,au ag,au aj,trivial⟩ ⟨rfl,aq ab _ _,trivial,aq ah _ _,aq ap _ _,aq ae _ _,aq ag _ _,aq aj _ _,trivial⟩ rfl rfl rfl rfl ac0 rfl) rfl rfl ⟨.inr rfl,_,M1.cell rfl Bo rfl rfl rfl rfl rfl ⟨[],FzP.pure rfl⟩,?_⟩
  rfl
 have hr:=(h6.resolve_right (fun k=>by rw[k.1]at h0;cases h0)).2
 obtain⟨_,rfl,h4⟩:=aa3 sx 1000 S (by decide) hd h9 hJ hr
 refine OpG.mk _ _ _ 9 (ba [(1000000,1),(1000001,2),(1000002,3),(1000003,4),(1000004,5),(1000005,6),(1000006,7),(1000007,8)] Zp h4 rfl rfl rfl rfl ⟨rfl,sX ab,sX ai,sX ah,sX ap,sX ae,sX ag,sX aj,trivial⟩ ⟨⟨rfl,.inl rfl⟩,au ab,au ai,au ah,au ap,au ae,au ag,au aj,trivial⟩ ⟨trivial,trivial,trivial,trivial,trivial,trivial,trivial,trivial,trivial⟩ rfl rfl rfl rfl ac1 rfl) rfl rfl ⟨.inr rfl,_,M1.cell rfl Bo rfl rfl rfl rfl rfl ⟨[],FzP.pure rfl⟩,?_⟩
 rfl
def cfN(n:Nat)(cs:List PCoef):Nat->List Int
 |0=>List.replicate n 0
 |k+1=>(cfN n cs k).set (cs.getD k ⟨0,0⟩).v.toNat (cs.getD k ⟨0,0⟩).n
abbrev cfR(n:Nat)(cs:List PCoef):List Int:=cfN n cs cs.length
def ofC(n:Nat)(c:PCon):List IqS:=if c.eq=true then[⟨cfR n c.l.cs,-c.l.k⟩,⟨Bz (cfR n c.l.cs),c.l.k⟩]else[⟨cfR n c.l.cs,-c.l.k⟩]
def Ba(n:Nat):List PCon->List IqS
 |[]=>[]
 |c::l=>ofC n c++Ba n l
structure CnB(c:PCon):Prop where
 k:B1 c.l.k
 cs:∀x∈c.l.cs,B1 x.n
 ln:c.l.cs.length<=1000
theorem mu{n:Nat}{cs:List PCoef}:∀{k:Nat},(cfN n cs k).length=n
 |0=>by simp[cfN]
 |k+1=>by rw[cfN,List.length_set,mu]
theorem yn{n:Nat}{cs:List PCoef}(h:∀x∈cs,B1 x.n):∀{k:Nat},BL (cfN n cs k)
 |0=>oh n
 |k+1=>by
  rw[cfN]
  refine ru (yn h) ?_
  by_cases hk:k<cs.length
  ·simp only[List.getD,adu hk,Option.getD_some];exact h _ (adt hk)
  ·simp only[List.getD,List.getElem?_eq_none (by omega:cs.length<=k),Option.getD_none];exact Mi
theorem Sw{n:Nat}{cs:List PCoef}{k:Nat}(hk:k<cs.length):(cfN n cs k).set cs[k].v.toNat cs[k].n=cfN n cs (k+1):=by
 rw[cfN];simp only[List.getD,adu hk,Option.getD_some]
theorem Xx{n:Nat}{c:PCon}(h:CnB c):∀q∈ofC n c,BQ q/\q.cs.length=n:=fun q hq=>by
 have h1:=h.k
 unfold ofC at hq
 split at hq
 ·rcases aek.1 hq with rfl|hq
  ·exact⟨⟨yn h.cs,Ke h1⟩,mu⟩
  ·rw[ady.1 hq]
   exact⟨⟨Kd (yn h.cs),h1⟩,by show(List.map _ _).length=n;rw[ad0,mu]⟩
 ·rw[ady.1 hq]
  exact⟨⟨yn h.cs,Ke h1⟩,mu⟩
theorem Dx{n:Nat}{c:PCon}:1<=(ofC n c).length/\(ofC n c).length<=2:=by
 unfold ofC;split<;>simp
theorem yu{n:Nat}:∀{l:List PCon} {k:Nat} (hk:k<l.length),Ba n (l.take k)++ofC n l[k]=Ba n (l.take (k+1))
 |[],k,h=>absurd h (by simp)
 |c::l,0,_=>by simp[Ba]
 |c::l,k+1,h=>by
  have:=yu (n:=n) (l:=l) (k:=k) (by simpa using h)
  simp only[List.take_succ_cons,Ba,List.getElem_cons_succ,List.append_assoc]
  rw[this]
theorem Di{n:Nat}:∀{l:List PCon} (_:∀c∈l,CnB c),∀q∈Ba n l,BQ q/\q.cs.length=n
 |[],_,q,hq=>by simp[Ba]at hq
 |c::l,h,q,hq=>by
  rcases adz.1 hq with hq|hq
  ·exact Xx (h c (List.mem_cons_self ..)) q hq
  ·exact Di (l:=l) (fun c hc=>h c (List.mem_cons_of_mem _ hc)) q hq
theorem ot{n:Nat}:∀{l:List PCon},l.length<=(Ba n l).length/\(Ba n l).length<=2*l.length
 |[]=>⟨ad9 _,ad9 _⟩
 |c::l=>by
  have h1:=@Dx n c
  have h2:=ot (n:=n) (l:=l)
  simp only[Ba,adx,aeg];omega
structure KWq where
 k:Nat
 L:List IqS
 v:Nat
structure KV1 where
 k:Nat
 p:Int
theorem aa7:d9 Tryz.prog 51=some (some 5):=by kernel_rfl
theorem A6(c:PCon)(n:Int)(hs:c.l.cs.length<=100000)(hr:rgC c n):PRet Tryz.prog 117 [.agg (cnA c),.v (.int .i64 n)] (fun r=>r=.v (.bool true)):=by
 obtain⟨h8,h9,hr3,hr4⟩:=hr
 refine ovT [] [] Tryz.func117 rfl rfl (LenG.of ?_)
 refine LpG.on (fun k0:KV1=>(⟨fL [(1,.v (.int .i64 n)),(5,.v (.int .i64 k0.p)),(10,.tree 2 (c.l.cs.map cfA)),(11,.v (.int .i64 ((c.l.cs.length:Nat):Int))),(12,.v (.int .i64 ((k0.k:Nat):Int)))],hLz [],1⟩:St)) (fun k0=>(c.l.cs.length-k0.k)) (fun k0=>(k0.k<=c.l.cs.length/\((k0.k=0/\k0.p=-1)\/(∃h:k0.k-1<c.l.cs.length,1<=k0.k/\k0.p=c.l.cs[k0.k-1].v)))) (⟨0,-1⟩:KV1) (cO (.cons rfl rfl (.cons rfl rfl (.cons rfl rfl (.cons rfl rfl (.cons rfl rfl .nil))))) .nil) ⟨ad7 _,(.inl ⟨rfl,rfl⟩)⟩ ?_
 rintro k0 h5
 obtain⟨hle_k0,h3⟩:=h5
 refine cL (fun h4=>?_) (fun hge13=>?_)
 have hv0:=h8 k0.k h4
 have hv1:k0.p<c.l.cs[k0.k].v:=by
  rcases h3 with⟨_,e⟩|⟨h1,h2,e⟩
  ·omega
  ·have:=h9 (k0.k-1) (by omega);simp only[show k0.k-1+1=k0.k by omega]at this;omega
 refine IdxG.of ‹_› (cD (fun h6=>?_) (fun h6=>?_))
 ·exfalso;omega
 ·refine cB (fun h0=>?_) (fun h0=>?_)
  ·exfalso;have h:=ad5 h0;omega
  have hq25:¬((c.l.cs[k0.k].v:Int)≥(n:Int)):=ad4 h0
  refine⟨by omega,⟨(⟨k0.k+1,c.l.cs[k0.k].v⟩:KV1),(by show c.l.cs.length-(k0.k+1)<c.l.cs.length-k0.k;omega),(cO (.cons rfl rfl (.cons rfl rfl (.cons rfl rfl (.cons rfl rfl (.cons rfl rfl .nil))))) .nil),?_⟩⟩
  exact⟨by show k0.k+1<=_;omega,.inr ⟨by show k0.k+1-1<_;omega,by show 1<=k0.k+1;omega,by simp only[show k0.k+1-1=k0.k by omega]⟩⟩
 refine cD (fun h7=>?_) (fun h7=>?_)
 ·refine rV rfl rfl ?_
  show AV.v (.bool (decide _))=_;rw[decide_eq_true (by omega)]
 exfalso;omega
theorem Kc(l:List Int)(hl:iq l (fun y=>True))(b:Int)(hb:B1 b)(hq:BL l)(hs:l.length<=100000):PRet Tryz.prog 136 [.tree 2 (l.map bI),.agg (bI b)] (fun r=>r=.agg (iqA ⟨Bz l,b⟩)):=by
 refine ovT [] [7] Tryz.func136 rfl rfl (ArgG.mk (zj hb) rfl ?_)
 rintro _ rfl
 refine LenG.of (LpG.via (fun _ h=>ky 2 0 2 rfl rfl rfl rfl rfl 4 rfl h) ?_)
 refine LpG.on (fun k0:KL Int=>(⟨fL [(4,.ptr 1 0 0),(5,.ptr 2 0 0),(11,.tree 2 (l.map bI)),(12,.v (.int .i64 ((l.length:Nat):Int))),(13,.v (.int .i64 ((k0.k:Nat):Int)))],hLz [(1,⟨0,[.v (.slice none 0 0),.v (.bool false),.v (.slice none 0 0)],0,false⟩),(2,⟨0,.sl 3 k0.L.length 0 k0.L.length::bI b,0,false⟩),(3,⟨k0.L.length,rF bI k0.L,2,Nat.beq k0.L.length 0⟩)],4⟩:St)) (fun k0=>(l.length-k0.k)) (fun k0=>(k0.k<=l.length/\(k0.L=(l.take k0.k).map (-·)))) (⟨0,[]⟩:KL Int) (cO (.cons rfl rfl (.cons rfl rfl (.cons rfl rfl (.cons rfl rfl (.cons rfl rfl .nil))))) (.cons rfl rfl rfl (.cons (by rfl) rfl rfl (.cons (by rfl) rfl (aa ae _ _) .nil)))) ⟨ad7 _,rfl⟩ ?_
 rintro k0 h2
 have hgr_k0:l.length<=140737488355328:=hl.1
 obtain⟨hle_k0,h0⟩:=h2
 refine cL (fun h1=>?_) (fun hge14=>?_)
 ·have h3:k0.L.length=k0.k:=by rw[h0];simp;omega
  refine IdxG.of ‹_› (ArgG.mk (yg (x:=l[k0.k]) (hq _ (adt ‹_›))) rfl ?_)
  rintro _ rfl
  refine OpG.mk _ _ _ 6 (b9 ae (a:=(-l[k0.k])) Tryz.underlying45 iu Da Er rfl rfl rfl (er rfl rfl rfl rfl) rfl (by omega) (by omega) (by unfold TV;omega)) rfl rfl ⟨by kernel_rfl,⟨by omega,?_⟩⟩
  refine⟨(⟨k0.k+1,k0.L++[-l[k0.k]]⟩:KL Int),(by show l.length-(k0.k+1)<l.length-k0.k;omega),(cO (.cons rfl rfl (.cons rfl rfl (.cons rfl rfl (.cons rfl rfl (.cons rfl rfl .nil))))) (.cons rfl rfl rfl (.cons (by(rw[adx];rfl)) rfl rfl (.cons (by(rw[adx];rfl)) rfl (aa ae _ _) .nil)))),⟨by show k0.k+1<=_;omega,?_⟩⟩
  show k0.L++_=(l.take (k0.k+1)).map (-·)
  rw[ad6 h1,List.map_append,h0];rfl
 have h3:k0.L.length<=100000:=by rw[h0];simp;omega
 refine RegG.via (fun _ h=>cv [3] 2 0 0 (.sl 3 k0.L.length 0 k0.L.length::bI b) (.tree 2 (k0.L.map bI)::bI b) rfl rfl (.fz (ld ae (by simp) rfl) (.same _)) rfl h) (aw ?_)
 refine⟨.inr rfl,_,M1.cell rfl tl rfl rfl rfl rfl rfl ⟨[],FzP.pure rfl⟩,?_⟩
 rw[h0,ael (by omega)]
theorem abz(c:PCon)(n:Nat)(hn:n<=512)(hc:CnB c)(hr:rgC c ((n:Nat):Int)):PRet Tryz.prog 118 [.agg (cnA c),.v (.int .i64 ((n:Nat):Int))] (fun q=>q=.tree 3 ((ofC n c).map iqA)):=by
 have hln:=hc.ln
 refine ovT [13,35,41,50,100035] [9] Tryz.func118 rfl rfl (ArgG.mk (A6 c ((n:Nat):Int) (aec hc.ln (by decide)) hr) rfl ?_)
 rintro _ rfl
 refine cF (OpG.nw (cr 1 (len:=n) Tryz.underlying45 iu Da Er rfl rfl rfl (by omega)) rfl ?_)
 refine ArgG.mk (qa (n:=c.l.k) hc.k) rfl ?_
 rintro _ rfl
 refine ArgG.mk (yg (x:=c.l.k) hc.k) rfl ?_
 rintro _ rfl
 refine⟨by kernel_rfl,LenG.of ?_⟩
 refine LpG.on (fun k0:Nat=>(⟨fL [(2,.ptr 0 0 0),(5,.ptr 2 0 0),(22,.tree 2 (c.l.cs.map cfA)),(23,.v (.int .i64 ((c.l.cs.length:Nat):Int))),(24,.v (.int .i64 ((k0:Nat):Int)))],hLz [(0,⟨0,cnA c,0,false⟩),(1,⟨0,rF bI (cfN n c.l.cs k0),2,false⟩),(2,⟨0,.sl 1 0 0 n::bI (-c.l.k),0,false⟩)],3⟩:St)) (fun k0=>(c.l.cs.length-k0)) (fun k0=>(k0<=c.l.cs.length)) 0 (cO (.cons rfl rfl (.cons rfl rfl (.cons rfl rfl (.cons rfl rfl (.cons rfl rfl .nil))))) (.cons rfl rfl rfl (.cons (by rfl) rfl (aa ae _ _) (.cons rfl rfl rfl .nil)))) (ad7 _) ?_
 rintro k0 h2
 have hle_k0:=h2
 refine cL (fun h1=>?_) (fun hge25=>?_)
 ·have hv:=hr.1 k0 h1
  refine IdxG.of ‹_› (ArgG.mk (qa (n:=c.l.cs[k0].n) (hc.cs _ (adt ‹_›))) rfl ?_)
  rintro _ rfl
  refine OpG.lk (az (k:=c.l.cs[k0].v.toNat) ae Tryz.underlying45 iu rfl rfl (Int.toNat_of_nonneg hv.1).symm (by omega) rfl) (OpG.wr (bj (k:=c.l.cs[k0].v.toNat) (o:=0) (v:=c.l.cs[k0].n) ae iu rfl rfl rfl rfl rfl rfl (by rw[mu];omega) (by decide) rfl) rfl ?_)
  refine⟨by kernel_rfl,⟨by omega,?_⟩⟩
  refine⟨(k0+1),by omega,(cO (.cons rfl rfl (.cons rfl rfl (.cons rfl rfl (.cons rfl rfl (.cons rfl rfl .nil))))) (.cons rfl rfl rfl (.cons (by(rw[Sw (by omega)];rfl)) rfl (aa ae _ _) (.cons rfl rfl rfl .nil)))),?_⟩
  omega
 have h3:cfN n c.l.cs k0=cfR n c.l.cs:=by rw[show k0=c.l.cs.length by omega]
 refine RegG.via (fun _ h=>c9 1 ⟨0,rF bI (cfR n c.l.cs),2,false⟩ rfl (by rw[h3]) h) (RegG.via (fun _ h=>cv [1] 2 0 0 (.sl 1 0 0 n::bI (-c.l.k)) (iqA (⟨cfR n c.l.cs,-c.l.k⟩:IqS)) rfl rfl (.fz (bz ae (ady.2 rfl) rfl mu.symm) (.same _)) rfl h) ?_)
 refine aw (cB (fun h0=>?_) (fun h0=>?_))
 ·refine OpG.nw (cm (d4 Tryz.underlying85 kz ua rfl rfl rfl rfl) (fun η' h=>bi (f:=iqA) (l:=[(⟨cfR n c.l.cs,-c.l.k⟩:IqS)]) (ady.2 rfl) h rfl rfl rfl rfl rfl (fun a _=>⟨rfl,rfl⟩))) rfl ⟨.inr rfl,_,M1.tmp rfl ⟨[],FzP.pure rfl⟩,?_⟩
  rw[ofC,ad1 (by simpa using h0)];rfl
 refine ArgG.mk (qa (n:=c.l.k) hc.k) rfl ?_
 rintro _ rfl
 refine ArgG.mk (Kc (cfR n c.l.cs) ⟨by rw[mu];omega,fun _ _=>trivial⟩ c.l.k hc.k (yn hc.cs) (by rw[mu];omega)) rfl ?_
 rintro _ rfl
 refine OpG.nw (cm (d4 Tryz.underlying85 kz ua rfl rfl rfl rfl) (fun η' h=>bi (f:=iqA) (l:=[(⟨cfR n c.l.cs,-c.l.k⟩:IqS),(⟨Bz (cfR n c.l.cs),c.l.k⟩:IqS)]) (ady.2 rfl) h rfl rfl rfl rfl rfl (fun a _=>⟨rfl,rfl⟩))) rfl ⟨by kernel_rfl,⟨.inr rfl,_,M1.tmp rfl ⟨[],FzP.pure rfl⟩,?_⟩⟩
 rw[ofC,ad3 (by simpa using h0)];rfl
theorem Oe(l:List PCon)(hl:iq l (fun y=>True))(n:Nat)(hn:n<=512)(hll:l.length<=10000)(hc:∀c∈l,CnB c)(hr:∀c∈l,rgC c ((n:Nat):Int)):PRet Tryz.prog 82 [.tree 3 (l.map cnA),.v (.int .i64 ((n:Nat):Int))] (fun q=>q=.tree 3 ((Ba n l).map iqA)):=by
 refine ovT [22] [] Tryz.func82 rfl rfl (LenG.of ?_)
 refine LpG.via (fun _ h=>sc 5 3 rfl 1 rfl h) (LpG.on (fun k0:KWq=>(⟨fL [(1,.v (.int .i64 ((n:Nat):Int))),(5,.sl 0 k0.v 0 k0.L.length),(8,.tree 3 (l.map cnA)),(9,.v (.int .i64 ((l.length:Nat):Int))),(10,.v (.int .i64 ((k0.k:Nat):Int)))],hLz [(0,⟨k0.v,rF iqA k0.L,3,Nat.beq k0.L.length 0⟩)],1⟩:St)) (fun k0=>(l.length-k0.k)) (fun k0=>(k0.k<=l.length/\(k0.L=Ba n (l.take k0.k)/\k0.v<=k0.k))) (⟨0,[],0⟩:KWq) (cO (.cons rfl rfl (.cons (by rfl) rfl (.cons rfl rfl (.cons rfl rfl (.cons rfl rfl .nil))))) (.cons (by rfl) rfl (aa ab _ _) .nil)) ⟨ad7 _,⟨rfl,ad9 _⟩⟩ ?_)
 rintro k0 h2
 have hgr_k0:l.length<=140737488355328:=hl.1
 obtain⟨hle_k0,h1⟩:=h2
 refine cL (fun h0=>?_) (fun hge11=>?_)
 ·have hlL:k0.L.length<=20000:=by rw[h1.1];have:=ot (n:=n) (l:=l.take k0.k);simp at this;omega
  have hl2:=Dx (n:=n) (c:=l[k0.k])
  refine IdxG.of ‹_› (ArgG.mk (A6 l[k0.k] ((n:Nat):Int) (aec (hc _ (adt h0)).ln (by decide)) (hr _ (adt h0))) rfl ?_)
  rintro _ rfl
  refine cF (ArgG.mk (abz l[k0.k] n hn (hc _ (adt h0)) (hr _ (adt h0))) rfl ?_)
  rintro _ rfl
  refine OpG.mk _ _ _ 2 (C4 ab (l:=k0.L) (l':=ofC n l[k0.k]) Tryz.underlying85 kz ua Cs rfl rfl rfl rfl (by omega) (by omega) (by unfold TV;omega)) rfl rfl ⟨by omega,⟨(⟨k0.k+1,(k0.L++ofC n l[k0.k]),vbX k0.v (k0.L++ofC n l[k0.k]).length⟩:KWq),(by show l.length-(k0.k+1)<l.length-k0.k;omega),(cO (.cons rfl rfl (.cons (by rfl) rfl (.cons rfl rfl (.cons rfl rfl (.cons rfl rfl .nil))))) (.cons (by rfl) rfl (aa ab _ _) .nil)),?_⟩⟩
  exact⟨by show k0.k+1<=_;omega,⟨by show k0.L++_=_;rw[h1.1];exact yu h0,by have:=Wu (ver:=k0.v) (n:=(k0.L++ofC n l[k0.k]).length);show vbX _ _<=k0.k+1;omega⟩⟩
 refine⟨.inr rfl,_,M1.tmp rfl ⟨[0],ld ab (ady.2 rfl) rfl⟩,?_⟩
 rw[h1.1,ael (by omega)]
theorem Tp(l:List PCon)(hl:iq l (fun y=>True))(n:Nat)(S:List StS)(h1:1<=n)(h2:n<=512)(hl0:0<l.length)(h0:l.length<=10000)(hc:∀c∈l,CnB c)(hr:∀c∈l,rgC c ((n:Nat):Int))(h3:∀c,aZ c<=FM->Nt c)(hJ:Ii)(h:Nm n (Ba n l)=some S):PRet Tryz.prog 37 [.v (.int .i64 ((n:Nat):Int)),.tree 3 (l.map cnA)] (fun q=>q=.tup [oy,.agg (pfA S),.v (.bool false)]):=by
 refine ovT [] [] Tryz.func37 rfl rfl (ArgG.mk (Oe l hl n (by omega) h0 hc hr) rfl ?_)
 rintro _ rfl
 refine ArgG.mk (Qe (Ba n l) ⟨by have:=(ot (n:=n) (l:=l)).2;omega,fun _ _=>trivial⟩ n S h1 (by omega) (by have:=(ot (n:=n) (l:=l)).1;omega) (by have:=(ot (n:=n) (l:=l)).2;omega) (Di hc) h3 hJ h) rfl ?_
 rintro _ rfl
 refine cF ⟨by kernel_rfl,⟨.inr rfl,_,fe rfl (Tb.tmp ⟨[],FzP.pure rfl⟩) (Tb.cellN Tryz.f37 aa7 rfl rfl rfl rfl rfl ⟨[],FzP.pure rfl⟩) (Tb.tmp ⟨[],FzP.pure rfl⟩),?_⟩⟩
 rfl
end Go.Proofs.YtbhhmbchdponjaaGreatDoor
