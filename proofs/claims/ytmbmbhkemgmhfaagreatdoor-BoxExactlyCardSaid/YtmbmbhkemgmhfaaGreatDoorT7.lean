/- Texts of the claim. -/
import Derived.Test.YtmbmbhkemgmhfaaGreatDoorT6
import Derived.Test.YtmbmbhkemgmhfaaGreatDoorQ2
import Derived.Test.YtmbmbhkemgmhfaaGreatDoorQ1
import Derived.Test.YtmbmbhkemgmhfaaGreatDoorT4
namespace Go.Proofs.YtmbmbhkemgmhfaaGreatDoor
set_option maxRecDepth 1000000
set_option maxHeartbeats 0
set_option linter.unusedVariables false
set_option linter.unusedSimpArgs false
open Go.RowKit
def xp:List Int->List Int->Int->Option Int
 |_,[],a=>some a
 |[],_::_,_=>none
 |u::us,y::ys,a=>if B1 (u*y)/\B1 (a+u*y)then xp us ys (a+u*y)else none
theorem abf{us ys:List Int}{k:Nat}{a R:Int}(h:k<ys.length)(hu:k<us.length)(e:xp (us.drop k) (ys.drop k) a=some R):B1 (us[k]*ys[k])/\B1 (a+us[k]*ys[k])/\xp (us.drop (k+1)) (ys.drop (k+1)) (a+us[k]*ys[k])=some R:=by
 rw[aho h,aho hu]at e
 unfold xp at e
 split at e
 ·next g=>exact⟨g.1,g.2,e⟩
 cases e
theorem abg{us ys:List Int}{k:Nat}{a R:Int}(h:¬k<ys.length)(e:xp (us.drop k) (ys.drop k) a=some R):a=R:=by
 rw[List.drop_eq_nil_of_le (by omega:ys.length<=k)]at e
 unfold xp at e;exact Option.some.inj e
theorem zs0{R:List Int}{n k:Nat}(hr:R.length=n)(h:k<n):(R.take k++(List.replicate n (0:Int)).drop k).set k 0=R.take k++(List.replicate n (0:Int)).drop k:=by
 have hl:R.length=(List.replicate n (0:Int)).length:=by simp[hr]
 have hk:k<(List.replicate n (0:Int)).length:=by simpa using h
 have e:=k7 hl hk (by rw[bw hl];exact hk)
 have e0:(List.replicate n (0:Int))[k]=0:=by simp
 rw[e0]at e
 exact(congrArg (fun z=>List.set (R.take k++(List.replicate n (0:Int)).drop k) k z) e.symm).trans (List.set_getElem_self _)
theorem Ib(s:OSt)(y R:List Int)(ho:OOk s)(hyl:y.length=s.n)(hb:BL y)(hR:R.length=s.n)(h:∀i (hi:i<s.U.length),xp s.U[i] y 0=some (R.getD i 0)):o7 Tryz.prog 128 [.ptr 1000000 0 0,.sl 1000008 0 0 s.n] [(1000000,sB s),(1000001,s1 s),(1000002,s2 s),(1000003,s3 s),(1000004,s4 s),(1000005,s5 s),(1000006,s6 s),(1000007,s7 s),(1000008,⟨0,rF bI y,2,false⟩)] [(1000000,some (sB s)),(1000001,some (s1 s)),(1000002,some (s2 s)),(1000003,some (s3 s)),(1000004,some (s4 s)),(1000005,some (s5 s)),(1000006,some (s6 s)),(1000007,some (s7 s)),(1000008,some (⟨0,rF bI y,2,false⟩))] (fun q=>q=.tree 2 (R.map bI)):=by
 have h6:R.length=(List.replicate s.n (0:Int)).length:=by simp[hR]
 have hUl:=ho.Ul
 have hn2:=ho.n2
 refine o7.of_vc ik [12,27,28,34,35,41,42,45,100045] [5,10,11] Tryz.func128 rfl Tryz.ntmps128 rfl (by kernel_rfl) (OpG.nw (cq 0 (len:=s.n) Tryz.underlying66 jf Dj E6 rfl rfl rfl (by omega)) rfl ?_)
 refine LpG.on (fun k0:Nat=>(⟨fL [(0,.ptr 1000000 0 0),(1,.sl 1000008 0 0 s.n),(5,.sl 0 0 0 s.n),(14,.v (.int .i64 ((s.n:Nat):Int))),(15,.v (.int .i64 ((k0:Nat):Int)))],hLz [(0,⟨0,rF bI (R.take k0++(List.replicate s.n (0:Int)).drop k0),2,false⟩),(1000000,sB s),(1000001,s1 s),(1000002,s2 s),(1000003,s3 s),(1000004,s4 s),(1000005,s5 s),(1000006,s6 s),(1000007,s7 s),(1000008,⟨0,rF bI y,2,false⟩)],1⟩:St)) (fun k0=>(s.n-k0)) (fun k0=>(k0<=s.n)) 0 (cO (.cons rfl rfl (.cons rfl rfl (.cons rfl rfl (.cons rfl rfl (.cons rfl rfl .nil))))) (.cons rfl rfl (aa ab _ _) (.cons rfl rfl rfl (.cons rfl rfl (aa ag _ _) (.cons rfl rfl (aa ai _ _) (.cons rfl rfl (aa ah _ _) (.cons rfl rfl (aa ao _ _) (.cons rfl rfl (aa ab _ _) (.cons rfl rfl (aa ae _ _) (.cons rfl rfl (aa aj _ _) (.cons rfl rfl (aa ab _ _) .nil))))))))))) (ag6 _) ?_
 rintro k0 h3
 have hle_k0:=h3
 refine cL (fun hlt16=>?_) (fun hge16=>?_)
 ·have h1:k0<s.U.length:=by omega
  have h8:=ho.U _ (agt h1)
  have hc:R.getD k0 0=R[k0]'(by omega):=Qp (by omega)
  refine RegG.via (fun _ h=>cd 0 ⟨0,rF bI ((R.take k0++(List.replicate s.n (0:Int)).drop k0).set k0 0),2,false⟩ rfl (by rw[zs0 hR (by omega)]) h) (ba ?_)
  refine LpG.on (fun k2:KMx=>(⟨fL [(0,.ptr 1000000 0 0),(1,.sl 1000008 0 0 s.n),(5,.sl 0 0 0 s.n),(6,.v (.int .i64 ((k0:Nat):Int))),(14,.v (.int .i64 ((s.n:Nat):Int))),(15,.v (.int .i64 ((k0:Nat):Int))),(19,.v (.int .i64 ((s.n:Nat):Int))),(20,.v (.int .i64 ((k2.k:Nat):Int)))],hLz [(0,⟨0,rF bI ((R.take k0++(List.replicate s.n (0:Int)).drop k0).set k0 k2.a),2,false⟩),(1000000,sB s),(1000001,s1 s),(1000002,s2 s),(1000003,s3 s),(1000004,s4 s),(1000005,s5 s),(1000006,s6 s),(1000007,s7 s),(1000008,⟨0,rF bI y,2,false⟩)],1⟩:St)) (fun k2=>(s.n-k2.k)) (fun k2=>(k2.k<=s.n/\(xp ((s.U[k0]'h1).drop k2.k) (y.drop k2.k) k2.a=some (R.getD k0 0)/\B1 k2.a))) (⟨0,0⟩:KMx) (cO (.cons rfl rfl (.cons rfl rfl (.cons rfl rfl (.cons rfl rfl (.cons rfl rfl (.cons rfl rfl (.cons rfl rfl (.cons rfl rfl .nil)))))))) (.cons (by rfl) rfl (aa ab _ _) (.cons rfl rfl rfl (.cons rfl rfl (aa ag _ _) (.cons rfl rfl (aa ai _ _) (.cons rfl rfl (aa ah _ _) (.cons rfl rfl (aa ao _ _) (.cons rfl rfl (aa ab _ _) (.cons rfl rfl (aa ae _ _) (.cons rfl rfl (aa aj _ _) (.cons rfl rfl (aa ab _ _) .nil))))))))))) ⟨ag6 _,⟨h k0 h1,Do⟩⟩ ?_
  rintro k2 h3
  obtain⟨hle_k2,h2⟩:=h3
  refine cL (fun h5=>?_) (fun hge21=>?_)
  ·have h4:k2.k<(s.U[k0]'h1).length:=by rw[h8.2];omega
   have h0:k2.k<y.length:=by omega
   obtain⟨h9,ha,hd⟩:=abf h0 h4 h2.1
   refine OpG.lk (ak (k:=k0) ab Tryz.underlying66 jf rfl rfl rfl (by omega) rfl) (OpG.lk (o5 ab fe rfl rfl (by rw[List.getElem?_set_self (by rw[bw h6];simp;omega)])) ?_)
   refine OpG.lk (bl (k:=k0) ah Tryz.underlying197 Oy rfl rfl rfl h1 rfl h1) (OpG.lk (LOp.cellN (k:=k0) (o:=0) (v:=.tree 2 ((s.U[k0]'h1).map bI)) ah Bo rfl rfl h1 rfl) ?_)
   refine IdxG.of ‹_› (OpG.lk (ak (k:=k2.k) ab Tryz.underlying66 jf rfl rfl rfl h5 rfl) ?_)
   refine OpG.lk (o5 ab fe rfl rfl (agu h0)) ?_
   refine ArgG.mk (wa (x:=((s.U[k0]'h1)[k2.k]'h4)) (y:=(y[k2.k]'h0)) (h8.1 _ (agt h4)) (hb _ (agt h0)) h9) rfl ?_
   rintro _ rfl
   refine ArgG.mk (ww (x:=k2.a) (y:=((s.U[k0]'h1)[k2.k]'h4)*(y[k2.k]'h0)) h2.2 h9 ha) rfl ?_
   rintro _ rfl
   refine OpG.lk (ak (k:=k0) ab Tryz.underlying66 jf rfl rfl rfl (by omega) rfl) (OpG.wr (az (k:=k0) (o:=0) (v:=k2.a+((s.U[k0]'h1)[k2.k]'h4)*(y[k2.k]'h0)) ab jf rfl rfl rfl rfl rfl rfl (by rw[List.length_set,bw h6];simp;omega) (by decide) rfl) rfl ?_)
   refine⟨by kernel_rfl,⟨by omega,?_⟩⟩
   refine⟨(⟨k2.k+1,k2.a+((s.U[k0]'h1)[k2.k]'h4)*(y[k2.k]'h0)⟩:KMx),(by show s.n-(k2.k+1)<s.n-k2.k;omega),(cO (.cons rfl rfl (.cons rfl rfl (.cons rfl rfl (.cons rfl rfl (.cons rfl rfl (.cons rfl rfl (.cons rfl rfl (.cons rfl rfl .nil)))))))) (.cons (by(rw[List.set_set];rfl)) rfl (aa ab _ _) (.cons rfl rfl rfl (.cons rfl rfl (aa ag _ _) (.cons rfl rfl (aa ai _ _) (.cons rfl rfl (aa ah _ _) (.cons rfl rfl (aa ao _ _) (.cons rfl rfl (aa ab _ _) (.cons rfl rfl (aa ae _ _) (.cons rfl rfl (aa aj _ _) (.cons rfl rfl (aa ab _ _) .nil))))))))))),⟨by show k2.k+1<=_;omega,?_⟩⟩
   exact⟨hd,ha⟩
  have he:=abg (by omega) h2.1
  have h7:(R.take k0++(List.replicate s.n (0:Int)).drop k0).set k0 k2.a=(R.take (k0+1)++(List.replicate s.n (0:Int)).drop (k0+1)):=el h6 (by simp;omega) (fun _=>by rw[he,hc])
  refine RegG.via (fun _ h=>cd 0 ⟨0,rF bI (R.take (k0+1)++(List.replicate s.n (0:Int)).drop (k0+1)),2,false⟩ rfl (by rw[h7]) h) (ba ?_)
  refine⟨by omega,⟨(k0+1),by omega,(cO (.cons rfl rfl (.cons rfl rfl (.cons rfl rfl (.cons rfl rfl (.cons rfl rfl .nil))))) (.cons rfl rfl (aa ab _ _) (.cons rfl rfl rfl (.cons rfl rfl (aa ag _ _) (.cons rfl rfl (aa ai _ _) (.cons rfl rfl (aa ah _ _) (.cons rfl rfl (aa ao _ _) (.cons rfl rfl (aa ab _ _) (.cons rfl rfl (aa ae _ _) (.cons rfl rfl (aa aj _ _) (.cons rfl rfl (aa ab _ _) .nil))))))))))),?_⟩⟩
  omega
 refine RegG.via (fun _ h=>cd 0 ⟨0,rF bI R,2,false⟩ rfl (by rw[dq h6 (by simp;omega)]) h) (ba ?_)
 refine⟨.inr rfl,_,Fg.of [0] (aw rfl (.cons (acn.tmp rfl) .nil)) rfl ⟨.same rfl (by decide),.same rfl (by decide),.same rfl (by decide),.same rfl (by decide),.same rfl (by decide),.same rfl (by decide),.same rfl (by decide),.same rfl (by decide),.same rfl (by decide),trivial⟩ (.fz (bn ab (agy.2 rfl) rfl (by rw[hR]))),?_⟩
 rfl
theorem xt.of_bodyR{P:Program}{f:FuncId}{fn:Func}{c:Code}{N:Nat}{args:List AV}{hb:List (Nat×Blk)}{hb':List (Nat×Option Blk)}{ret:AV}(hf:P.funcs[f]? =some fn)(hh:fn.body=some c)(hN:fn.ntmps=N)(hl:args.length<=N)
 (h:∀C a,SRel N C ⟨b7 args,hLz hb,0⟩ a->c.wpIn Fence.wide 0 P (fun e a' w'=>(e=.normal\/e=.ret)/\∃(Ds:List Nat) (s':St) (C1 C':Ctx),Fr C C1/\C'.w=w'/\SRelX (Ds.map Eg) (fun _=>True) TOP N C' s' a'/\FrX (fun _=>True) C1 C'/\Ds.Nodup/\(∀D∈Ds,Mark C1.w.heap.size C' D (.deferred (some [])))/\Fg P N fn s' hb' ret) a C.w):xt P f args hb hb' ret:=by
 intro C vals hg hη hU ⟨hlen,hv⟩
 have hr:SRel N C ⟨b7 args,hLz hb,0⟩ {tmps:=vals++Array.replicate (fn.ntmps-vals.size) undef,defers:=[]}:=by
  refine⟨hg,hη,fun id h=>.inr (hU id h),rfl,by simp;omega,fun t=>?_⟩
  simp only[Act.eval,b7]
  by_cases ht:t<args.length
  ·have h1:args.getD t (.v undef)=args[t]:=by simp[List.getD,ht]
   have h2:(vals++Array.replicate (fn.ntmps-vals.size) undef).getD t undef=vals[t]'(by omega):=by
    rw[Array.getD_eq_getD_getElem?,Array.getElem?_append_left (by omega)]
    simp[show t<vals.size by omega]
   rw[h1,h2]
   exact hv t ht (by omega)
  ·have h1:args.getD t (.v undef)=.v undef:=by simp[List.getD,List.getElem?_eq_none (Nat.le_of_not_lt ht)]
   have h2:(vals++Array.replicate (fn.ntmps-vals.size) undef).getD t undef=undef:=by
    rw[Array.getD_eq_getD_getElem?,Array.getElem?_append_right (by omega)]
    rw[Array.getElem?_replicate]
    split<;>rfl
   rw[h1,h2]
   exact VR.v _ _
 refine callsIn_wide (n:=0).1 (callsIn_of_wp_marks hf hh trivial (Code.wpIn_mono ?_ (h C _ hr)) rfl)
 rintro e a' w' ⟨he,Ds,s',C1,C',ha,rfl,hc,hi,hj,hk,ho⟩
 have h8:∀w',Book C1.w.heap.size C' w'->∃v,(results fn a'.tmps).run P w'=.ok v w'/\∃x' C'',(Ending.returned v)=.returned x'/\C''.w=w'/\C''.η=m8 hb'/\Good C''/\Fr C C''/\VR C'' ret x':=by
  intro w' hd
  have h9:=hc.on hd
  have h0:=hi.on hd
  have hs:SRel N (C'.on w') s' {a' with defers:=[]}:=⟨h9.good,funext fun id=>h9.η id trivial,fun id hU=>by
   by_cases h1:s'.u<=id
   ·by_cases h2:id<TOP
    ·exact absurd hU (h9.free id h1 h2)
    ·exact .inr (by omega)
   ·exact .inl (by omega),rfl,h9.size,h9.τ⟩
  obtain⟨x,C2,h1,h2,h3,h4,h5,h6⟩:=ho (C'.on w') _ hs
  have hm:Fr C1 (C'.on w'):=⟨h0.ev.toFr0,fun id _ hU=>⟨h0.ev.U id hU,fun b' hb'=>h0.ev.old id b' hU hb'⟩⟩
  exact⟨x,h1,x,C2,rfl,h2,h3,h4,(ha.trans hm).trans h5,h6⟩
 have h7:=nz (P:=P) (fn:=fn) (tm:=a'.tmps) (q:=0) (R:=fun e w'=>∃x C'',e=.returned x/\C''.w=w'/\C''.η=m8 hb'/\Good C''/\Fr C C''/\VR C'' ret x) Ds C' hc.good hj hk h8
 rw[<-hc.defers]at h7
 rcases he with rfl|rfl
 ·exact h7
 ·exact h7
section
variable{P:Program}{X:Inf}{N:Nat}{cu st:List Nat}
theorem Dt(hX:X.Ok P){c:Code}{Kc K:St->Prop}{s:St}(hc:jb N c=true)(h:vc P X N cu st c (andThen Kc (fun e s'=>e=.normal/\K s')) s):∃s1,Kc s1/\AWP P N c (fun e1 s'=>e1=.normal/\s'=s1) s:=by
 obtain⟨e,s1,h1,h2⟩:=yw hX c _ _ hc h
 cases e with
 |normal=>exact⟨s1,h1,h2⟩
 |_=>exact absurd h1.1 (by simp)
theorem Uf(hX:X.Ok P){r0 r1 x r8:Code}{K:St->Prop}{s:St}(hc:jb N (.seq r0 (.seq r1 (.seq x r8)))=true)(h:vc P X N cu st (.seq r0 (.seq r1 (.seq x r8))) (fun e s'=>e=.normal/\K s') s):
 ∃s4,K s4/\∀(B T:Code) (C:Ctx) (a:Act) (Q:Exit->Act->World->Prop),SRel N C s a->(∀C' a',SRel N C' s4 a'->Fr C C'->B.wpIn Fence.wide 0 P (Exit.then (T.wpIn Fence.wide 0 P Q) Q) a' C'.w)->
  (Code.seq r0 (.seq r1 (.seq x (.seq (.seq r8 B) T)))).wpIn Fence.wide 0 P Q a C.w:=by
 simp only[jb,ahs]at hc
 obtain⟨c0,c1,c2,c3⟩:=hc
 obtain⟨s1,h1,w1⟩:=Dt hX c0 h
 obtain⟨s2,h2,w2⟩:=Dt hX c1 h1
 obtain⟨s3,h3,w3⟩:=Dt hX c2 h2
 obtain⟨e4,s4,h4,w4⟩:=yw hX r8 _ _ c3 h3
 obtain⟨rfl,h4⟩:=h4
 refine⟨s4,h4,fun B T C a Q hs hK=>?_⟩
 refine wpIn_seq (wpIn_wide.2 (Code.wp_mono ?_ (w1 C a hs)))
 rintro e a1 w' ⟨_,C1,⟨rfl,rfl⟩,rfl,h0,h5⟩
 refine wpIn_seq (wpIn_wide.2 (Code.wp_mono ?_ (w2 C1 a1 h0)))
 rintro e a2 w' ⟨_,C2,⟨rfl,rfl⟩,rfl,h6,h7⟩
 refine wpIn_seq (wpIn_wide.2 (Code.wp_mono ?_ (w3 C2 a2 h6)))
 rintro e a3 w' ⟨_,C3,⟨rfl,rfl⟩,rfl,h8,h9⟩
 refine wpIn_seq (wpIn_seq (wpIn_wide.2 (Code.wp_mono ?_ (w4 C3 a3 h8))))
 rintro e a4 w' ⟨_,C4,⟨rfl,rfl⟩,rfl,ha,hb⟩
 exact Code.wpIn_mono (fun e a w h=>by cases e<;>exact h) (hK C4 a4 ha (((h5.trans h7).trans h9).trans hb))
end
noncomputable def fBx(P:Program):cm:=opF P (fun _=>false) (fun _ _=>none) (D3 P (fun _=>false) (fun _ _=>none) (kh P) (fun _=>false) 10 0) (kh P)
theorem aa6{P:Program}(hm:P.follows .mixedOrders=true):(fBx P).Ok P:=vx (fun _ _ _ h=>by cases h) (Ga hm (fun _ _ _ h=>by cases h) q8 0) q8
noncomputable def ad5(P:Program)(N:Nat)(g:Operand)(pa:Array Tmp)(x y:Code)(τ:Nat->AV):Bool:=match kg 0 ((List.range N).map τ) .nil with
 |none=>false
 |some t=>match X5 P 100 (fBx P) N g pa x y ⟨t,.nil,0,0,0⟩with
  |some (.normal,E)=>Nat.beq E.u 0&&Nat.beq E.rd 0&&Nat.beq E.wr 0
  |_=>false
theorem Zb{P:Program}{fuel No:Nat}{f:cm}{g:Operand}{pa:Array Tmp}{x y:Code}{E E2:ESX}{e:Exit}(h:X5 P fuel f No g pa x y E=some (e,E2)):E2.t=E.t:=by
 unfold X5 at h
 split at h
 ·split at h
  ·cases h
  ·split at h
   ·cases h
   ·rename_i fi _ _ c _
    cases hb:(bv P _&&fi.results.isEmpty&&_&&_)with
    |false=>rw[hb]at h;cases h
    |true=>
     rw[hb,cond_true]at h
     split at h
     ·cases h
     ·split at h
      ·cases h
      ·rename_i ei E' ph _
       cases ho:K7 ei with
       |false=>rw[ho]at h;cases h
       |true=>
        rw[ho,cond_true]at h
        split at h
        ·cases h
        ·cases h;rfl
 ·cases h
theorem U7{P:Program}(hm:P.follows .mixedOrders=true){N:Nat}{g:Operand}{pa:Array Tmp}{x y:Code}{s:St}(h:ad5 P N g pa x y s.τ=true)(hN:∀k,N<=k->s.τ k=.unk){C:Ctx}{a:Act}(hs:SRel N C s a){Q:Exit->Act->World->Prop}
 (hQ:∀(Ds:List Nat) (C':Ctx) (a':Act),SRelX (Ds.map Eg) (fun _=>True) TOP N C' s a'->FrX (fun _=>True) C C'->Ds.Nodup->(∀D∈Ds,Mark C.w.heap.size C' D (.deferred (some [])))->Q .normal a' C'.w):
 (Code.rangeFunc g pa x y).wpIn Fence.wide 0 P Q a C.w:=by
 unfold ad5 at h
 split at h
 ·cases h
 ·rename_i t ht
  split at h
  ·rename_i E hE
   simp only[ahs]at h
   have hu:=agv h.1.1
   have h9:=agv h.1.2
   have ha:=agv h.2
   have hb:=Zb hE
   have h0:bc t=b7 ((List.range N).map s.τ):=j6 ht
   have hτ:∀k,k<N->bc t k=s.τ k:=fun k hk=>by
    rw[h0];unfold b7;simp[List.getD,hk]
   obtain⟨m,k⟩:=Ku (aa6 hm) hm (fun id _=>by rw[u5]) hE
   have h7:Xt (fun _=>False) (fun _=>False) 0 N C (⟨t,.nil,0,0,0⟩:ESX).st [] a C.w:=by
    refine⟨C,rfl,⟨hs.good,fun id h=>h.elim,fun id h1 h2=>by omega,hs.defers,hs.size,fun q=>?_⟩,FrX.refl C,List.nodup_nil,fun D hD=>by cases hD⟩
    by_cases hq:q<N
    ·show VR C (bc t q) _
     rw[hτ q hq];exact hs.τ q
    ·have e1:bc t q=.v undef:=by rw[h0];unfold b7;simp[List.getD,hq]
     have e2:a.eval (.tmp q)=undef:=by
      show a.tmps.getD q undef=undef
      have:=hs.size
      rw[Array.getD_eq_getD_getElem?,Array.getElem?_eq_none (by omega)];rfl
     show VR C (bc t q) _
     rw[e1,e2];exact VR.v _ _
   have hc:Under (fun _=>False) (fun _=>False) 0 (⟨t,.nil,0,0,0⟩:ESX).u E:=⟨fun id h5=>by rw[h9]at h5;simp at h5,fun id h5=>by rw[ha]at h5;simp at h5,by omega,fun id _ h=>by omega⟩
   refine Code.wpIn_mono ?_ (k (fun _=>False) (fun _=>False) 0 C 0 hc [] a C.w h7)
   rintro e a' w' ⟨rfl,Ds,C',rfl,h6,h8,hd,he⟩
   refine hQ Ds C' a' ⟨h6.good,fun id _=>?_,fun id h1 h2 hU=>?_,h6.defers,h6.size,fun q=>?_⟩ ⟨h8.ev,fun id h=>(h trivial).elim,fun id _=>.inr trivial⟩ hd he
   ·rw[h8.η id (fun h=>h)];exact congrFun hs.η id
   ·rcases h8.U id hU with h3|h3
    ·rcases hs.u id h3 with h4|h4
     ·omega
     ·omega
    ·exact h3
   ·by_cases hq:q<N
    ·have:=h6.τ q
     have e:E.st.τ q=s.τ q:=by show bc E.t q=_;rw[hb];exact hτ q hq
     rwa [e]at this
    ·rw[hN q (by omega)];exact .imm (.unk _)
  ·cases h
def und(a:Act):Act:={a with defers:=[]}
theorem Jz(a:Act)(d:Option Tmp)(x:Value):und (a.put d x)=(und a).put d x:=by cases d<;>rfl
theorem yb(a:Act)(d:Option Tmp)(x:Value):(a.put d x).defers=a.defers:=by cases d<;>rfl
theorem Seq.runD{P:Program}{N:Nat}{ops:Array Oper}:∀{l:List Oper} {s s':St} {rs:List Rec},Seq P N ops l s rs s'->∀(C:Ctx) (a:Act) (Q:Exit->Act->World->Prop),SRel N C s (und a)->
 (∀C' a',SRel N C' s' (und a')->a'.defers=a.defers->Ev C C'->Q .normal a' C'.w)->wpList P ops Q l a C.w:=by
 intro l s s' rs h
 induction h with
 |nil=>intro C a Q hr hK;exact hK C a hr rfl (Ev.refl C)
 |cons hf _ ih=>
  rename_i o l s s' r rs _
  intro C a Q hr hK
  obtain⟨hd,hu1,⟨hw,hL,hn⟩|⟨hw,hv,hδ,hfp⟩⟩:=hf
  ·unfold wpList
   have h0:Region.wanted o (yielded ops (und a).tmps)=true:=ke hw hr (iv.guard hd)
   have h0:Region.wanted o (yielded ops a.tmps)=true:=h0
   rw[h0]
   simp only[if_true]
   left
   refine hL C a hr.good (fun x _=>hr.eval x) (fun id _=>by rw[hr.η]) (fun p hp h9 hU=>?_) _ _ fun x C' hη ha hg he hv=>?_
   ·have h1:=List.all_eq_true.1 hn p hp
    simp only[Bool.or_eq_true,ahs,List.contains_iff_mem]at h1
    rcases h1 with⟨h1,_⟩|⟨⟨h1,_⟩,h3⟩
    ·exact h9 h1
    ·have:=aha h1
     have:=aha h3
     have:=hr.u _ hU
     omega
   ·have h4:∀id,C'.U id->id<r.u\/TOP<=id:=by
     intro id h5
     rcases(ha id).1 h5 with h1|h1
     ·have:=hr.u _ h1;omega
     ·obtain⟨p,hp,rfl⟩:=ahj.1 h1
      have h2:=List.all_eq_true.1 hn p hp
      simp only[Bool.or_eq_true,ahs]at h2
      rcases h2 with⟨_,h2⟩|⟨⟨_,h2⟩,_⟩
      ·have:=aag.1 h2;omega
      ·exact .inl (aha h2)
    have hs:=hr.put he hg h4 (iv.dst hd) hv
    rw[hη,hr.η,<-Jz]at hs
    exact ih C' _ Q hs (fun C'' a' h6 h7 h8=>hK C'' a' h6 (h7.trans (yb _ _ _)) (he.trans h8))
  ·unfold wpList
   have h0:Region.wanted o (yielded ops (und a).tmps)=false:=ke hw hr (iv.guard hd)
   have h0:Region.wanted o (yielded ops a.tmps)=false:=h0
   rw[h0]
   simp only[Bool.false_eq_true,if_false]
   have hs:=hr.put (Ev.refl C) hr.good (u':=r.u) (fun id h5=>by have:=hr.u id h5;omega) (iv.dst hd) (VR.v C undef)
   rw[hr.η,<-Jz]at hs
   have e:xj o r s=⟨j1 s.τ o.dst (.v undef),s.η,r.u⟩:=by unfold xj;rw[hv,hδ];rfl
   rw[e]at ih
   exact ih C _ Q hs (fun C'' a' h6 h7 h8=>hK C'' a' h6 (h7.trans (yb _ _ _)) h8)
theorem Da{P:Program}{X:Inf}{N:Nat}{f:FuncId}{fn:Func}{r0 r1 x r8 i j:Code}{b id:Nat}{g:Operand}{pa:Array Tmp}{ops:Array Oper}{args:List AV}{hb:List (Nat×Blk)}{hb':List (Nat×Option Blk)}{R:AV->Prop}(hX:X.Ok P)(cu st:List Nat)(hf:P.funcs[f]? =some fn)
 (h6:fn.body=some (.seq r0 (.seq r1 (.seq x (.seq (.seq r8 (.block b (.rangeFunc g pa i j))) (.seq (.region id ops false) .ret))))))(hN:fn.ntmps=N)(hl:Nat.ble args.length N=true)(hc:(jb N (.seq r0 (.seq r1 (.seq x r8)))&&ops.toList.all (iv N ops))=true)
 (h:vc P X N cu st (.seq r0 (.seq r1 (.seq x r8))) (fun e s=>e=.normal/\(ad5 P N g pa i j s.τ=true/\∀k,N<=k->s.τ k=.unk)/\Jw P X cu ops false (fun _ s'=>∃ret,Fg P N fn s' hb' ret/\R ret) s) ⟨b7 args,hLz hb,0⟩):o7 P f args hb hb' R:=by
 rw[ahs]at hc
 obtain⟨s4,⟨⟨hg,h7⟩,hT⟩,hw⟩:=Uf hX hc.1 h
 obtain⟨τ4,η4,u4⟩:=s4
 obtain⟨l⟩:=ops
 obtain⟨rs,s',h4,ret,ho,hR⟩:=uc hX l hc.2 _ _ _ _ _ hT
 refine⟨ret,hR,xt.of_bodyR hf h6 hN (aha hl) fun C a hs=>hw _ _ C a _ hs fun C1 a1 h8 h9=>?_⟩
 refine wpIn_block (U7 hX.m hg h7 h8 fun Ds C2 a2 h0 ha hd he=>?_)
 show(Code.seq (.region id l.toArray false) .ret).wpIn Fence.wide 0 P _ a2 C2.w
 have hh:SRel N C2 ⟨τ4,η4,u4⟩ (und a2):=⟨h0.good,funext fun id=>h0.η id trivial,fun id hU=>by
  by_cases h1:u4<=id
  ·by_cases h2:id<TOP
   ·exact absurd hU (h0.free id h1 h2)
   ·exact .inr (by omega)
  ·exact .inl (Nat.lt_of_not_le h1),rfl,h0.size,h0.τ⟩
 refine wpIn_seq (wpIn_wide.2 (wp_region_lit (h4.runD C2 a2 _ hh fun C3 a3 h3 hi h5=>?_)))
 refine wpIn_ret ⟨.inr rfl,Ds,s',C1,C3,h9,rfl,⟨h3.good,fun id _=>congrFun h3.η id,fun id h1 h2 hU=>by rcases h3.u id hU with h|h<;>omega,hi.trans h0.defers,h3.size,h3.τ⟩,⟨ha.ev.trans h5,fun id h=>(h trivial).elim,fun id _=>.inr trivial⟩,hd,fun D hD=>(he D hD).ev h5,ho⟩
theorem Xv{P:Program}{τ:Nat->AV}{η:bf}{o:Oper}{fp:List Nat}{id ver off n m:Nat}{b:Blk}(h:LOp P o τ η fp [] (.sl id ver off n))(hn:n=0)(hb:η id=some b)(hv:b.ver=ver):LOp P o τ η (id::fp) [] (.tree m []):=by
 subst hn
 intro C a hg h6 h0 hnn K Q hK
 refine h C a hg h6 (fun i hi=>h0 i (List.mem_cons_of_mem _ hi)) (fun p hp=>by cases hp) K Q fun x C' h1 h2 h3 h4 h5=>hK x C' h1 h2 h3 h4 (.imm ?_)
 have hb':C'.η id=some b:=by rw[h1];exact(h0 id (List.mem_cons_self ..)).trans hb
 cases h5 with
 |imm h=>cases h
 |sl h1 h2 h3 h4 h5=>exact .tree0 h5
 |slz h1 h2 h3=>exact .tree0 (ag6 _)
 |slnil h1 h2 h3=>exact .tree0 (ag6 _)
 |stales h1 h2 h3=>have:=h3 b hb';omega
theorem rt{τ:Nat->AV}{d N:Nat}{v:AV}(h:∀k,N<=k->τ k=.unk)(hd:Nat.blt d N=true):∀k,N<=k->upd τ d v k=.unk:=fun k hk=>by
 have hd:=aha hd
 unfold upd
 rw[jv (by omega)]
 exact h k hk
theorem yj{N:Nat}:∀{l:List (Nat×AV)},l.all (fun p=>Nat.blt p.1 N)=true->∀k,N<=k->fL l k=.unk
 |[],_,_,_=>rfl
 |p::r,h,k,hk=>by
  rw[List.all_cons,ahs]at h
  have hd:=aha h.1
  show(bif Nat.beq k p.1 then p.2 else fL r k)=_
  rw[jv (by omega)]
  exact yj h.2 k hk
def yF(s:OSt):List Int:=(List.range s.n).map fun j=>if s.T.getD j 0=1 then s.V.getD j 0 else 0
theorem A8(s:OSt):(yF s).length=s.n:=by simp[yF]
theorem Yc{s:OSt}{k:Nat}(h:k<s.n)(h':k<(yF s).length):(yF s)[k]=if s.T.getD k 0=1 then s.V.getD k 0 else 0:=by simp[yF]
theorem Yd{s:OSt}(ho:OOk s):BL (yF s):=fun x hx=>by
 obtain⟨j,hj,rfl⟩:=ahj.1 hx
 have hj:=List.mem_range.1 hj
 split
 ·rw[Qp (by rw[ho.Vl];exact hj)];exact ho.V _ (agt _)
 exact Do
theorem aft{s:OSt}:d6 [(1000000,1000000),(1000001,1000001),(1000002,1000002),(1000003,1000003),(1000004,1000004),(1000005,1000005),(1000006,1000006),(1000007,1000007),(1000008,2)] [(1000000,some (sB s)),(1000001,some (s1 s)),(1000002,some (s2 s)),(1000003,some (s3 s)),(1000004,some (s4 s)),(1000005,some (s5 s)),(1000006,some (s6 s)),(1000007,some (s7 s)),(1000008,some (⟨0,rF bI (yF s),2,false⟩))]=[(1000000,some (sB s)),(1000001,some (s1 s)),(1000002,some (s2 s)),(1000003,some (s3 s)),(1000004,some (s4 s)),(1000005,some (s5 s)),(1000006,some (s6 s)),(1000007,some (s7 s)),(2,some (⟨0,rF bI (yF s),2,false⟩))]:=by
 simp only[d6,ahh,List.map_nil,ahp,cv ag,cv ai,cv ah,cv ao,cv ab,cv ae,cv aj]
 rfl
theorem ab6:bv Tryz.prog 128=true:=by kernel_rfl
theorem Y8:c9 Tryz.prog 199=some none:=by kernel_rfl
theorem I5:PRet Tryz.prog 126 [.tree 3 []] (fun q=>q=.clo 163 [.tp [.tree 3 []] 0]):=by
 refine ovT [3] [1] Tryz.func126 rfl rfl (RegG.via (fun _ h=>br [0] 1 (.tp [.tree 3 []] 0) (FzP.ptr (b:=⟨0,[.tree 3 []],0,false⟩) (agy.2 rfl) rfl rfl rfl rfl (fun i h1 h2=>match i,h1 with|0,_=>FzP.pure rfl)) rfl h) ?_)
 refine ba (OpG.lk (LOp.makeFunc) ?_)
 exact rV rfl rfl rfl
theorem Xi(s:OSt)(R:List Int)(ho:OOk s)(hE:s.E.length=0)(hR:R.length=s.n)(h:∀i (hi:i<s.U.length),xp s.U[i] (yF s) 0=some (R.getD i 0)):o7 Tryz.prog 101 [.ptr 1000000 0 0] [(1000000,sB s),(1000001,s1 s),(1000002,s2 s),(1000003,s3 s),(1000004,s4 s),(1000005,s5 s),(1000006,s6 s),(1000007,s7 s)] [(1000000,some (sB s)),(1000001,some (s1 s)),(1000002,some (s2 s)),(1000003,some (s3 s)),(1000004,some (s4 s)),(1000005,some (s5 s)),(1000006,some (s6 s)),(1000007,some (s7 s))] (fun q=>q=.agg [.v (.int .i64 0),.tree 2 (R.map bI),xf,xf,.v (.bool false),xf,xf,.v (.int .i64 0)]):=by
 have h6:(yF s).length=(List.replicate s.n (0:Int)).length:=by rw[A8];simp
 have hn2:=ho.n2
 have hT:=ho.T
 have hVl:=ho.Vl
 obtain⟨_,rfl,h9⟩:=Ib s (yF s) R ho (A8 s) (Yd ho) hR h
 refine Da ik [13,24,25,34,35,36,41,64,100036] [7,8] Tryz.func101 rfl Tryz.ntmps101 rfl (by kernel_rfl) (OpG.nw (cq 2 (len:=s.n) Tryz.underlying66 jf Dj E6 rfl rfl rfl (by omega)) rfl ?_)
 refine LpG.on (fun k0:Nat=>(⟨fL [(1,.ptr 0 0 0),(2,.ptr 1 0 0),(3,.ptr 3 0 0),(15,.v (.int .i64 ((s.n:Nat):Int))),(16,.v (.int .i64 ((k0:Nat):Int)))],hLz [(0,⟨0,[.ptr 1000000 0 0],0,false⟩),(1,⟨0,[.v (.int .i64 0),.v (.slice none 0 0),.v (.slice none 0 0),.v (.slice none 0 0),.v (.bool false),.v (.slice none 0 0),.v (.slice none 0 0),.v (.int .i64 0)],0,false⟩),(2,⟨0,rF bI ((yF s).take k0++(List.replicate s.n (0:Int)).drop k0),2,false⟩),(3,⟨0,[.sl 2 0 0 s.n],0,false⟩),(1000000,sB s),(1000001,s1 s),(1000002,s2 s),(1000003,s3 s),(1000004,s4 s),(1000005,s5 s),(1000006,s6 s),(1000007,s7 s)],4⟩:St)) (fun k0=>(s.n-k0)) (fun k0=>(k0<=s.n)) 0 (cO (.cons rfl rfl (.cons rfl rfl (.cons rfl rfl (.cons rfl rfl (.cons rfl rfl .nil))))) (.cons rfl rfl rfl (.cons rfl rfl rfl (.cons rfl rfl (aa ab _ _) (.cons rfl rfl rfl (.cons rfl rfl rfl (.cons rfl rfl (aa ag _ _) (.cons rfl rfl (aa ai _ _) (.cons rfl rfl (aa ah _ _) (.cons rfl rfl (aa ao _ _) (.cons rfl rfl (aa ab _ _) (.cons rfl rfl (aa ae _ _) (.cons rfl rfl (aa aj _ _) .nil))))))))))))) (ag6 _) ?_
 rintro k0 h7
 have hle_k0:=h7
 refine cL (fun hlt17=>?_) (fun hge17=>?_)
 ·have h3:k0<s.T.length:=by omega
  have h4:k0<s.V.length:=by omega
  have ha:k0<(yF s).length:=by rw[A8];omega
  have h5:=Yc (s:=s) (by omega) ha
  rw[Qp h3,Qp h4]at h5
  refine OpG.lk (bl (k:=k0) ao Tryz.underlying58 sz3 rfl rfl rfl (by omega) rfl h3) (OpG.lk (LOp.cellN (k:=k0) (o:=0) ao Sq rfl rfl h3 rfl) ?_)
  refine cB (fun h1=>?_) (fun h1=>?_)
  ·have h8:((s.T[k0]'h3):Int)=(1:Int):=by simpa using h1
   have hq:s.T[k0]=1:=by simpa using h1
   rw[ag2 hq]at h5
   have h2:((yF s).take k0++(List.replicate s.n (0:Int)).drop k0).set k0 (s.V[k0]'h4)=((yF s).take (k0+1)++(List.replicate s.n (0:Int)).drop (k0+1)):=el h6 (by simp;omega) (fun _=>h5.symm)
   refine OpG.lk (bl (k:=k0) ab Tryz.underlying66 jf rfl rfl rfl (by omega) rfl h4) (OpG.lk (fu ab fe rfl rfl h4) ?_)
   refine OpG.lk (ak (k:=k0) ab Tryz.underlying66 jf rfl rfl rfl (by omega) rfl) (OpG.wr (az (k:=k0) (o:=0) (v:=(s.V[k0]'h4)) ab jf rfl rfl rfl rfl rfl rfl (by rw[bw h6];simp;omega) (by decide) rfl) rfl ?_)
   refine⟨by kernel_rfl,RegG.via (fun _ h=>cd 2 ⟨0,rF bI ((yF s).take (k0+1)++(List.replicate s.n (0:Int)).drop (k0+1)),2,false⟩ rfl (by rw[h2]) h) ?_⟩
   refine ba ⟨by omega,⟨(k0+1),by omega,(cO (.cons rfl rfl (.cons rfl rfl (.cons rfl rfl (.cons rfl rfl (.cons rfl rfl .nil))))) (.cons rfl rfl rfl (.cons rfl rfl rfl (.cons rfl rfl (aa ab _ _) (.cons rfl rfl rfl (.cons rfl rfl rfl (.cons rfl rfl (aa ag _ _) (.cons rfl rfl (aa ai _ _) (.cons rfl rfl (aa ah _ _) (.cons rfl rfl (aa ao _ _) (.cons rfl rfl (aa ab _ _) (.cons rfl rfl (aa ae _ _) (.cons rfl rfl (aa aj _ _) .nil))))))))))))),?_⟩⟩
   omega
  have h8:¬(((s.T[k0]'h3):Int)=(1:Int)):=by simpa using h1
  have hq:¬s.T[k0]=1:=by simpa using h1
  rw[ag1 hq]at h5
  have h2:((yF s).take k0++(List.replicate s.n (0:Int)).drop k0)=((yF s).take (k0+1)++(List.replicate s.n (0:Int)).drop (k0+1)):=(zs0 (A8 s) (by omega)).symm.trans (el h6 (by simp;omega) (fun _=>h5.symm))
  refine RegG.via (fun _ h=>cd 2 ⟨0,rF bI ((yF s).take (k0+1)++(List.replicate s.n (0:Int)).drop (k0+1)),2,false⟩ rfl (by rw[h2]) h) (ba ?_)
  refine⟨by omega,⟨(k0+1),by omega,(cO (.cons rfl rfl (.cons rfl rfl (.cons rfl rfl (.cons rfl rfl (.cons rfl rfl .nil))))) (.cons rfl rfl rfl (.cons rfl rfl rfl (.cons rfl rfl (aa ab _ _) (.cons rfl rfl rfl (.cons rfl rfl rfl (.cons rfl rfl (aa ag _ _) (.cons rfl rfl (aa ai _ _) (.cons rfl rfl (aa ah _ _) (.cons rfl rfl (aa ao _ _) (.cons rfl rfl (aa ab _ _) (.cons rfl rfl (aa ae _ _) (.cons rfl rfl (aa aj _ _) .nil))))))))))))),?_⟩⟩
  omega
 refine RegG.via (fun _ h=>cd 2 ⟨0,rF bI (yF s),2,false⟩ rfl (by rw[dq h6 (by simp;omega)]) h) (ba ?_)
 refine OpG.lk (Xv (m:=3) (lD Y8 rfl rfl rfl rfl rfl) hE rfl rfl) (ArgG.mk (I5) rfl ?_)
 rintro _ rfl
 refine⟨rfl,⟨by kernel_rfl,rt (rt (rt (rt (rt (rt (yj rfl) rfl) rfl) rfl) rfl) rfl) rfl⟩,OpG.lk (cw (a8 [(1000000,1000000),(1000001,1000001),(1000002,1000002),(1000003,1000003),(1000004,1000004),(1000005,1000005),(1000006,1000006),(1000007,1000007),(1000008,2)] ab6 h9 rfl rfl rfl rfl ⟨rfl,sX ag,sX ai,sX ah,sX ao,sX ab,sX ae,sX aj,sX ab,trivial⟩ ⟨⟨rfl,.inl rfl⟩,av ag,av ai,av ah,av ao,av ab,av ae,av aj,okB ab (fun h=>by cases h),trivial⟩ ⟨rfl,au ag _ _,au ai _ _,au ah _ _,au ao _ _,au ab _ _,au ae _ _,au aj _ _,au ab _ _,trivial⟩ rfl rfl rfl rfl aft rfl) ⟨⟨.head _,rfl,rfl⟩,⟨.tail _ (.head _),rfl,rfl⟩,⟨.tail _ (.tail _ (.head _)),rfl,rfl⟩,⟨.tail _ (.tail _ (.tail _ (.head _))),rfl,rfl⟩,⟨.tail _ (.tail _ (.tail _ (.tail _ (.head _)))),rfl,rfl⟩,⟨.tail _ (.tail _ (.tail _ (.tail _ (.tail _ (.head _))))),rfl,rfl⟩,⟨.tail _ (.tail _ (.tail _ (.tail _ (.tail _ (.tail _ (.head _)))))),rfl,rfl⟩,⟨.tail _ (.tail _ (.tail _ (.tail _ (.tail _ (.tail _ (.tail _ (.head _))))))),rfl,rfl⟩,⟨.tail _ (.tail _ (.tail _ (.tail _ (.tail _ (.tail _ (.tail _ (.tail _ (.head _)))))))),rfl,rfl⟩,trivial⟩) ?_⟩
 refine⟨_,Fg.of [] (aw rfl (.cons (acn.cellN Kr rfl rfl trivial rfl rfl rfl) .nil)) rfl ⟨.same rfl (by decide),.same rfl (by decide),.same rfl (by decide),.same rfl (by decide),.same rfl (by decide),.same rfl (by decide),.same rfl (by decide),.same rfl (by decide),trivial⟩ .same,?_⟩
 rfl
def Ko:Nat->OSt->Option OSt
 |0,_=>none
 |f+1,s=>match vu s with
  |none=>none
  |some (_,_,_,_,false)=>none
  |some (s',i,j,true,true)=>(match eqO s' i.toNat j.toNat with
   |some (s2,true)=>Ko f s2
   |_=>none)
  |some (s',_,_,false,true)=>(match ac9 s' with
   |some (_,false)=>some s'
   |_=>none)
theorem U4{s T:OSt}{k F:Nat}(h:Ko (F-k) s=some T):k<F/\∃s' i j fd,vu s=some (s',i,j,fd,true)/\((fd=true/\∃s2,eqO s' i.toNat j.toNat=some (s2,true)/\Ko (F-(k+1)) s2=some T)\/(fd=false/\s'=T/\∃b,ac9 s'=some (b,false))):=by
 by_cases hF:k<F
 ·refine⟨hF,?_⟩
  rw[show F-k=(F-(k+1))+1 by omega]at h
  unfold Ko at h
  split at h
  ·cases h
  ·cases h
  ·next s' i j e=>
   split at h
   ·next s2 e2=>exact⟨s',i,j,true,e,.inl ⟨rfl,s2,e2,h⟩⟩
   cases h
  next s' i j e=>
  split at h
  ·next b e2=>cases h;exact⟨_,i,j,false,e,.inr ⟨rfl,rfl,b,e2⟩⟩
  cases h
 rw[show F-k=0 by omega]at h;cases h
abbrev oucS(R:List Int):List AV:=[.v (.int .i64 0),.tree 2 (R.map bI),xf,xf,.v (.bool false),xf,xf,.v (.int .i64 0)]
structure EndZ(T:OSt)(R:List Int):Prop where
 E:T.E.length=0
 I:T.I.length<=1000000
 l:R.length=T.n
 d:∀i (hi:i<T.U.length),xp T.U[i] (yF T) 0=some (R.getD i 0)
def X4(n:Nat)(sys:List IqS):Option OSt:=match adb (nuS n sys)with
 |some (s,true)=>Ko 1000 s
 |_=>none
theorem Kg{n:Nat}{sys:List IqS}{T:OSt}(h:X4 n sys=some T):∃s,adb (nuS n sys)=some (s,true)/\Ko (1000-0) s=some T:=by
 unfold X4 at h
 split at h
 ·next s e=>exact⟨s,e,h⟩
 cases h
theorem acd:bv Tryz.prog 100=true:=by kernel_rfl
theorem acb:bv Tryz.prog 101=true:=by kernel_rfl
theorem Yy(s:OSt)(F:Nat)(T:OSt)(R:List Int)(hF:F<=1000000)(ho:OOk s)(h8:∀c,aZ c<=FM->O3 c)(hJ:Jl)(hz:EndZ T R)(h:Ko (F-0) s=some T):o7 Tryz.prog 74 [.ptr 1000000 0 0] [(1000000,sB s),(1000001,s1 s),(1000002,s2 s),(1000003,s3 s),(1000004,s4 s),(1000005,s5 s),(1000006,s6 s),(1000007,s7 s)] [(1000000,none),(1000001,none),(1000002,none),(1000003,none),(1000004,none),(1000005,none),(1000006,none),(1000007,none)] (fun q=>q=.agg (oucS R)):=by
 refine o7.of_vc ik [11,24,30,36] [] Tryz.func74 rfl Tryz.ntmps74 rfl (by kernel_rfl) (LpG.on (fun k0:KO=>(⟨fL [(0,.ptr 1000000 0 0),(2,.ptr 0 0 0)],hLz [(0,⟨0,[.v (.int .i64 0),.v (.slice none 0 0),.v (.slice none 0 0),.v (.slice none 0 0),.v (.bool false),.v (.slice none 0 0),.v (.slice none 0 0),.v (.int .i64 0)],0,false⟩),(1000000,sB k0.s),(1000001,s1 k0.s),(1000002,s2 k0.s),(1000003,s3 k0.s),(1000004,s4 k0.s),(1000005,s5 k0.s),(1000006,s6 k0.s),(1000007,s7 k0.s)],1⟩:St)) (fun k0=>(F-k0.k)) (fun k0=>(k0.k<=F/\(Ko (F-k0.k) k0.s=some T/\OOk k0.s))) (⟨0,s⟩:KO) (cO (.cons rfl rfl (.cons rfl rfl .nil)) (.cons rfl rfl rfl (.cons rfl rfl rfl (.cons rfl rfl (aa ag _ _) (.cons rfl rfl (aa ai _ _) (.cons rfl rfl (aa ah _ _) (.cons rfl rfl (aa ao _ _) (.cons rfl rfl (aa ab _ _) (.cons rfl rfl (aa ae _ _) (.cons rfl rfl (aa aj _ _) .nil)))))))))) ⟨ag6 _,⟨h,ho⟩⟩ ?_)
 rintro k0 h4
 obtain⟨hle_k0,h1⟩:=h4
 obtain⟨hlt0,sx,ix,jx,fdx,h6,h7⟩:=U4 h1.1
 obtain⟨h3,h9,ha⟩:=P2 h1.2 h6
 obtain⟨ix,rfl⟩:=Int.eq_ofNat_of_zero_le h9
 obtain⟨jx,rfl⟩:=Int.eq_ofNat_of_zero_le ha
 obtain⟨_,rfl,hb⟩:=Zs k0.s sx _ _ fdx true h1.2 h8 hJ h6
 refine OpG.mk _ _ _ 1 (a8 [(1000000,1000000),(1000001,1000001),(1000002,1000002),(1000003,1000003),(1000004,1000004),(1000005,1000005),(1000006,1000006),(1000007,1000007)] aga hb rfl rfl rfl rfl ⟨rfl,sX ag,sX ai,sX ah,sX ao,sX ab,sX ae,sX aj,trivial⟩ ⟨⟨rfl,.inl rfl⟩,av ag,av ai,av ah,av ao,av ab,av ae,av aj,trivial⟩ ⟨rfl,au ag _ _,au ai _ _,au ah _ _,au ao _ _,au ab _ _,au ae _ _,au aj _ _,trivial⟩ rfl rfl rfl rfl rr rfl) rfl rfl (cF ?_)
 refine cB (fun h2=>?_) (fun h2=>?_)
 ·obtain⟨_,sy,h5,hc⟩:=h7.resolve_right (fun k=>by rw[k.1]at h2;cases h2)
  rw[Int.toNat_natCast,Int.toNat_natCast]at h5
  obtain⟨hd,_⟩:=Tj h3.ok h5
  obtain⟨_,rfl,he⟩:=Ww sx sy ix jx true h3.ok h5
  refine OpG.mk _ _ _ 1 (a8 [(1000000,1000000),(1000001,1000001),(1000002,1000002),(1000003,1000003),(1000004,1000004),(1000005,1000005),(1000006,1000006),(1000007,1000007)] af9 he rfl rfl rfl rfl ⟨rfl,sX ag,sX ai,sX ah,sX ao,sX ab,sX ae,sX aj,trivial⟩ ⟨⟨rfl,.inl rfl⟩,av ag,av ai,av ah,av ao,av ab,av ae,av aj,trivial⟩ ⟨rfl,au ag _ _,au ai _ _,au ah _ _,au ao _ _,au ab _ _,au ae _ _,au aj _ _,trivial⟩ rfl rfl rfl rfl rr rfl) rfl rfl (cF ?_)
  refine⟨(⟨k0.k+1,sy⟩:KO),(by show F-(k0.k+1)<F-k0.k;omega),(cO (.cons rfl rfl (.cons rfl rfl .nil)) (.cons rfl rfl rfl (.cons rfl rfl rfl (.cons rfl rfl (aa ag _ _) (.cons rfl rfl (aa ai _ _) (.cons rfl rfl (aa ah _ _) (.cons rfl rfl (aa ao _ _) (.cons rfl rfl (aa ab _ _) (.cons rfl rfl (aa ae _ _) (.cons rfl rfl (aa aj _ _) .nil)))))))))),⟨by show k0.k+1<=_;omega,?_⟩⟩
  exact⟨hc,hd⟩
 obtain⟨_,rfl,bx,hf⟩:=h7.resolve_left (fun k=>by rw[k.1]at h2;cases h2)
 obtain⟨_,rfl,hg⟩:=Q7 sx (bx,false) h3.ok hz.I hf
 obtain⟨_,rfl,hh⟩:=Xi sx R h3.ok hz.E hz.l hz.d
 refine OpG.lk (cw (a8 [(1000000,1000000),(1000001,1000001),(1000002,1000002),(1000003,1000003),(1000004,1000004),(1000005,1000005),(1000006,1000006),(1000007,1000007)] acd hg rfl rfl rfl rfl ⟨rfl,sX ag,sX ai,sX ah,sX ao,sX ab,sX ae,sX aj,trivial⟩ ⟨⟨rfl,.inl rfl⟩,av ag,av ai,av ah,av ao,av ab,av ae,av aj,trivial⟩ ⟨rfl,au ag _ _,au ai _ _,au ah _ _,au ao _ _,au ab _ _,au ae _ _,au aj _ _,trivial⟩ rfl rfl rfl rfl rr rfl) ⟨⟨.head _,rfl,rfl⟩,⟨.tail _ (.head _),rfl,rfl⟩,⟨.tail _ (.tail _ (.head _)),rfl,rfl⟩,⟨.tail _ (.tail _ (.tail _ (.head _))),rfl,rfl⟩,⟨.tail _ (.tail _ (.tail _ (.tail _ (.head _)))),rfl,rfl⟩,⟨.tail _ (.tail _ (.tail _ (.tail _ (.tail _ (.head _))))),rfl,rfl⟩,⟨.tail _ (.tail _ (.tail _ (.tail _ (.tail _ (.tail _ (.head _)))))),rfl,rfl⟩,⟨.tail _ (.tail _ (.tail _ (.tail _ (.tail _ (.tail _ (.tail _ (.head _))))))),rfl,rfl⟩,trivial⟩) (cT ?_)
 refine OpG.lk (cw (a8 [(1000000,1000000),(1000001,1000001),(1000002,1000002),(1000003,1000003),(1000004,1000004),(1000005,1000005),(1000006,1000006),(1000007,1000007)] acb hh rfl rfl rfl rfl ⟨rfl,sX ag,sX ai,sX ah,sX ao,sX ab,sX ae,sX aj,trivial⟩ ⟨⟨rfl,.inl rfl⟩,av ag,av ai,av ah,av ao,av ab,av ae,av aj,trivial⟩ ⟨rfl,au ag _ _,au ai _ _,au ah _ _,au ao _ _,au ab _ _,au ae _ _,au aj _ _,trivial⟩ rfl rfl rfl rfl rr rfl) ⟨⟨.head _,rfl,rfl⟩,⟨.tail _ (.head _),rfl,rfl⟩,⟨.tail _ (.tail _ (.head _)),rfl,rfl⟩,⟨.tail _ (.tail _ (.tail _ (.head _))),rfl,rfl⟩,⟨.tail _ (.tail _ (.tail _ (.tail _ (.head _)))),rfl,rfl⟩,⟨.tail _ (.tail _ (.tail _ (.tail _ (.tail _ (.head _))))),rfl,rfl⟩,⟨.tail _ (.tail _ (.tail _ (.tail _ (.tail _ (.tail _ (.head _)))))),rfl,rfl⟩,⟨.tail _ (.tail _ (.tail _ (.tail _ (.tail _ (.tail _ (.tail _ (.head _))))))),rfl,rfl⟩,trivial⟩) ⟨.inr rfl,_,Fg.of [] (aw rfl (.cons (acn.cellN Kr rfl rfl trivial rfl rfl rfl) .nil)) rfl ⟨.gone,.gone,.gone,.gone,.gone,.gone,.gone,.gone,trivial⟩ .same,?_⟩
 rfl
theorem Nh(sys:List IqS)(h0:fy sys (fun y=>True))(n:Nat)(T:OSt)(R:List Int)(h1:1<=n)(h2:n<=1000)(h4:0<sys.length)(hl:sys.length<=100000)(h5:∀q∈sys,BQ q/\q.cs.length=n)(h6:∀c,aZ c<=FM->O3 c)(hJ:Jl)(hz:EndZ T R)(h:X4 n sys=some T):PRet Tryz.prog 49 [.v (.int .i64 ((n:Nat):Int)),.tree 3 (sys.map iqA)] (fun q=>q=.agg (oucS R)):=by
 obtain⟨_,rfl,h7⟩:=Ie sys h0 n h1 h2 h4 hl
 have h3:=S3 h1 h2 h5
 obtain⟨sx,hb,hr⟩:=Kg h
 obtain⟨_,rfl,h8⟩:=Xf (nuS n sys) sx true h3 (by show sys.length<=_;omega) hb
 have h9:=E9 _ _ _ h3 hb
 obtain⟨_,rfl,ha⟩:=Yy sx 1000 T R (by decide) h9 h6 hJ hz hr
 refine ovT [8,10,15] [] Tryz.func49 rfl rfl (OpG.mk _ _ _ 9 (a8 [(3,1),(0,2),(4,3),(7,4),(1,5),(2,6),(5,7),(6,8)] age h7 rfl rfl rfl rfl trivial trivial ⟨rfl,au ag _ _,au ai _ _,au ah _ _,au ao _ _,au ab _ _,au ae _ _,au aj _ _,trivial⟩ rfl rfl rfl rfl afu rfl) rfl rfl ?_)
 refine OpG.mk _ _ _ 9 (a8 [(1000000,1),(1000001,2),(1000002,3),(1000003,4),(1000004,5),(1000005,6),(1000006,7),(1000007,8)] agd h8 rfl rfl rfl rfl ⟨rfl,sX ag,sX ai,sX ah,sX ao,sX ab,sX ae,sX aj,trivial⟩ ⟨⟨rfl,.inl rfl⟩,av ag,av ai,av ah,av ao,av ab,av ae,av aj,trivial⟩ ⟨rfl,au ag _ _,au ai _ _,au ah _ _,au ao _ _,au ab _ _,au ae _ _,au aj _ _,trivial⟩ rfl rfl rfl rfl delL rfl) rfl rfl (cF ?_)
 refine OpG.mk _ _ _ 9 (a8 [(1000000,1),(1000001,2),(1000002,3),(1000003,4),(1000004,5),(1000005,6),(1000006,7),(1000007,8)] agc ha rfl rfl rfl rfl ⟨rfl,sX ag,sX ai,sX ah,sX ao,sX ab,sX ae,sX aj,trivial⟩ ⟨⟨rfl,.inl rfl⟩,av ag,av ai,av ah,av ao,av ab,av ae,av aj,trivial⟩ ⟨trivial,trivial,trivial,trivial,trivial,trivial,trivial,trivial,trivial⟩ rfl rfl rfl rfl afv rfl) rfl rfl ⟨.inr rfl,_,Og.cell rfl Kr rfl rfl rfl rfl rfl ⟨[],FzP.pure rfl⟩,?_⟩
 rfl
theorem Pm(l:List PCon)(hl:fy l (fun y=>True))(n:Nat)(T:OSt)(R:List Int)(h1:1<=n)(h2:n<=512)(hl0:0<l.length)(h0:l.length<=10000)(hc:∀c∈l,CnB c)(hr:∀c∈l,rgC c ((n:Nat):Int))(h3:∀c,aZ c<=FM->O3 c)(hJ:Jl)(hz:EndZ T R)(h:X4 n (xx n l)=some T):PRet Tryz.prog 34 [.v (.int .i64 ((n:Nat):Int)),.tree 3 (l.map cnA)] (fun q=>q=.tup [.tree 2 (R.map bI),.agg [xf,xf,.v (.bool false),xf,xf],.v (.bool true)]):=by
 refine ovT [] [] Tryz.func34 rfl rfl (ArgG.mk (Pf l hl n (by omega) h0 hc hr) rfl ?_)
 rintro _ rfl
 refine ArgG.mk (Nh (xx n l) ⟨by have:=(ol (n:=n) (l:=l)).2;omega,fun _ _=>trivial⟩ n T R h1 (by omega) (by have:=(ol (n:=n) (l:=l)).1;omega) (by have:=(ol (n:=n) (l:=l)).2;omega) (Dx hc) h3 hJ hz h) rfl ?_
 rintro _ rfl
 refine cT ⟨.inr rfl,_,kc rfl (T7.tmp ⟨[],FzP.pure rfl⟩) (T7.cellN Tryz.f34 ad3 rfl rfl rfl rfl rfl ⟨[],FzP.pure rfl⟩) (T7.tmp ⟨[],FzP.pure rfl⟩),?_⟩
 rfl
end Go.Proofs.YtmbmbhkemgmhfaaGreatDoor
