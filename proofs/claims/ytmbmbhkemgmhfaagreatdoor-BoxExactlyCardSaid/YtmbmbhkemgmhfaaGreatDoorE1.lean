/- Texts of the claim. -/
import Derived.RangeFuncCalls
import Derived.RangeFuncLeaves
import Derived.TacticsIn
import Derived.OrdersIn
import Derived.Test.YtmbmbhkemgmhfaaGreatDoorA2
namespace Go.Proofs.YtmbmbhkemgmhfaaGreatDoor
open Go.RowKit
def FOk(F:Fence):Prop:=F=Fence.wide\/∃l,F=Fence.wide.inRound l
theorem FOk.wide:FOk Fence.wide:=.inl rfl
theorem FOk.fn{F:Fence}(h:FOk F)(f:FuncId):F.fn f:=by rcases h with rfl|⟨l,rfl⟩<;>trivial
theorem FOk.depth{F:Fence}(h:FOk F):F.depth=none:=by rcases h with rfl|⟨l,rfl⟩<;>rfl
theorem FOk.calls{F:Fence}(h:FOk F){n:Nat}{P:Program}{f:FuncId}{args:Array Value}{w:World}{R:Ending->World->Prop}(hc:Calls P f args w R):CallsIn F n P f args w R:=by rcases h with rfl|⟨l,rfl⟩;exact callsIn_wide.2 hc;exact CallsIn.inRound l (callsIn_wide.2 hc)
theorem Zv{F:Fence}{P:Program}{o:Oper}{a:Act}{w:World}{K:Act->World->Prop}{Q:Exit->Act->World->Prop}{n:Nat}(hF:FOk F)(hd:∀c,o.op≠.defer c)(h:o.wp P a w K Q):o.wpIn F n P a w K Q:=by
 refine⟨fun _ _=>hF.fn _,?_⟩;rw[Oper.semAt_eq _ _ _ hd];unfold Oper.wp at h;revert h;generalize(execOp a.eval o).run P w=r;intro h;unfold Oper.upon at h;unfold Oper.uponIn;split at h;exact h;exact h;exact h;exact⟨fun e=>(by rw[hF.depth]at e;cases e),hF.calls h⟩
 exact⟨fun e=>(by rw[hF.depth]at e;cases e),fun c cs _=>by
  obtain⟨v,w1,r,s⟩:=h c cs;rcases hF with rfl|⟨l,rfl⟩;exact⟨v,w1,r,(stepsIn_wide (P:=P)).2 s⟩;exact⟨v,w1,r,(stepsIn_wide (P:=P)).2 s⟩⟩
 exact h;cases h
theorem H2{F:Fence}{q:Nat}{P:Program}{c:Code}{Q:Exit->Act->World->Prop}(I:Nat->Act->World->Prop)(round:∀n a w,I n a w->c.wpIn F q P (Exit.then (fun a' w'=>∃m,m<n/\I m a' w') Q) a w){n:Nat}{a:Act}{w:World}(h0:I n a w):(Code.loop c).wpIn F q P Q a w:=by
 intro b k cs h2 hb hr
 have key:∀n a w,I n a w->∃e a' w',Q e a' w'/\ArrivesIn (Machine.fenced P F) P (lone (b.atR a (.code c::.inLoop c::k)) cs w) b k cs e a' w':=by
  intro n;induction n using Nat.strongRecOn with
  |_ n ih=>
   intro a w hI
   obtain⟨e,a₁,w₁,hq,h1⟩:=round n a w hI b (.inLoop c::k) cs h2 hb hr
   cases e with
   |normal=>
    obtain⟨m,h3,hI₁⟩:=hq
    obtain⟨e₂,a₂,w₂,hq₂,harr₂⟩:=ih m h3 a₁ w₁ hI₁
    exact⟨e₂,a₂,w₂,hq₂,.of_steps (StepsIn.trans h1 (.one (fenced_calm hb hr rfl) stepR_inLoop)) harr₂⟩
   |exit id=>exact⟨_,a₁,w₁,hq,.pass (x:=.inLoop c) rfl (fun _ _=>.inl (by simp)) h1⟩
   |goto l=>exact⟨_,a₁,w₁,hq,.pass (x:=.inLoop c) rfl (fun _ _=>.inl (by simp)) h1⟩
   |ret=>exact⟨_,a₁,w₁,hq,.pass (x:=.inLoop c) rfl (fun _ _=>.inl (by simp)) h1⟩
   |panic ch=>exact⟨_,a₁,w₁,hq,.pass (x:=.inLoop c) rfl (fun _ _=>.inl (by simp)) h1⟩
   |outgrown=>exact⟨_,a₁,w₁,hq,.pass (x:=.inLoop c) rfl (fun _ _=>.inl (by simp)) h1⟩
 obtain⟨e,a',w',hq,h1⟩:=key n a w h0;exact⟨e,a',w',hq,.of_steps (.one (fenced_calm hb hr rfl) stepR_loop) h1⟩
set_option linter.unusedVariables false
set_option linter.unusedSimpArgs false
structure Rc where
 F:Nat
 W:Nat
 u0:Nat
 u:Nat
 η:bf
 v:AV
def Rc.D(r:Rc)(id:Nat):Bool:=r.W.testBit id||(Nat.ble r.u0 id&&Nat.ble (id+1) r.u)
theorem Rc.D_iff{r:Rc}{id:Nat}:r.D id=true↔(r.W.testBit id=true\/(r.u0<=id/\id<r.u)):=by unfold Rc.D;rw[Bool.or_eq_true,ahs,Nat.ble_eq,Nat.ble_eq];rfl
structure Fits(η:bf)(r:Rc):Prop where
 le:r.u0<=r.u
 same:∀id,r.D id=false->r.η id=η id
 sub:∀id,r.W.testBit id=true->r.F.testBit id=true
 low:∀id,r.F.testBit id=true->id<r.u0
def re(P:Program)(o:Oper)(τ:Nat->AV)(η:bf)(r:Rc):Prop:=
 ∀(C:Ctx) (a:Act),Good C->(∀x∈o.op.operands,VR C (aev τ x) (a.eval x))->(∀id,r.F.testBit id=true->C.η id=η id)->(∀id,r.u0<=id->id<r.u->¬C.U id)->
  ∀(K:Act->World->Prop) (Q:Exit->Act->World->Prop),
   (∀x C',(∀id,C'.η id=if r.D id=true then r.η id else C.η id)->(∀id,C'.U id->C.U id\/r.D id=true)->Good C'->Ev C C'->VR C' r.v x->K (a.put o.dst x) C'.w)->o.wp P a C.w K Q
def ff:List Nat->Nat
 |[]=>0
 |i::l=>Nat.lor (Nat.shiftLeft 1 i) (ff l)
theorem wo{i j:Nat}:(Nat.shiftLeft 1 i).testBit j=true↔j=i:=by have h:Nat.shiftLeft 1 i=1<<<i:=rfl;rw[h,Nat.one_shiftLeft,Nat.testBit_two_pow];simp[eq_comm]
theorem B2:∀{l:List Nat} {i:Nat},(ff l).testBit i=true↔i∈l
 |[],i=>by simp[ff]
 |j::l,i=>by have h:ff (j::l)=Nat.shiftLeft 1 j|||ff l:=rfl;rw[h,Nat.testBit_or,Bool.or_eq_true,wo,B2,ahk]
section
variable{P:Program}{o:Oper}{τ:Nat->AV}{η:bf}{fp:List Nat}{v:AV}{u:Nat}
theorem LOp.toX(h:LOp P o τ η fp [] v):re P o τ η ⟨ff fp,0,u,u,η,v⟩:=by
 intro C a hg hx hF hN K Q hK
 have hD:∀id,(⟨ff fp,0,u,u,η,v⟩:Rc).D id=false:=fun id=>by
  cases hd:(⟨ff fp,0,u,u,η,v⟩:Rc).D id with
  |false=>rfl
  |true=>
   rcases Rc.D_iff.1 hd with h1|⟨h1,h2⟩
   ·simp at h1
   ·simp only at h1 h2;omega
 refine h C a hg hx (fun id h0=>hF id (B2.2 h0)) (fun p hp=>by cases hp) K Q (fun x C' hη hU h3 he hv=>hK x C' (fun id=>?_) (fun id h0=>?_) h3 he hv)
 ·rw[hD id,hη];rfl
 ·rcases(hU id).1 h0 with h1|h1
  ·exact .inl h1
  ·cases h1
theorem LOp.toX_old{id:Nat}{b:Option Blk}(h:LOp P o τ η fp [(id,b)] v)(h0:id∈fp):re P o τ η ⟨ff fp,Nat.shiftLeft 1 id,u,u,η.set id b,v⟩:=by
 intro C a hg hx hF hN K Q hK
 have hD:∀i,(⟨ff fp,Nat.shiftLeft 1 id,u,u,η.set id b,v⟩:Rc).D i=true↔i=id:=fun i=>by
  rw[Rc.D_iff];simp only[wo];constructor;rintro(h1|⟨h1,h2⟩);exact h1;omega;exact .inl
 refine h C a hg hx (fun id h0=>hF id (B2.2 h0)) (fun p hp h3=>by simp only[agy]at hp;subst hp;exact absurd h0 h3) K Q (fun x C' hη hU h4 he hv=>hK x C' (fun i=>?_) (fun i hi=>?_) h4 he hv);rw[hη];by_cases e:i=id;subst e;rw[ag2 ((hD i).2 rfl)];show(C.η.set i b) i=(η.set i b) i
 rw[am,am];rw[ag1 (fun h=>e ((hD i).1 h))];show(C.η.set id b) i=_
 rw[aq _ _ e];rcases(hU i).1 hi with h1|h1;exact .inl h1;simp only[ahh,List.map_nil,agy]at h1;exact .inr ((hD i).2 h1)
theorem LOp.toX_new{b:Option Blk}(h:LOp P o τ η fp [(u,b)] v):re P o τ η ⟨ff fp,0,u,u+1,η.set u b,v⟩:=by
 intro C a hg hx hF hN K Q hK;have hD:∀i,(⟨ff fp,0,u,u+1,η.set u b,v⟩:Rc).D i=true↔i=u:=fun i=>by rw[Rc.D_iff];simp only[Nat.zero_testBit,Bool.false_eq_true,false_or];omega
 refine h C a hg hx (fun id h0=>hF id (B2.2 h0)) (fun p hp hnp=>by simp only[agy]at hp;subst hp;exact hN u (ag8 _) (Nat.lt_succ_self _)) K Q (fun x C' hη hU h2 he hv=>hK x C' (fun i=>?_) (fun i hi=>?_) h2 he hv);rw[hη];by_cases e:i=u;subst e;rw[ag2 ((hD i).2 rfl)];show(C.η.set i b) i=(η.set i b) i
 rw[am,am];rw[ag1 (fun h=>e ((hD i).1 h))];show(C.η.set u b) i=_
 rw[aq _ _ e];rcases(hU i).1 hi with h1|h1;exact .inl h1;simp only[ahh,List.map_nil,agy]at h1;exact .inr ((hD i).2 h1)
end
structure SRelX(DS:List Deferred)(RD:Nat->Prop)(M N:Nat)(C:Ctx)(s:St)(a:Act):Prop where
 good:Good C
 η:∀id,RD id->C.η id=s.η id
 free:∀id,s.u<=id->id<M->¬C.U id
 defers:a.defers=DS
 size:a.tmps.size=N
 τ:∀t,VR C (s.τ t) (a.eval (.tmp t))
structure FrX(WD:Nat->Prop)(C C':Ctx):Prop where
 ev:Ev C C'
 η:∀id,¬WD id->C'.η id=C.η id
 U:∀id,C'.U id->C.U id\/WD id
theorem FrX.refl{WD:Nat->Prop}(C:Ctx):FrX WD C C:=⟨Ev.refl C,fun _ _=>rfl,fun _ h=>.inl h⟩
theorem FrX.trans{WD:Nat->Prop}{A B C:Ctx}(h:FrX WD A B)(k:FrX WD B C):FrX WD A C:=
 ⟨h.ev.trans k.ev,fun id h0=>(k.η id h0).trans (h.η id h0),fun id h0=>(k.U id h0).elim (fun h1=>h.U id h1) .inr⟩
section
variable{DS:List Deferred}{P:Program}{RD WD:Nat->Prop}{M N:Nat}{C C':Ctx}{s:St}{a:Act}
theorem SRelX.eval(h:SRelX DS RD M N C s a)(x:Operand):VR C (aev s.τ x) (a.eval x):=by
 cases x with
 |tmp t=>exact h.τ t
 |const c=>exact VR.v C c
 |global g=>exact VR.v C _
 |func f=>exact .imm (.clo (by simp) (fun i hi=>by simp at hi))
theorem SRelX.put(h:SRelX DS RD M N C s a)(he:Ev C C')(hg:Good C'){η':bf}{u':Nat}(hη:∀id,RD id->C'.η id=η' id)(hu:∀id,u'<=id->id<M->¬C'.U id){dst:Option Tmp}(hd:∀d,dst=some d->d<N){v:AV}{x:Value}(hv:VR C' v x):
 SRelX DS RD M N C' ⟨j1 s.τ dst v,η',u'⟩ (a.put dst x):=by
 refine⟨hg,hη,hu,?_,?_,fun t=>?_⟩
 ·cases dst<;>simp[Act.put,h.defers]
 ·cases dst<;>simp[Act.put,h.size]
 ·cases dst with
  |none=>exact(h.τ t).mono h.good he
  |some d=>
   have h0:d<a.tmps.size:=by rw[h.size];exact hd d rfl
   by_cases e:t=d
   ·subst e
    have e1:j1 s.τ (some t) v t=v:=by simp[j1,upd,cond]
    have e2:(a.put (some t) x).eval (.tmp t)=x:=by simp[Act.eval,Act.put,h0]
    rw[e2];show VR C' (j1 s.τ (some t) v t) x;rw[e1];exact hv
   ·have e1:j1 s.τ (some d) v t=s.τ t:=by
     have:Nat.beq t d=false:=by
      cases hb:Nat.beq t d with
      |false=>rfl
      |true=>exact absurd (agv hb) e
     simp[j1,upd,cond,this]
    have e2:(a.put (some d) x).eval (.tmp t)=a.eval (.tmp t):=Act.eval_put (fun q hq=>by cases hq;simp;exact e)
    rw[e2];show VR C' (j1 s.τ (some d) v t) _;rw[e1];exact(h.τ t).mono h.good he
theorem eg{ops:Array Oper}{o:Oper}{b:Bool}(h:m3 ops s.τ o=some b)(hr:SRelX DS RD M N C s a)(hd:∀j c,o.guard=some (j,c)->∀d,(ops[j]?).bind (·.dst)=some d->d<N):
 Region.wanted o (yielded ops a.tmps)=b:=by
 unfold m3 at h
 unfold Region.wanted
 cases hg:o.guard with
 |none=>rw[hg]at h;simpa using h
 |some p=>
  obtain⟨j,c⟩:=p
  rw[hg]at h
  simp only at h ⊢
  cases hj:(ops[j]?).bind (·.dst)with
  |none=>rw[hj]at h;cases h
  |some d=>
   rw[hj]at h
   simp only at h
   have h0:=hd j c hg d hj
   rw[<-hr.size]at h0
   have h2:=hr.τ d
   cases e:s.τ d with
   |v x=>
    rw[e]at h h2
    cases x with
    |bool t=>
     have h3:=h2.v_inv
     have h4:a.tmps[d]? =some (.bool t):=by simp only[Act.eval]at h3;rw[Array.getD_eq_getD_getElem?]at h3;rw[Array.getElem?_eq_getElem h0]at h3 ⊢;simpa using h3
     simp only[yielded,hj,ahq,h4]
     simp only[agw]at h
     rw[<-h]
     cases t<;>cases c<;>rfl
    |tuple l=>
     have h3:=h2.v_inv
     have h4:a.tmps[d]? =some (.tuple l):=by simp only[Act.eval]at h3;rw[Array.getD_eq_getD_getElem?]at h3;rw[Array.getElem?_eq_getElem h0]at h3 ⊢;simpa using h3
     simp only[yielded,hj,ahq,h4]
     simp only[agw]at h
     rw[<-h]
     rfl
    |_=>simp at h
   |_=>rw[e]at h;simp at h
end
def tq(P:Program)(RD WD:Nat->Prop)(M N:Nat)(c:Code)(Q:Exit->St->Prop)(s:St):Prop:=
 ∀(F:Fence),FOk F->∀(n:Nat) (DS:List Deferred) C a,SRelX DS RD M N C s a->c.wpIn F n P (fun e a' w'=>∃s' C',Q e s'/\C'.w=w'/\SRelX DS RD M N C' s' a'/\FrX WD C C') a C.w
def rz(o:Oper)(r:Rc)(s:St):St:=⟨j1 s.τ o.dst r.v,r.η,r.u⟩
structure FactX(P:Program)(N:Nat)(ops:Array Oper)(o:Oper)(r:Rc)(s:St):Prop where
 dst:iv N ops o=true
 u:r.u0=s.u
 fits:Fits s.η r
 how:(m3 ops s.τ o=some true/\re P o s.τ s.η r)\/(m3 ops s.τ o=some false/\r.v=.v undef/\r.F=0/\r.u=s.u)
inductive SeqX(P:Program)(N:Nat)(ops:Array Oper):List Oper->St->List Rc->St->Prop where
 |nil {s:St}:SeqX P N ops [] s [] s
 |cons {o:Oper} {l:List Oper} {s s':St} {r:Rc} {rs:List Rc}:FactX P N ops o r s->SeqX P N ops l (rz o r s) rs s'->SeqX P N ops (o :: l) s (r :: rs) s'
structure Inn(RD WD:Nat->Prop)(M:Nat)(r:Rc):Prop where
 rd:∀id,r.F.testBit id=true->RD id
 rn:∀id,r.u0<=id->id<r.u->RD id
 wd:∀id,r.D id=true->WD id
 u:r.u<=M
section
variable{DS:List Deferred}{P:Program}{RD WD:Nat->Prop}{M N:Nat}{s s':St}{Q:Exit->St->Prop}
theorem FactX.skip_D{ops:Array Oper}{o:Oper}{r:Rc}(hf:FactX P N ops o r s)(h:r.F=0/\r.u=s.u):∀id,r.D id=false:=by
 intro id
 cases hd:r.D id with
 |false=>rfl
 |true=>
  rcases Rc.D_iff.1 hd with h1|⟨h1,h2⟩
  ·have:=hf.fits.sub id h1
   rw[h.1]at this
   simp at this
  ·have:=hf.u
   have:=h.2
   omega
theorem SRelX.step{C C':Ctx}{a:Act}{o:Oper}{r:Rc}{x:Value}{ops:Array Oper}(hr:SRelX DS RD M N C s a)(hf:FactX P N ops o r s)(hi:Inn RD WD M r)(h1:∀id,C'.η id=if r.D id=true then r.η id else C.η id)(h2:∀id,C'.U id->C.U id\/r.D id=true)(hg:Good C')(he:Ev C C')(hv:VR C' r.v x):
 SRelX DS RD M N C' (rz o r s) (a.put o.dst x)/\FrX WD C C':=by
 refine⟨hr.put he hg (fun id h0=>?_) (fun id hle h4 hu=>?_) (iv.dst hf.dst) hv,he,fun id h0=>?_,fun id h0=>(h2 id h0).imp (fun h=>h) (hi.wd id)⟩
 ·rw[h1 id]
  cases hd:r.D id with
  |true=>rw[ag2 rfl]
  |false=>rw[ag1 (by simp),hr.η id h0,hf.fits.same id hd]
 ·rcases h2 id hu with h|h
  ·exact hr.free id (by have:=hf.u;have:=hf.fits.le;omega) h4 h
  ·rcases Rc.D_iff.1 h with h3|h3
   ·have:=hf.fits.low id (hf.fits.sub id h3)
    have:=hf.fits.le
    omega
   ·omega
 ·rw[h1 id,ag1 (fun hd=>h0 (hi.wd id hd))]
theorem SeqX.run{ops:Array Oper}:∀{l:List Oper} {s s':St} {rs:List Rc},SeqX P N ops l s rs s'->(∀r∈rs,Inn RD WD M r)->∀(F:Fence),FOk F->∀(n:Nat) (C:Ctx) (a:Act) (Q:Exit->Act->World->Prop),SRelX DS RD M N C s a->
 (∀C' a',SRelX DS RD M N C' s' a'->FrX WD C C'->Q .normal a' C'.w)->wpListIn F n P ops Q l a C.w:=by
 intro l s s' rs h
 induction h with
 |nil=>intro _ F hF n C a Q hr hK;exact hK C a hr (FrX.refl C)
 |cons hf _ ih=>
  rename_i o l s s' r rs _
  intro hi F hF n C a Q hr hK
  have h0:=hi r (by simp)
  unfold wpListIn
  rcases hf.how with⟨hw,hL⟩|⟨hw,hv,h7,hu⟩
  ·rw[eg hw hr (iv.guard hf.dst)]
   simp only[if_true]
   refine Zv hF (iv.nd hf.dst) (hL C a hr.good (fun x _=>hr.eval x) (fun id h8=>hr.η id (h0.rd id h8)) (fun id h1 h2=>hr.free id (by have:=hf.u;omega) (by have:=h0.u;omega)) _ _ fun x C' h1 h2 hg he hv=>?_)
   obtain⟨h5,h6⟩:=hr.step hf h0 h1 h2 hg he hv
   exact ih (fun r hr=>hi r (by simp[hr])) F hF n C' _ Q h5 (fun C'' a'' h3 h4=>hK C'' a'' h3 (h6.trans h4))
  ·rw[eg hw hr (iv.guard hf.dst)]
   simp only[Bool.false_eq_true,if_false]
   have hD:=hf.skip_D ⟨h7,hu⟩
   obtain⟨h5,h6⟩:=hr.step (C':=C) (x:=undef) hf h0 (fun id=>by rw[hD id];rfl) (fun id h=>.inl h) hr.good (Ev.refl C) (by rw[hv];exact VR.v C _)
   exact⟨fun _ _=>hF.fn _,ih (fun r hr=>hi r (by simp[hr])) F hF n C _ Q h5 (fun C'' a'' h3 h4=>hK C'' a'' h3 (h6.trans h4))⟩
theorem tq.region{id:Nat}{l:List Oper}{rs:List Rc}(h:SeqX P N l.toArray l s rs s')(hi:∀r∈rs,Inn RD WD M r)(hq:Q .normal s'):tq P RD WD M N (.region id l.toArray false) Q s:=by intro F hF n DS C a hr;exact wpIn_region_lit (h.run hi F hF n C a _ hr (fun C' a' h0 h1=>⟨s',C',hq,rfl,h0,h1⟩))
theorem tq.mono{Q':Exit->St->Prop}{c:Code}(h:tq P RD WD M N c Q s)(hq:∀e s',Q e s'->Q' e s'):tq P RD WD M N c Q' s:=
 fun F hF n DS C a hr=>Code.wpIn_mono (fun e a' w' ⟨s',C',h1,h2⟩=>⟨s',C',hq _ _ h1,h2⟩) (h F hF n DS C a hr)
theorem tq.skip(h:Q .normal s):tq P RD WD M N .skip Q s:=fun F hF n DS C a hr=>wpIn_skip ⟨s,C,h,rfl,hr,FrX.refl C⟩
theorem tq.exit{id:Nat}(h:Q (.exit id) s):tq P RD WD M N (.exit id) Q s:=fun F hF n DS C a hr=>wpIn_exit ⟨s,C,h,rfl,hr,FrX.refl C⟩
theorem tq.ret(h:Q .ret s):tq P RD WD M N .ret Q s:=fun F hF n DS C a hr=>wpIn_ret ⟨s,C,h,rfl,hr,FrX.refl C⟩
theorem tq.seq{x y:Code}(h:tq P RD WD M N x (andThen (tq P RD WD M N y Q) Q) s):tq P RD WD M N (.seq x y) Q s:=by
 intro F hF n DS C a hr
 refine wpIn_seq (Code.wpIn_mono ?_ (h F hF n DS C a hr))
 rintro e a' w' ⟨s',C',hq,rfl,h0,he⟩
 cases e with
 |normal=>exact Code.wpIn_mono (fun e a'' w'' ⟨s'',C'',h1,h2,h3,h4⟩=>⟨s'',C'',h1,h2,h3,he.trans h4⟩) (hq F hF n DS C' a' h0)
 |_=>exact⟨s',C',hq,rfl,h0,he⟩
theorem tq.cond{c:Operand}{x y:Code}{t:Bool}(hc:aev s.τ c=.v (.bool t))(ht:t=true->tq P RD WD M N x Q s)(hf:t=false->tq P RD WD M N y Q s):tq P RD WD M N (.cond c x y) Q s:=by intro F hF n DS C a hr;have h1:=hr.eval c;rw[hc]at h1;exact wpIn_cond_split h1.v_inv (fun e=>ht e F hF n DS C a hr) (fun e=>hf e F hF n DS C a hr)
theorem tq.condT{c:Operand}{x y:Code}(hc:aev s.τ c=.v (.bool true))(h:tq P RD WD M N x Q s):tq P RD WD M N (.cond c x y) Q s:=tq.cond hc (fun _=>h) (fun e=>by cases e)
theorem tq.condF{c:Operand}{x y:Code}(hc:aev s.τ c=.v (.bool false))(h:tq P RD WD M N y Q s):tq P RD WD M N (.cond c x y) Q s:=tq.cond hc (fun e=>by cases e) (fun _=>h)
theorem tq.block{id:Nat}{c:Code}(h:tq P RD WD M N c (t8 id Q) s):tq P RD WD M N (.block id c) Q s:=by
 intro F hF n DS C a hr;refine wpIn_block (Code.wpIn_mono ?_ (h F hF n DS C a hr));rintro e a' w' ⟨s',C',hq,h2⟩;cases e with
 |exit id'=>
  simp only[Exit.inBlock]
  simp only[t8]at hq
  by_cases e:id'=id
  ·subst e
   rw[Nat.beq_refl]at hq
   simp only[cond_true]at hq
   simp only[if_true]
   exact⟨s',C',hq,h2⟩
  ·have:Nat.beq id' id=false:=by
    cases hb:Nat.beq id' id with
    |false=>rfl
    |true=>exact absurd (agv hb) e
   rw[this]at hq
   simp only[cond_false]at hq
   simp only[e,if_false]
   exact⟨s',C',hq,h2⟩
 |_=>exact⟨s',C',hq,h2⟩
theorem tq.loop{c:Code}(I:Nat->St->Prop)(hI:∀n s,I n s->tq P RD WD M N c (andThen (fun s'=>∃m,m<n/\I m s') Q) s){n:Nat}(h0:I n s):tq P RD WD M N (.loop c) Q s:=by
 intro F hF q DS C a hr;refine H2 (fun n a w=>∃s' C',I n s'/\C'.w=w/\SRelX DS RD M N C' s' a/\FrX WD C C') ?_ ⟨s,C,h0,rfl,hr,FrX.refl C⟩;rintro n a w ⟨s',C',hi,rfl,h1,he⟩;refine Code.wpIn_mono ?_ (hI n s' hi F hF q DS C' a h1);rintro e a'' w'' ⟨s'',C'',hq,rfl,hr'',he''⟩;cases e with
 |normal=>
  obtain⟨m,hm,h2⟩:=hq
  exact⟨m,hm,s'',C'',h2,rfl,hr'',he.trans he''⟩
 |_=>exact⟨s'',C'',hq,rfl,hr'',he.trans he''⟩
end
def kf:List Oper->List Rc->Nat->St->St
 |o::l,r::rs,k+1,s=>kf l rs k (rz o r s)
 |_,_,_,s=>s
theorem fc(l:List Oper)(rs:List Rc)(s:St):kf l rs 0 s=s:=by cases l<;>cases rs<;>rfl
theorem vm(o:Oper)(l:List Oper)(r:Rc)(rs:List Rc)(k:Nat)(s:St):kf (o::l) (r::rs) (k+1) s=kf l rs k (rz o r s):=rfl
theorem lj(l:List Oper):∀(rs:List Rc) (k:Nat) (s:St) (o:Oper) (r:Rc),l[k]? =some o->rs[k]? =some r->kf l rs (k+1) s=rz o r (kf l rs k s):=by
 induction l with
 |nil=>intro rs k s o r h1;simp at h1
 |cons o' l ih=>
  intro rs k s o r h1 h2
  cases rs with
  |nil=>simp at h2
  |cons r' rs=>
   cases k with
   |zero=>
    simp only[List.getElem?_cons_zero,agw]at h1 h2
    rw[vm,fc,fc,h1,h2]
   |succ k=>
    rw[vm,vm]
    exact ih rs k _ o r (by simpa using h1) (by simpa using h2)
theorem SeqX.facts{P:Program}{N:Nat}{ops:Array Oper}{l:List Oper}{s s':St}{rs:List Rc}(h:SeqX P N ops l s rs s'):
 rs.length=l.length/\s'=kf l rs l.length s/\∀(k:Nat) (o:Oper) (r:Rc),l[k]? =some o->rs[k]? =some r->FactX P N ops o r (kf l rs k s):=by
 induction h with
 |nil=>exact⟨rfl,rfl,fun k o r h=>by simp at h⟩
 |cons hf _ ih=>
  obtain⟨h1,h2,h3⟩:=ih
  refine⟨by simp[h1],h2,fun k o r ho hr=>?_⟩
  cases k with
  |zero=>
   simp at ho hr
   subst ho;subst hr
   rw[fc];exact hf
  |succ k=>exact h3 k o r (by simpa using ho) (by simpa using hr)
structure PairX(oi oj:Oper)(ri rj:Rc)(ops:Array Oper):Prop where
 d1:∀d,oi.dst=some d->d∉oj.looksAt ops
 d2:∀d,oi.dst=some d->oj.dst≠some d
 d3:∀d,oj.dst=some d->d∉oi.looksAt ops
 h1:∀x,ri.D x=true->rj.F.testBit x=false
 h2:∀x,rj.D x=true->ri.F.testBit x=false
 h3:∀x,ri.D x=true->rj.D x=false
theorem PairX.symm{oi oj:Oper}{ri rj:Rc}{ops:Array Oper}(h:PairX oi oj ri rj ops):PairX oj oi rj ri ops:=
 ⟨h.d3,fun d hd he=>h.d2 d he hd,h.d1,h.h2,h.h1,fun x hx=>by
  cases hy:ri.D x with
  |false=>rfl
  |true=>rw[h.h3 x hy]at hx;cases hx⟩
structure DrawOk(l:List Oper)(rs:List Rc):Prop where
 pair:∀(i k:Nat) (oi ok:Oper) (ri rk:Rc),i<k->l[i]? =some oi->l[k]? =some ok->rs[i]? =some ri->rs[k]? =some rk->Anc l.toArray k i\/PairX oi ok ri rk l.toArray
 op:∀(k:Nat) (ok:Oper),l[k]? =some ok->(∀i∈bu ok,i<k)/\∀cs b,ok.op≠.select cs b
section
variable(ops:List Oper)(rs:List Rc)
def vX(k:Nat):AV:=((rs[k]?).map (·.v)).getD .unk
def DX(k id:Nat):Bool:=((rs[k]?).map (·.D id)).getD false
def ηX(k id:Nat):Option Blk:=((rs[k]?).map (·.η id)).getD none
def tvX(s0:St)(S:Nat->Bool):Nat->Nat->AV
 |0,t=>s0.τ t
 |m+1,t=>if S m=true/\Dn ops m=some t then vX rs m else tvX s0 S m t
def hvX(s0:St)(S:Nat->Bool):Nat->bf
 |0,id=>s0.η id
 |m+1,id=>if S m=true/\DX rs m id=true then ηX rs m id else hvX s0 S m id
variable{ops rs}
theorem Uh{k:Nat}{r:Rc}(h:rs[k]? =some r):vX rs k=r.v:=by simp[vX,h]
theorem qj{k:Nat}{r:Rc}(h:rs[k]? =some r)(id:Nat):DX rs k id=r.D id:=by simp[DX,h]
theorem Fs{k:Nat}{r:Rc}(h:rs[k]? =some r)(id:Nat):ηX rs k id=r.η id:=by simp[ηX,h]
theorem j4{P:Program}{N:Nat}{opsA:Array Oper}{s0:St}(hf:∀(k:Nat) (o:Oper) (r:Rc),ops[k]? =some o->rs[k]? =some r->FactX P N opsA o r (kf ops rs k s0)):
 ∀(k:Nat),k<=ops.length->rs.length=ops.length->(kf ops rs k s0).τ=tvX ops rs s0 (fun _=>true) k/\(kf ops rs k s0).η=hvX rs s0 (fun _=>true) k
 |0,_,_=>by rw[fc];exact⟨rfl,rfl⟩
 |k+1,hk,hl=>by
  obtain⟨h1,h2⟩:=j4 (s0:=s0) hf k (by omega) hl
  have ho:ops[k]? =some (ops[k]'(by omega)):=agu (by omega)
  have hr:rs[k]? =some (rs[k]'(by omega)):=agu (by omega)
  have h0:=hf k _ _ ho hr
  rw[lj ops rs k s0 _ _ ho hr]
  constructor
  ·funext t
   have hd:Dn ops k=(ops[k]'(by omega)).dst:=by simp[Dn,ho]
   simp only[rz,tvX,hd,Uh hr,true_and]
   rw[h1]
   cases hdd:(ops[k]'(by omega)).dst with
   |none=>simp[j1]
   |some d=>
    simp only[j1,upd,agw]
    by_cases e:d=t
    ·subst e;simp
    ·have:Nat.beq t d=false:=by
      cases hb:Nat.beq t d with
      |false=>rfl
      |true=>exact absurd (agv hb).symm e
     simp[this,e]
  ·funext id
   simp only[rz,hvX,true_and,qj hr,Fs hr]
   cases hD:(rs[k]'(by omega)).D id with
   |true=>simp
   |false=>
    simp only[Bool.false_eq_true,if_false]
    rw[h0.fits.same id hD,h2]
theorem nf{s0:St}{S:Nat->Bool}{t k:Nat}:∀m,(∀j,k<=j->j<k+m->¬(S j=true/\Dn ops j=some t))->tvX ops rs s0 S (k+m) t=tvX ops rs s0 S k t
 |0,_=>rfl
 |m+1,h=>by show(if S (k+m)=true/\Dn ops (k+m)=some t then vX rs (k+m)else tvX ops rs s0 S (k+m) t)=_;rw[ag1 (h (k+m) (by omega) (by omega)),nf m (fun j h1 h2=>h j h1 (by omega))]
theorem mf{s0:St}{S S':Nat->Bool}{t:Nat}:∀k,(∀j,j<k->Dn ops j=some t->S j=S' j)->tvX ops rs s0 S k t=tvX ops rs s0 S' k t
 |0,_=>rfl
 |k+1,h=>by simp only[tvX];rw[mf k (fun j hj=>h j (by omega))];by_cases e:Dn ops k=some t;rw[h k (by omega) e];simp[e]
theorem n5{s0:St}{S:Nat->Bool}{id k:Nat}:∀m,(∀j,k<=j->j<k+m->¬(S j=true/\DX rs j id=true))->hvX rs s0 S (k+m) id=hvX rs s0 S k id
 |0,_=>rfl
 |m+1,h=>by show(if S (k+m)=true/\DX rs (k+m) id=true then ηX rs (k+m) id else hvX rs s0 S (k+m) id)=_;rw[ag1 (h (k+m) (by omega) (by omega)),n5 m (fun j h1 h2=>h j h1 (by omega))]
theorem mn{s0:St}{S S':Nat->Bool}{id:Nat}:∀k,(∀j,j<k->DX rs j id=true->S j=S' j)->hvX rs s0 S k id=hvX rs s0 S' k id
 |0,_=>rfl
 |k+1,h=>by simp only[hvX];rw[mn k (fun j hj=>h j (by omega))];by_cases e:DX rs k id=true;rw[h k (by omega) e];simp[e]
end
section
variable{P:Program}{N:Nat}{l:List Oper}{rs:List Rc}{s s':St}{ri:Rc}{oi:Oper}{i:Nat}{S:Nat->Bool}
theorem va(hc:DrawOk l rs)(hS:dx l.toArray S)(hi:i<l.length)(h1:l[i]? =some oi)(h2:rs[i]? =some ri)(h7:S i=false)(h0:∀j∈bu oi,S j=true)
 {j:Nat}(h8:j≠i){oj:Oper}{rj:Rc}(h3:l[j]? =some oj)(h4:rs[j]? =some rj):(j<i/\S j=true)\/(i<j/\S j=false)\/PairX oi oj ri rj l.toArray:=by
 rcases Nat.lt_or_gt_of_ne h8 with h5|h6
 ·rcases hc.pair j i oj oi rj ri h5 h3 h1 h4 h2 with h|h
  ·left
   refine⟨h5,hS.anc h (fun o ho k hk=>?_)⟩
   simp only[List.getElem?_toArray]at ho
   rw[h1]at ho
   cases ho
   exact h0 k hk
  ·exact .inr (.inr h.symm)
 ·rcases hc.pair i j oi oj ri rj h6 h1 h3 h2 h4 with h|h
  ·right;left
   refine⟨h6,?_⟩
   cases h9:S j with
   |false=>rfl
   |true=>
    have:=hS.anc h (fun o ho k hk=>hS j o ho h9 k hk)
    rw[h7]at this;cases this
  ·exact .inr (.inr h)
section
theorem N2(hc:DrawOk l rs)(h6:rs.length=l.length)(h5:∀(k:Nat) (o:Oper) (r:Rc),l[k]? =some o->rs[k]? =some r->FactX P N l.toArray o r (kf l rs k s))(hS:dx l.toArray S)(hi:i<l.length)(ha:l[i]? =some oi)(hb:rs[i]? =some ri)(h7:S i=false)(h0:∀j∈bu oi,S j=true){t:Nat}(ht:t∈oi.looksAt l.toArray):tvX l rs s S l.length t=(kf l rs i s).τ t:=by
 have h8:=fun j (hj:j<l.length) (he:j≠i)=>va hc hS hi ha hb h7 h0 he (agu hj) (agu (show j<rs.length by omega));rw[(j4 h5 i (by omega) h6).1]
 have e1:=nf (ops:=l) (rs:=rs) (s0:=s) (S:=S) (t:=t) (k:=i) (l.length-i) (fun j h1 h2 ⟨h3,h4⟩=>by
  have hj:j<l.length:=by omega
  by_cases e:j=i;subst e;rw[h7]at h3;cases h3;rcases h8 j hj e with⟨h,_⟩|⟨_,h⟩|h;omega;rw[h]at h3;cases h3;rw[ip (agu hj)]at h4;exact h.d3 t h4 ht)
 rw[show i+(l.length-i)=l.length by omega]at e1;rw[e1];refine mf i (fun j hj hd=>?_);have h9:j<l.length:=by omega
 rcases h8 j h9 (by omega)with⟨_,h⟩|⟨h,_⟩|h;exact h;omega;rw[ip (agu h9)]at hd;exact absurd ht (h.d3 t hd)
theorem aci(hc:DrawOk l rs)(h6:rs.length=l.length)(h5:∀(k:Nat) (o:Oper) (r:Rc),l[k]? =some o->rs[k]? =some r->FactX P N l.toArray o r (kf l rs k s))(hS:dx l.toArray S)(hi:i<l.length)(h9:l[i]? =some oi)(ha:rs[i]? =some ri)(h7:S i=false)(h0:∀j∈bu oi,S j=true){id:Nat}(ht:ri.F.testBit id=true):hvX rs s S l.length id=(kf l rs i s).η id:=by
 have h8:=fun j (hj:j<l.length) (hb:j≠i)=>va hc hS hi h9 ha h7 h0 hb (agu hj) (agu (show j<rs.length by omega));rw[(j4 h5 i (by omega) h6).2]
 have e1:=n5 (rs:=rs) (s0:=s) (S:=S) (id:=id) (k:=i) (l.length-i) (fun j h1 h2 ⟨h3,h4⟩=>by
  have hj:j<l.length:=by omega
  by_cases e:j=i;subst e;rw[h7]at h3;cases h3;rcases h8 j hj e with⟨h,_⟩|⟨_,h⟩|h;omega;rw[h]at h3;cases h3;rw[qj (agu (show j<rs.length by omega))]at h4;rw[h.h2 id h4]at ht;cases ht)
 rw[show i+(l.length-i)=l.length by omega]at e1;rw[e1];refine mn i (fun j hj hd=>?_);have he:j<l.length:=by omega
 rcases h8 j he (by omega)with⟨_,h⟩|⟨h,_⟩|h;exact h;omega;rw[qj (agu (show j<rs.length by omega))]at hd;rw[h.h2 id hd]at ht;cases ht
theorem P7(hc:DrawOk l rs)(hlen:rs.length=l.length)(hfact:∀(k:Nat) (o:Oper) (r:Rc),l[k]? =some o->rs[k]? =some r->FactX P N l.toArray o r (kf l rs k s))(hS:dx l.toArray S)(hi:i<l.length)(h6:l[i]? =some oi)(h7:rs[i]? =some ri)(h9:S i=false)(h0:∀j∈bu oi,S j=true):j1 (tvX l rs s S l.length) oi.dst ri.v=tvX l rs s (cf S i) l.length:=by
 have ha:=fun j (hj:j<l.length) (h5:j≠i)=>va hc hS hi h6 h7 h9 h0 h5 (agu hj) (agu (show j<rs.length by omega))
 funext t
 by_cases hd:oi.dst=some t
 ·have e1:=nf (ops:=l) (rs:=rs) (s0:=s) (S:=cf S i) (t:=t) (k:=i+1) (l.length-(i+1)) (fun j h1 h2 ⟨h3,h4⟩=>by
   have hj:j<l.length:=by omega
   have h5:j≠i:=by omega
   simp only[cf,h5,if_false]at h3
   rcases ha j hj h5 with⟨h,_⟩|⟨_,h⟩|h
   ·omega
   ·rw[h]at h3;cases h3
   ·rw[ip (agu hj)]at h4
    exact h.d2 t hd h4)
  rw[show i+1+(l.length-(i+1))=l.length by omega]at e1
  rw[e1]
  have e2:tvX l rs s (cf S i) (i+1) t=ri.v:=by
   simp only[tvX,ip h6,Uh h7,cf,if_true,hd,and_self]
  rw[e2,hd]
  simp[j1,upd]
 ·have e1:j1 (tvX l rs s S l.length) oi.dst ri.v t=tvX l rs s S l.length t:=by
   cases he:oi.dst with
   |none=>rfl
   |some d=>
    rw[he]at hd
    have:Nat.beq t d=false:=by
     cases hb:Nat.beq t d with
     |false=>rfl
     |true=>exact absurd (by rw[agv hb]) hd
    simp[j1,upd,this]
  rw[e1]
  refine mf _ (fun j hj h8=>?_)
  by_cases e:j=i
  ·subst e;rw[ip h6]at h8;exact absurd h8 hd
  ·simp[cf,e]
theorem P9(hc:DrawOk l rs)(hlen:rs.length=l.length)(hfact:∀(k:Nat) (o:Oper) (r:Rc),l[k]? =some o->rs[k]? =some r->FactX P N l.toArray o r (kf l rs k s))(hS:dx l.toArray S)(hi:i<l.length)(h8:l[i]? =some oi)(h5:rs[i]? =some ri)(h9:S i=false)(h0:∀j∈bu oi,S j=true)(id:Nat):(if ri.D id=true then ri.η id else hvX rs s S l.length id)=hvX rs s (cf S i) l.length id:=by
 have ha:=fun j (hj:j<l.length) (h6:j≠i)=>va hc hS hi h8 h5 h9 h0 h6 (agu hj) (agu (show j<rs.length by omega));by_cases hd:ri.D id=true;rw[ag2 hd]
 have e1:=n5 (rs:=rs) (s0:=s) (S:=cf S i) (id:=id) (k:=i+1) (l.length-(i+1)) (fun j h1 h2 ⟨h3,h4⟩=>by
  have hj:j<l.length:=by omega
  have h6:j≠i:=by omega
  simp only[cf,h6,if_false]at h3;rcases ha j hj h6 with⟨h,_⟩|⟨_,h⟩|h;omega;rw[h]at h3;cases h3;rw[qj (agu (show j<rs.length by omega)),h.h3 id hd]at h4;cases h4)
 rw[show i+1+(l.length-(i+1))=l.length by omega]at e1;rw[e1];simp only[hvX,qj h5,Fs h5,cf,if_true,hd,and_self];rw[ag1 hd];refine mn _ (fun j hj h7=>?_);by_cases e:j=i;subst e;rw[qj h5]at h7;exact absurd h7 hd;simp[cf,e]
end
theorem F8(hf:∀(k:Nat) (o:Oper) (r:Rc),l[k]? =some o->rs[k]? =some r->FactX P N l.toArray o r (kf l rs k s))(h0:rs.length=l.length):∀m k,k+m<=l.length->(kf l rs k s).u<=(kf l rs (k+m) s).u
 |0,_,_=>ag8 _
 |m+1,k,h=>by have ih:=F8 hf h0 m k (by omega);have ho:l[k+m]? =some (l[k+m]'(by omega)):=agu (by omega);have hr:rs[k+m]? =some (rs[k+m]'(by omega)):=agu (by omega);have e:kf l rs (k+(m+1)) s=rz (l[k+m]'(by omega)) (rs[k+m]'(by omega)) (kf l rs (k+m) s):=lj l rs (k+m) s _ _ ho hr;rw[e];have h1:=hf _ _ _ ho hr;have h2:=h1.u;have h3:=h1.fits.le;show _<=(rs[k+m]'(by omega)).u;omega
structure InX(DS:List Deferred)(RD WD:Nat->Prop)(N:Nat)(l:List Oper)(rs:List Rc)(s:St)(M u':Nat)(C1:Ctx)(S:Nat->Bool)(C:Ctx)(a:Act):Prop where
 rel:SRelX DS RD M N C ⟨tvX l rs s S l.length,hvX rs s S l.length,u'⟩ a
 closed:dx l.toArray S
 used:∀id,C.U id->C1.U id\/∃k,k<l.length/\S k=true/\DX rs k id=true
 fr:FrX WD C1 C
theorem tq.regionD{RD WD:Nat->Prop}{M:Nat}{Q:Exit->St->Prop}{id:Nat}(hm:P.follows .mixedOrders=true)(gj:SeqX P N l.toArray l s rs s')(hc:DrawOk l rs)(gk:∀r∈rs,Inn RD WD M r)(h:Q .normal s'):tq P RD WD M N (.region id l.toArray true) Q s:=by
 obtain⟨ha,hu,h0⟩:=gj.facts
 intro F hF q DS C0 a0 g1
 obtain⟨gt,g8⟩:=j9 g1.good
 have gu:FrX WD C0 {C0 with w:=C0.w.drew}:=⟨g8,fun _ _=>rfl,fun _ h=>.inl h⟩
 have hη1:({C0 with w:=C0.w.drew}:Ctx).η=C0.η:=rfl
 have gl:({C0 with w:=C0.w.drew}:Ctx).U=C0.U:=rfl
 have hw:({C0 with w:=C0.w.drew}:Ctx).w={C0.w with drawn:=C0.w.drawn+1}:=rfl
 generalize({C0 with w:=C0.w.drew}:Ctx)=C1 at gt g8 gu hη1 gl hw
 have hh:∀k k',k<=k'->k'<=l.length->(kf l rs k s).u<=(kf l rs k' s).u:=fun k k' h1 h2=>by
  have:=F8 h0 ha (k'-k) k (by omega)
  rwa [show k+(k'-k)=k' by omega]at this
 have gm:∀k,k<l.length->l[k]? =some (l[k]!)/\∃r,rs[k]? =some r:=fun k hk=>by
  have:k<rs.length:=by omega
  exact⟨by simp[hk],rs[k],agu this⟩
 have g9:∀k o r,l[k]? =some o->rs[k]? =some r->(kf l rs (k+1) s).u=r.u:=fun k o r ho hr=>by
  rw[lj l rs k s o r ho hr];rfl
 have ga:∀k o r,k<l.length->l[k]? =some o->rs[k]? =some r->∀id,r.D id=true->id<(kf l rs (k+1) s).u:=by
  intro k o r hk ho hr id h8
  rw[g9 k o r ho hr]
  have hf:=h0 k o r ho hr
  have:=hf.fits.le
  rcases Rc.D_iff.1 h8 with h1|h1
  ·have:=hf.fits.low id (hf.fits.sub id h1);omega
  ·exact h1.2
 have gb:∀(li:Array Bool) (C:Ctx) (a:Act),li.size=l.length->InX DS RD WD N l rs s M s'.u C1 (fun k=>li.getD k false) C a->Region.ready .any l.toArray li=[]->
  ∃s'' C',Q .normal s''/\C'.w=C.w/\SRelX DS RD M N C' s'' a/\FrX WD C0 C':=by
  intro li C a hl h5 hr
  have gc:∀k,k<l.length->li.getD k false=true:=by
   intro k
   induction k using Nat.strongRecOn with
   |ind k ih=>
    intro hk
    cases gx:li.getD k false with
    |true=>rfl
    |false=>
     exfalso
     obtain⟨ho,gi⟩:=gm k hk
     have:k∈Region.ready .any l.toArray li:=by
      rw[mem_ready]
      have gn:k<li.size:=by omega
      refine⟨by simpa[Array.getD,gn]using gx,l[k]!,by simpa using ho,fun e he hb=>?_⟩
      have go:e.on∈bu (l[k]!):=ahj.2 ⟨e,List.mem_filter.2 ⟨by simpa using he,hb⟩,rfl⟩
      have g2:=(hc.op k _ ho).1 e.on go
      exact ih e.on g2 (by omega)
     rw[hr]at this
     simp at this
  have e1:tvX l rs s (fun k=>li.getD k false) l.length=s'.τ:=by
   rw[hu,(j4 h0 l.length (ag8 _) ha).1]
   funext t
   exact mf _ (fun j hj _=>gc j hj)
  have e2:hvX rs s (fun k=>li.getD k false) l.length=s'.η:=by
   rw[hu,(j4 h0 l.length (ag8 _) ha).2]
   funext id
   exact mn _ (fun j hj _=>gc j hj)
  have h7:=h5.rel
  rw[e1,e2]at h7
  exact⟨s',C,h,rfl,h7,gu.trans h5.fr⟩
 have key:∀(fuel:Nat) (li:Array Bool) (C:Ctx) (a:Act),li.size=l.length->(List.range l.length).countP (fun k=>!li.getD k false)<=fuel->InX DS RD WD N l rs s M s'.u C1 (fun k=>li.getD k false) C a->
  wpAnyIn F q P .any l.toArray (fun e a' w'=>∃s'' C',Q e s''/\C'.w=w'/\SRelX DS RD M N C' s'' a'/\FrX WD C0 C') fuel li a C.w:=by
  intro fuel
  induction fuel with
  |zero=>
   intro li C a hl gd h5
   have hr:Region.ready .any l.toArray li=[]:=by
    rw[List.eq_nil_iff_forall_not_mem]
    intro k hk
    rw[mem_ready]at hk
    obtain⟨h1,o,ho,_⟩:=hk
    have gn:k<l.length:=by have:=(Array.getElem?_eq_some_iff.1 ho).1;simpa using this
    have:=List.countP_eq_zero.1 (Nat.le_zero.1 gd) k (List.mem_range.2 gn)
    have gp:k<li.size:=by omega
    simp[Array.getD,gp]at this h1
    rw[this]at h1;cases h1
   exact⟨hr,gb li C a hl h5 hr⟩
  |succ fuel ih=>
   intro li C a hl gd h5
   refine⟨gb li C a hl h5,fun i hi=>?_⟩
   rw[mem_ready]at hi
   obtain⟨h1,oi,ho,ge⟩:=hi
   have hy:i<l.length:=by have:=(Array.getElem?_eq_some_iff.1 ho).1;simpa using this
   have gf:i<li.size:=by omega
   have g4:li.getD i false=false:=by simpa[Array.getD,gf]using h1
   have g5:l[i]? =some oi:=by simpa using ho
   obtain⟨_,ri,hz⟩:=gm i hy
   have h6:∀j∈bu oi,li.getD j false=true:=by
    intro j hj
    obtain⟨e,he,rfl⟩:=ahj.1 hj
    obtain⟨g8,gy⟩:=List.mem_filter.1 he
    exact ge e (by simpa using g8) gy
   have g6:(fun k=>(li.setIfInBounds i true).getD k false)=cf (fun k=>li.getD k false) i:=by
    funext k
    unfold cf
    by_cases e:k=i
    ·subst e;simp[Array.getD,gf]
    ·rw[ag1 e];exact getD_set_ne false (fun h=>e h.symm)
   have hp:(List.range l.length).countP (fun k=>!(li.setIfInBounds i true).getD k false)<=fuel:=by
    have g2:(List.range l.length).countP (fun k=>!(li.setIfInBounds i true).getD k false)<(List.range l.length).countP (fun k=>!li.getD k false):=by
     have e1:∀k,(li.setIfInBounds i true).getD k false=cf (fun k=>li.getD k false) i k:=fun k=>congrFun g6 k
     simp only[e1]
     refine oz (List.mem_range.2 hy) (by simp[g4]) (by simp[cf]) (fun k hk=>?_)
     simp only[cf]
     split<;>simp
    omega
   have hg:∀t∈oi.looksAt l.toArray,tvX l rs s (fun k=>li.getD k false) l.length t=(kf l rs i s).τ t:=fun t ht=>N2 hc ha h0 h5.closed hy g5 hz g4 h6 ht
   have hn:dx l.toArray (cf (fun k=>li.getD k false) i):=by
    intro k o hk hs j hj
    unfold cf at hs ⊢
    by_cases e:j=i
    ·simp[e]
    ·rw[ag1 e]
     by_cases e1:k=i
     ·subst e1
      rw[ho]at hk
      cases hk
      exact h6 j hj
     ·rw[ag1 e1]at hs
      exact h5.closed k o hk hs j hj
   have g3:=h0 i oi ri g5 hz
   have h9:=gk ri (List.mem_of_getElem? hz)
   have hτ:=P7 (s:=s) hc ha h0 h5.closed hy g5 hz g4 h6
   have hη:=P9 (s:=s) hc ha h0 h5.closed hy g5 hz g4 h6
   have hq:∀(C':Ctx),(∀id,C'.U id->C.U id\/ri.D id=true)->∀id,C'.U id->C1.U id\/∃k,k<l.length/\cf (fun k=>li.getD k false) i k=true/\DX rs k id=true:=by
    intro C' hU id h8
    rcases hU id h8 with h2|h2
    ·rcases h5.used id h2 with h3|⟨k,hk,gg,gz⟩
     ·exact .inl h3
     ·exact .inr ⟨k,hk,by simp only[cf];split<;>simp_all,gz⟩
    ·exact .inr ⟨i,hy,by simp[cf],by rw[qj hz];exact h2⟩
   unfold wpOpIn
   simp only[ho]
   rcases g3.how with⟨gq,hL⟩|⟨gq,hv,f0,f1⟩
   ·rw[eg (s:=⟨tvX l rs s (fun k=>li.getD k false) l.length,hvX rs s (fun k=>li.getD k false) l.length,s'.u⟩) ((ka hg).trans gq) h5.rel (iv.guard g3.dst)]
    simp only[if_true]
    refine Zv hF (iv.nd g3.dst) (hL C a h5.rel.good (fun x hx=>?_) (fun id h8=>?_) (fun id gh g2 hU=>?_) _ _ fun x C' hη' gr f2 gv f3=>?_)
    ·rw[<-wv hg hx];exact h5.rel.eval x
    ·rw[h5.rel.η id (h9.rd id h8)];exact aci hc ha h0 h5.closed hy g5 hz g4 h6 h8
    ·have f4:ri.D id=true:=Rc.D_iff.2 (.inr ⟨gh,g2⟩)
     have h0i:=hh 0 i (by omega) (by omega)
     rw[fc]at h0i
     have hui:=g3.u
     rcases h5.used _ hU with h3|⟨k,hk,gg,g0⟩
     ·rw[gl]at h3
      exact g1.free id (by omega) (by have:=h9.u;omega) h3
     ·by_cases e:k=i
      ·subst e;rw[g4]at gg;cases gg
      ·obtain⟨gw,rk,gi⟩:=gm k hk
       rw[qj gi]at g0
       rcases va hc h5.closed hy g5 hz g4 h6 e gw gi with⟨hlt',_⟩|⟨_,h4⟩|h4
       ·have:=ga k _ _ hk gw gi id g0
        have:=hh (k+1) i (by omega) (by omega)
        omega
       ·rw[h4]at gg;cases gg
       ·rw[h4.h3 id f4]at g0;cases g0
    ·have gs:∀id,s'.u<=id->id<M->¬C'.U id:=by
      intro id gh g2 h8
      rcases gr id h8 with h2|h2
      ·exact h5.rel.free id gh g2 h2
      ·have:=ga i oi ri hy g5 hz id h2
       have:=hh (i+1) l.length (by omega) (by omega)
       rw[<-hu]at this
       omega
     have h7:=h5.rel.put gv f2 (η':=hvX rs s (cf (fun k=>li.getD k false) i) l.length) (fun id h8=>by rw[hη' id,<-hη id,h5.rel.η id h8]) gs (iv.dst g3.dst) f3
     simp only at h7
     rw[hτ]at h7
     refine ih _ C' _ (by simpa using hl) hp ?_
     rw[g6]
     exact⟨h7,hn,hq C' gr,h5.fr.trans ⟨gv,fun id h8=>by rw[hη' id,ag1 (fun hd=>h8 (h9.wd id hd))],fun id h8=>(gr id h8).imp (fun h=>h) (h9.wd id)⟩⟩
   ·rw[eg (s:=⟨tvX l rs s (fun k=>li.getD k false) l.length,hvX rs s (fun k=>li.getD k false) l.length,s'.u⟩) ((ka hg).trans gq) h5.rel (iv.guard g3.dst)]
    simp only[Bool.false_eq_true,if_false]
    have f5:=g3.skip_D ⟨f0,f1⟩
    have h7:=h5.rel.put (Ev.refl C) h5.rel.good (η':=hvX rs s (cf (fun k=>li.getD k false) i) l.length) (u':=s'.u) (fun id h8=>by rw[<-hη id,f5 id];exact h5.rel.η id h8) h5.rel.free (iv.dst g3.dst) (VR.v C undef)
    simp only at h7
    rw[<-hv,hτ]at h7
    refine⟨fun _ _=>hF.fn _,ih _ C _ (by simpa using hl) hp ?_⟩
    rw[g6]
    exact⟨h7,hn,hq C (fun id h=>.inl h),h5.fr⟩
 refine wpIn_region_any hm ?_
 have e0:(fun k=>(Array.replicate l.toArray.size false).getD k false)=fun _=>false:=by
  funext k;simp[Array.getD]
 have g7:InX DS RD WD N l rs s M s'.u C1 (fun _=>false) C1 a0:=by
  have e1:tvX l rs s (fun _=>false) l.length=s.τ:=by
   have:∀m,tvX l rs s (fun _=>false) m=s.τ:=by
    intro m
    induction m with
    |zero=>rfl
    |succ m ih=>funext t;simp[tvX,ih]
   exact this _
  have e2:hvX rs s (fun _=>false) l.length=s.η:=by
   have:∀m,hvX rs s (fun _=>false) m=s.η:=by
    intro m
    induction m with
    |zero=>rfl
    |succ m ih=>funext t;simp[hvX,ih]
   exact this _
  have h0n:=hh 0 l.length (by omega) (ag8 _)
  rw[fc,<-hu]at h0n
  refine⟨?_,fun k o _ hk=>(by cases hk),fun id h8=>.inl h8,FrX.refl _⟩
  rw[e1,e2]
  refine⟨gt,fun id h8=>by rw[hη1];exact g1.η id h8,fun id gh g2 hU=>?_,g1.defers,g1.size,fun t=>(g1.τ t).mono g1.good g8⟩
  rw[gl]at hU
  have hle':s'.u<=id:=gh
  exact g1.free id (by omega) g2 hU
 have:=key l.toArray.size (Array.replicate l.toArray.size false) C1 a0 (by simp) (by
  have:=List.countP_le_length (p:=fun k=>!(Array.replicate l.toArray.size false).getD k false) (l:=List.range l.length)
  simpa using this) (by rw[e0];exact g7)
 rw[hw]at this
 exact this
end
structure PairA(a:Nat)(oi oj:Oper)(ri rj:Rc)(ops:Array Oper):Prop where
 d1:∀d,oi.dst=some d->d∉oj.looksAt ops
 d2:∀d,oi.dst=some d->oj.dst≠some d
 d3:∀d,oj.dst=some d->d∉oi.looksAt ops
 h1:∀x,ri.D x=true->rj.F.testBit x=false\/(x=a/\∀y,rj.D y=false)
 h2:∀x,rj.D x=true->ri.F.testBit x=false\/(x=a/\∀y,ri.D y=false)
 h3:∀x,ri.D x=true->rj.D x=false
theorem PairA.symm{a:Nat}{oi oj:Oper}{ri rj:Rc}{ops:Array Oper}(h:PairA a oi oj ri rj ops):PairA a oj oi rj ri ops:=
 ⟨h.d3,fun d hd he=>h.d2 d he hd,h.d1,h.h2,h.h1,fun x hx=>by
  cases hy:ri.D x with
  |false=>rfl
  |true=>rw[h.h3 x hy]at hx;cases hx⟩
structure DrawA(P:Program)(s:St)(a:Nat)(l:List Oper)(rs:List Rc):Prop where
 pair:∀(i k:Nat) (oi ok:Oper) (ri rk:Rc),i<k->l[i]? =some oi->l[k]? =some ok->rs[i]? =some ri->rs[k]? =some rk->Anc l.toArray k i\/PairA a oi ok ri rk l.toArray
 op:∀(k:Nat) (ok:Oper),l[k]? =some ok->(∀i∈bu ok,i<k)/\∀cs b,ok.op≠.select cs b
 soft:∀(i:Nat) (oi:Oper) (ri:Rc),l[i]? =some oi->rs[i]? =some ri->(∀y,ri.D y=false)->ri.F.testBit a=true->∀m,m<=l.length->re P oi (kf l rs i s).τ ((kf l rs i s).η.set a ((kf l rs m s).η a)) ri
section
variable{P:Program}{N:Nat}{l:List Oper}{rs:List Rc}{s s':St}{ri:Rc}{oi:Oper}{i sa:Nat}{S:Nat->Bool}
theorem Gy(h0:rs.length=l.length)(id:Nat):∀k,k<=l.length->∃m,m<=l.length/\hvX rs s S k id=(kf l rs m s).η id
 |0,_=>⟨0,ag6 _,by rw[fc];rfl⟩
 |k+1,hk=>by simp only[hvX];by_cases h:S k=true/\DX rs k id=true;rw[ag2 h];have ho:l[k]? =some (l[k]'(by omega)):=agu (by omega);have hr:rs[k]? =some (rs[k]'(by omega)):=agu (by omega);refine⟨k+1,hk,?_⟩;rw[lj l rs k s _ _ ho hr,Fs hr];rfl;rw[ag1 h];exact Gy h0 id k (by omega)
theorem vb(hc:DrawA P s sa l rs)(hS:dx l.toArray S)(hi:i<l.length)(h1:l[i]? =some oi)(h2:rs[i]? =some ri)(h7:S i=false)(h0:∀j∈bu oi,S j=true)
 {j:Nat}(h8:j≠i){oj:Oper}{rj:Rc}(h3:l[j]? =some oj)(h4:rs[j]? =some rj):(j<i/\S j=true)\/(i<j/\S j=false)\/PairA sa oi oj ri rj l.toArray:=by
 rcases Nat.lt_or_gt_of_ne h8 with h5|h6
 ·rcases hc.pair j i oj oi rj ri h5 h3 h1 h4 h2 with h|h
  ·left
   refine⟨h5,hS.anc h (fun o ho k hk=>?_)⟩
   simp only[List.getElem?_toArray]at ho
   rw[h1]at ho
   cases ho
   exact h0 k hk
  ·exact .inr (.inr h.symm)
 ·rcases hc.pair i j oi oj ri rj h6 h1 h3 h2 h4 with h|h
  ·right;left
   refine⟨h6,?_⟩
   cases h9:S j with
   |false=>rfl
   |true=>
    have:=hS.anc h (fun o ho k hk=>hS j o ho h9 k hk)
    rw[h7]at this;cases this
  ·exact .inr (.inr h)
theorem N3(hc:DrawA P s sa l rs)(h6:rs.length=l.length)(h5:∀(k:Nat) (o:Oper) (r:Rc),l[k]? =some o->rs[k]? =some r->FactX P N l.toArray o r (kf l rs k s))(hS:dx l.toArray S)(hi:i<l.length)(ha:l[i]? =some oi)(hb:rs[i]? =some ri)(h7:S i=false)(h0:∀j∈bu oi,S j=true){t:Nat}(ht:t∈oi.looksAt l.toArray):tvX l rs s S l.length t=(kf l rs i s).τ t:=by
 have h8:=fun j (hj:j<l.length) (he:j≠i)=>vb hc hS hi ha hb h7 h0 he (agu hj) (agu (show j<rs.length by omega));rw[(j4 h5 i (by omega) h6).1]
 have e1:=nf (ops:=l) (rs:=rs) (s0:=s) (S:=S) (t:=t) (k:=i) (l.length-i) (fun j h1 h2 ⟨h3,h4⟩=>by
  have hj:j<l.length:=by omega
  by_cases e:j=i;subst e;rw[h7]at h3;cases h3;rcases h8 j hj e with⟨h,_⟩|⟨_,h⟩|h;omega;rw[h]at h3;cases h3;rw[ip (agu hj)]at h4;exact h.d3 t h4 ht)
 rw[show i+(l.length-i)=l.length by omega]at e1;rw[e1];refine mf i (fun j hj hd=>?_);have h9:j<l.length:=by omega
 rcases h8 j h9 (by omega)with⟨_,h⟩|⟨h,_⟩|h;exact h;omega;rw[ip (agu h9)]at hd;exact absurd ht (h.d3 t hd)
theorem T1(hc:DrawA P s sa l rs)(h8:rs.length=l.length)(h7:∀(k:Nat) (o:Oper) (r:Rc),l[k]? =some o->rs[k]? =some r->FactX P N l.toArray o r (kf l rs k s))(hS:dx l.toArray S)(hi:i<l.length)(he:l[i]? =some oi)(hf:rs[i]? =some ri)(h9:S i=false)(h0:∀j∈bu oi,S j=true){id:Nat}(ht:ri.F.testBit id=true)(ha:id=sa->¬∀y,ri.D y=false):hvX rs s S l.length id=(kf l rs i s).η id:=by
 have hb:=fun j (hj:j<l.length) (hg:j≠i)=>vb hc hS hi he hf h9 h0 hg (agu hj) (agu (show j<rs.length by omega));rw[(j4 h7 i (by omega) h8).2]
 have e1:=n5 (rs:=rs) (s0:=s) (S:=S) (id:=id) (k:=i) (l.length-i) (fun j h1 h2 ⟨h3,h4⟩=>by
  have hj:j<l.length:=by omega
  by_cases e:j=i;subst e;rw[h9]at h3;cases h3;rcases hb j hj e with⟨h,_⟩|⟨_,h⟩|h;omega;rw[h]at h3;cases h3;rw[qj (agu (show j<rs.length by omega))]at h4;rcases h.h2 id h4 with h5|⟨h5,h6⟩;rw[h5]at ht;cases ht;exact ha h5 h6)
 rw[show i+(l.length-i)=l.length by omega]at e1;rw[e1];refine mn i (fun j hj hd=>?_);have hh:j<l.length:=by omega
 rcases hb j hh (by omega)with⟨_,h⟩|⟨h,_⟩|h;exact h;omega;rw[qj (agu (show j<rs.length by omega))]at hd;rcases h.h2 id hd with h5|⟨h5,h6⟩;rw[h5]at ht;cases ht;exact absurd h6 (ha h5)
theorem P8(hc:DrawA P s sa l rs)(hlen:rs.length=l.length)(hfact:∀(k:Nat) (o:Oper) (r:Rc),l[k]? =some o->rs[k]? =some r->FactX P N l.toArray o r (kf l rs k s))(hS:dx l.toArray S)(hi:i<l.length)(h6:l[i]? =some oi)(h7:rs[i]? =some ri)(h9:S i=false)(h0:∀j∈bu oi,S j=true):j1 (tvX l rs s S l.length) oi.dst ri.v=tvX l rs s (cf S i) l.length:=by
 have ha:=fun j (hj:j<l.length) (h5:j≠i)=>vb hc hS hi h6 h7 h9 h0 h5 (agu hj) (agu (show j<rs.length by omega))
 funext t
 by_cases hd:oi.dst=some t
 ·have e1:=nf (ops:=l) (rs:=rs) (s0:=s) (S:=cf S i) (t:=t) (k:=i+1) (l.length-(i+1)) (fun j h1 h2 ⟨h3,h4⟩=>by
   have hj:j<l.length:=by omega
   have h5:j≠i:=by omega
   simp only[cf,h5,if_false]at h3
   rcases ha j hj h5 with⟨h,_⟩|⟨_,h⟩|h
   ·omega
   ·rw[h]at h3;cases h3
   ·rw[ip (agu hj)]at h4
    exact h.d2 t hd h4)
  rw[show i+1+(l.length-(i+1))=l.length by omega]at e1
  rw[e1]
  have e2:tvX l rs s (cf S i) (i+1) t=ri.v:=by
   simp only[tvX,ip h6,Uh h7,cf,if_true,hd,and_self]
  rw[e2,hd]
  simp[j1,upd]
 ·have e1:j1 (tvX l rs s S l.length) oi.dst ri.v t=tvX l rs s S l.length t:=by
   cases he:oi.dst with
   |none=>rfl
   |some d=>
    rw[he]at hd
    have:Nat.beq t d=false:=by
     cases hb:Nat.beq t d with
     |false=>rfl
     |true=>exact absurd (by rw[agv hb]) hd
    simp[j1,upd,this]
  rw[e1]
  refine mf _ (fun j hj h8=>?_)
  by_cases e:j=i
  ·subst e;rw[ip h6]at h8;exact absurd h8 hd
  ·simp[cf,e]
theorem Qa(hc:DrawA P s sa l rs)(hlen:rs.length=l.length)(hfact:∀(k:Nat) (o:Oper) (r:Rc),l[k]? =some o->rs[k]? =some r->FactX P N l.toArray o r (kf l rs k s))(hS:dx l.toArray S)(hi:i<l.length)(h8:l[i]? =some oi)(h5:rs[i]? =some ri)(h9:S i=false)(h0:∀j∈bu oi,S j=true)(id:Nat):(if ri.D id=true then ri.η id else hvX rs s S l.length id)=hvX rs s (cf S i) l.length id:=by
 have ha:=fun j (hj:j<l.length) (h6:j≠i)=>vb hc hS hi h8 h5 h9 h0 h6 (agu hj) (agu (show j<rs.length by omega));by_cases hd:ri.D id=true;rw[ag2 hd]
 have e1:=n5 (rs:=rs) (s0:=s) (S:=cf S i) (id:=id) (k:=i+1) (l.length-(i+1)) (fun j h1 h2 ⟨h3,h4⟩=>by
  have hj:j<l.length:=by omega
  have h6:j≠i:=by omega
  simp only[cf,h6,if_false]at h3;rcases ha j hj h6 with⟨h,_⟩|⟨_,h⟩|h;omega;rw[h]at h3;cases h3;rw[qj (agu (show j<rs.length by omega)),h.h3 id hd]at h4;cases h4)
 rw[show i+1+(l.length-(i+1))=l.length by omega]at e1;rw[e1];simp only[hvX,qj h5,Fs h5,cf,if_true,hd,and_self];rw[ag1 hd];refine mn _ (fun j hj h7=>?_);by_cases e:j=i;subst e;rw[qj h5]at h7;exact absurd h7 hd;simp[cf,e]
theorem Dh{RD WD:Nat->Prop}{M:Nat}{Q:Exit->St->Prop}{id:Nat}(hm:P.follows .mixedOrders=true)(gj:SeqX P N l.toArray l s rs s')(hc:DrawA P s sa l rs)(gk:∀r∈rs,Inn RD WD M r)(h:Q .normal s'):tq P RD WD M N (.region id l.toArray true) Q s:=by
 obtain⟨h9,hz,h0⟩:=gj.facts
 intro F hF q DS C0 a0 g2
 obtain⟨gu,g8⟩:=j9 g2.good
 have gv:FrX WD C0 {C0 with w:=C0.w.drew}:=⟨g8,fun _ _=>rfl,fun _ h=>.inl h⟩
 have hη1:({C0 with w:=C0.w.drew}:Ctx).η=C0.η:=rfl
 have gl:({C0 with w:=C0.w.drew}:Ctx).U=C0.U:=rfl
 have hw:({C0 with w:=C0.w.drew}:Ctx).w={C0.w with drawn:=C0.w.drawn+1}:=rfl
 generalize({C0 with w:=C0.w.drew}:Ctx)=C1 at gu g8 gv hη1 gl hw
 have hh:∀k k',k<=k'->k'<=l.length->(kf l rs k s).u<=(kf l rs k' s).u:=fun k k' h1 h2=>by
  have:=F8 h0 h9 (k'-k) k (by omega)
  rwa [show k+(k'-k)=k' by omega]at this
 have gm:∀k,k<l.length->l[k]? =some (l[k]!)/\∃r,rs[k]? =some r:=fun k hk=>by
  have:k<rs.length:=by omega
  exact⟨by simp[hk],rs[k],agu this⟩
 have g9:∀k o r,l[k]? =some o->rs[k]? =some r->(kf l rs (k+1) s).u=r.u:=fun k o r ho hr=>by
  rw[lj l rs k s o r ho hr];rfl
 have ga:∀k o r,k<l.length->l[k]? =some o->rs[k]? =some r->∀id,r.D id=true->id<(kf l rs (k+1) s).u:=by
  intro k o r hk ho hr id h7
  rw[g9 k o r ho hr]
  have hf:=h0 k o r ho hr
  have:=hf.fits.le
  rcases Rc.D_iff.1 h7 with h1|h1
  ·have:=hf.fits.low id (hf.fits.sub id h1);omega
  ·exact h1.2
 have gb:∀(li:Array Bool) (C:Ctx) (a:Act),li.size=l.length->InX DS RD WD N l rs s M s'.u C1 (fun k=>li.getD k false) C a->Region.ready .any l.toArray li=[]->
  ∃s'' C',Q .normal s''/\C'.w=C.w/\SRelX DS RD M N C' s'' a/\FrX WD C0 C':=by
  intro li C a hl h6 hr
  have gc:∀k,k<l.length->li.getD k false=true:=by
   intro k
   induction k using Nat.strongRecOn with
   |ind k ih=>
    intro hk
    cases gy:li.getD k false with
    |true=>rfl
    |false=>
     exfalso
     obtain⟨ho,gi⟩:=gm k hk
     have:k∈Region.ready .any l.toArray li:=by
      rw[mem_ready]
      have gn:k<li.size:=by omega
      refine⟨by simpa[Array.getD,gn]using gy,l[k]!,by simpa using ho,fun e he hb=>?_⟩
      have go:e.on∈bu (l[k]!):=ahj.2 ⟨e,List.mem_filter.2 ⟨by simpa using he,hb⟩,rfl⟩
      have g3:=(hc.op k _ ho).1 e.on go
      exact ih e.on g3 (by omega)
     rw[hr]at this
     simp at this
  have e1:tvX l rs s (fun k=>li.getD k false) l.length=s'.τ:=by
   rw[hz,(j4 h0 l.length (ag8 _) h9).1]
   funext t
   exact mf _ (fun j hj _=>gc j hj)
  have e2:hvX rs s (fun k=>li.getD k false) l.length=s'.η:=by
   rw[hz,(j4 h0 l.length (ag8 _) h9).2]
   funext id
   exact mn _ (fun j hj _=>gc j hj)
  have h8:=h6.rel
  rw[e1,e2]at h8
  exact⟨s',C,h,rfl,h8,gv.trans h6.fr⟩
 have key:∀(fuel:Nat) (li:Array Bool) (C:Ctx) (a:Act),li.size=l.length->(List.range l.length).countP (fun k=>!li.getD k false)<=fuel->InX DS RD WD N l rs s M s'.u C1 (fun k=>li.getD k false) C a->
  wpAnyIn F q P .any l.toArray (fun e a' w'=>∃s'' C',Q e s''/\C'.w=w'/\SRelX DS RD M N C' s'' a'/\FrX WD C0 C') fuel li a C.w:=by
  intro fuel
  induction fuel with
  |zero=>
   intro li C a hl gd h6
   have hr:Region.ready .any l.toArray li=[]:=by
    rw[List.eq_nil_iff_forall_not_mem]
    intro k hk
    rw[mem_ready]at hk
    obtain⟨h1,o,ho,_⟩:=hk
    have gn:k<l.length:=by have:=(Array.getElem?_eq_some_iff.1 ho).1;simpa using this
    have:=List.countP_eq_zero.1 (Nat.le_zero.1 gd) k (List.mem_range.2 gn)
    have gp:k<li.size:=by omega
    simp[Array.getD,gp]at this h1
    rw[this]at h1;cases h1
   exact⟨hr,gb li C a hl h6 hr⟩
  |succ fuel ih=>
   intro li C a hl gd h6
   refine⟨gb li C a hl h6,fun i hi=>?_⟩
   rw[mem_ready]at hi
   obtain⟨h1,oi,ho,ge⟩:=hi
   have hy:i<l.length:=by have:=(Array.getElem?_eq_some_iff.1 ho).1;simpa using this
   have gf:i<li.size:=by omega
   have g4:li.getD i false=false:=by simpa[Array.getD,gf]using h1
   have g0:l[i]? =some oi:=by simpa using ho
   obtain⟨_,ri,hp⟩:=gm i hy
   have h5:∀j∈bu oi,li.getD j false=true:=by
    intro j hj
    obtain⟨e,he,rfl⟩:=ahj.1 hj
    obtain⟨g8,gz⟩:=List.mem_filter.1 he
    exact ge e (by simpa using g8) gz
   have g6:(fun k=>(li.setIfInBounds i true).getD k false)=cf (fun k=>li.getD k false) i:=by
    funext k
    unfold cf
    by_cases e:k=i
    ·subst e;simp[Array.getD,gf]
    ·rw[ag1 e];exact getD_set_ne false (fun h=>e h.symm)
   have hq:(List.range l.length).countP (fun k=>!(li.setIfInBounds i true).getD k false)<=fuel:=by
    have g3:(List.range l.length).countP (fun k=>!(li.setIfInBounds i true).getD k false)<(List.range l.length).countP (fun k=>!li.getD k false):=by
     have e1:∀k,(li.setIfInBounds i true).getD k false=cf (fun k=>li.getD k false) i k:=fun k=>congrFun g6 k
     simp only[e1]
     refine oz (List.mem_range.2 hy) (by simp[g4]) (by simp[cf]) (fun k hk=>?_)
     simp only[cf]
     split<;>simp
    omega
   have hg:∀t∈oi.looksAt l.toArray,tvX l rs s (fun k=>li.getD k false) l.length t=(kf l rs i s).τ t:=fun t ht=>N3 hc h9 h0 h6.closed hy g0 hp g4 h5 ht
   have hn:dx l.toArray (cf (fun k=>li.getD k false) i):=by
    intro k o hk hs j hj
    unfold cf at hs ⊢
    by_cases e:j=i
    ·simp[e]
    ·rw[ag1 e]
     by_cases e1:k=i
     ·subst e1
      rw[ho]at hk
      cases hk
      exact h5 j hj
     ·rw[ag1 e1]at hs
      exact h6.closed k o hk hs j hj
   have g5:=h0 i oi ri g0 hp
   have ha:=gk ri (List.mem_of_getElem? hp)
   have hτ:=P8 (s:=s) hc h9 h0 h6.closed hy g0 hp g4 h5
   have hη:=Qa (s:=s) hc h9 h0 h6.closed hy g0 hp g4 h5
   have hu:∀(C':Ctx),(∀id,C'.U id->C.U id\/ri.D id=true)->∀id,C'.U id->C1.U id\/∃k,k<l.length/\cf (fun k=>li.getD k false) i k=true/\DX rs k id=true:=by
    intro C' hU id h7
    rcases hU id h7 with h2|h2
    ·rcases h6.used id h2 with h3|⟨k,hk,gg,f0⟩
     ·exact .inl h3
     ·exact .inr ⟨k,hk,by simp only[cf];split<;>simp_all,f0⟩
    ·exact .inr ⟨i,hy,by simp[cf],by rw[qj hp];exact h2⟩
   unfold wpOpIn
   simp only[ho]
   rcases g5.how with⟨gq,hL⟩|⟨gq,hv,f1,f2⟩
   ·rw[eg (s:=⟨tvX l rs s (fun k=>li.getD k false) l.length,hvX rs s (fun k=>li.getD k false) l.length,s'.u⟩) ((ka hg).trans gq) h6.rel (iv.guard g5.dst)]
    simp only[if_true]
    obtain⟨η2,f3,hη2⟩:∃η2,re P oi (kf l rs i s).τ η2 ri/\∀id,ri.F.testBit id=true->hvX rs s (fun k=>li.getD k false) l.length id=η2 id:=by
     by_cases gr:(∀y,ri.D y=false)/\ri.F.testBit sa=true
     ·obtain⟨m,f4,f5⟩:=Gy (rs:=rs) (s:=s) (S:=fun k=>li.getD k false) h9 sa l.length (ag8 _)
      refine⟨_,hc.soft i oi ri g0 hp gr.1 gr.2 m f4,fun id h7=>?_⟩
      by_cases e:id=sa
      ·subst e;rw[am];exact f5
      ·rw[aq _ _ e]
       exact T1 hc h9 h0 h6.closed hy g0 hp g4 h5 h7 (fun e1=>absurd e1 e)
     ·exact⟨_,hL,fun id h7=>T1 hc h9 h0 h6.closed hy g0 hp g4 h5 h7 (fun e1 h1=>gr ⟨h1,by rw[<-e1];exact h7⟩)⟩
    refine Zv hF (iv.nd g5.dst) (f3 C a h6.rel.good (fun x hx=>?_) (fun id h7=>?_) (fun id gh g3 hU=>?_) _ _ fun x C' hη' gs f6 gw f7=>?_)
    ·rw[<-wv hg hx];exact h6.rel.eval x
    ·rw[h6.rel.η id (ha.rd id h7)];exact hη2 id h7
    ·have f8:ri.D id=true:=Rc.D_iff.2 (.inr ⟨gh,g3⟩)
     have h0i:=hh 0 i (by omega) (by omega)
     rw[fc]at h0i
     have hui:=g5.u
     rcases h6.used _ hU with h3|⟨k,hk,gg,g1⟩
     ·rw[gl]at h3
      exact g2.free id (by omega) (by have:=ha.u;omega) h3
     ·by_cases e:k=i
      ·subst e;rw[g4]at gg;cases gg
      ·obtain⟨gx,rk,gi⟩:=gm k hk
       rw[qj gi]at g1
       rcases vb hc h6.closed hy g0 hp g4 h5 e gx gi with⟨hlt',_⟩|⟨_,h4⟩|h4
       ·have:=ga k _ _ hk gx gi id g1
        have:=hh (k+1) i (by omega) (by omega)
        omega
       ·rw[h4]at gg;cases gg
       ·rw[h4.h3 id f8]at g1;cases g1
    ·have gt:∀id,s'.u<=id->id<M->¬C'.U id:=by
      intro id gh g3 h7
      rcases gs id h7 with h2|h2
      ·exact h6.rel.free id gh g3 h2
      ·have:=ga i oi ri hy g0 hp id h2
       have:=hh (i+1) l.length (by omega) (by omega)
       rw[<-hz]at this
       omega
     have h8:=h6.rel.put gw f6 (η':=hvX rs s (cf (fun k=>li.getD k false) i) l.length) (fun id h7=>by rw[hη' id,<-hη id,h6.rel.η id h7]) gt (iv.dst g5.dst) f7
     simp only at h8
     rw[hτ]at h8
     refine ih _ C' _ (by simpa using hl) hq ?_
     rw[g6]
     exact⟨h8,hn,hu C' gs,h6.fr.trans ⟨gw,fun id h7=>by rw[hη' id,ag1 (fun hd=>h7 (ha.wd id hd))],fun id h7=>(gs id h7).imp (fun h=>h) (ha.wd id)⟩⟩
   ·rw[eg (s:=⟨tvX l rs s (fun k=>li.getD k false) l.length,hvX rs s (fun k=>li.getD k false) l.length,s'.u⟩) ((ka hg).trans gq) h6.rel (iv.guard g5.dst)]
    simp only[Bool.false_eq_true,if_false]
    have f9:=g5.skip_D ⟨f1,f2⟩
    have h8:=h6.rel.put (Ev.refl C) h6.rel.good (η':=hvX rs s (cf (fun k=>li.getD k false) i) l.length) (u':=s'.u) (fun id h7=>by rw[<-hη id,f9 id];exact h6.rel.η id h7) h6.rel.free (iv.dst g5.dst) (VR.v C undef)
    simp only at h8
    rw[<-hv,hτ]at h8
    refine⟨fun _ _=>hF.fn _,ih _ C _ (by simpa using hl) hq ?_⟩
    rw[g6]
    exact⟨h8,hn,hu C (fun id h=>.inl h),h6.fr⟩
 refine wpIn_region_any hm ?_
 have e0:(fun k=>(Array.replicate l.toArray.size false).getD k false)=fun _=>false:=by
  funext k;simp[Array.getD]
 have g7:InX DS RD WD N l rs s M s'.u C1 (fun _=>false) C1 a0:=by
  have e1:tvX l rs s (fun _=>false) l.length=s.τ:=by
   have:∀m,tvX l rs s (fun _=>false) m=s.τ:=by
    intro m
    induction m with
    |zero=>rfl
    |succ m ih=>funext t;simp[tvX,ih]
   exact this _
  have e2:hvX rs s (fun _=>false) l.length=s.η:=by
   have:∀m,hvX rs s (fun _=>false) m=s.η:=by
    intro m
    induction m with
    |zero=>rfl
    |succ m ih=>funext t;simp[hvX,ih]
   exact this _
  have h0n:=hh 0 l.length (by omega) (ag8 _)
  rw[fc,<-hz]at h0n
  refine⟨?_,fun k o _ hk=>(by cases hk),fun id h7=>.inl h7,FrX.refl _⟩
  rw[e1,e2]
  refine⟨gu,fun id h7=>by rw[hη1];exact g2.η id h7,fun id gh g3 hU=>?_,g2.defers,g2.size,fun t=>(g2.τ t).mono g2.good g8⟩
  rw[gl]at hU
  have hle':s'.u<=id:=gh
  exact g2.free id (by omega) g3 hU
 have:=key l.toArray.size (Array.replicate l.toArray.size false) C1 a0 (by simp) (by
  have:=List.countP_le_length (p:=fun k=>!(Array.replicate l.toArray.size false).getD k false) (l:=List.range l.length)
  simpa using this) (by rw[e0];exact g7)
 rw[hw]at this
 exact this
end
def VRs(C:Ctx)(as:List AV)(vs:Array Value):Prop:=as.length=vs.size/\∀i (h:i<as.length) (h':i<vs.size),VR C as[i] vs[i]
def Fd(P:Program)(f:FuncId)(args:List AV)(η:bf)(r:Rc):Prop:=
 ∀(C:Ctx) (vals:Array Value),Good C->VRs C args vals->(∀id,r.F.testBit id=true->C.η id=η id)->(∀id,r.u0<=id->id<r.u->¬C.U id)->
  Calls P f vals C.w (fun e w'=>∃x C',e=.returned x/\C'.w=w'/\(∀id,C'.η id=if r.D id=true then r.η id else C.η id)/\(∀id,C'.U id->C.U id\/r.D id=true)/\Good C'/\Ev C C'/\VR C' r.v x)
section
variable{P:Program}{τ:Nat->AV}{η:bf}{d:Option Tmp}{ty:TypeId}{pos:String}{af:Array Edge}{g:Option (Nat×Bool)}
theorem re.call{g0:Operand}{f:FuncId}{caps:List AV}{xs:Array Operand}{ats:Array TypeId}{r:Rc}(hb:bv P f=true)(ha:aev τ g0=.clo f caps)(hc:Fd P f (xs.toList.map (aev τ)++caps) η r):
 re P ⟨d,.call {callee:=.value g0,args:=xs,argTypes:=ats},ty,pos,af,g⟩ τ η r:=by
 intro C a hg h9 hF hN K Q hK
 have h0:=h9 g0 (by simp[Op.operands,Call.operands])
 rw[ha]at h0
 obtain⟨vs,hv,hl,hi⟩:=h0.clo_inv
 have h6:VRs C (xs.toList.map (aev τ)++caps) (xs.map a.eval++vs):=by refine⟨by simp[hl],fun i h h'=>?_⟩;by_cases h7:i<xs.size;have e1:(xs.toList.map (aev τ)++caps)[i]=aev τ xs[i]:=(by rw[List.getElem_append_left (by simpa using h7)];simp);have e2:(xs.map a.eval++vs)[i]=a.eval xs[i]:=(by rw[Array.getElem_append_left (by simpa using h7)];simp);rw[e1,e2];exact h9 _ (by simp[Op.operands,Call.operands]);have e1:(xs.toList.map (aev τ)++caps)[i]=caps[i-xs.size]'(by simp at h;omega):=(by rw[List.getElem_append_right (by simpa using h7)];simp);have e2:(xs.map a.eval++vs)[i]=vs[i-xs.size]'(by simp at h';omega):=(by rw[Array.getElem_append_right (by simpa using h7)];simp);rw[e1,e2];exact hi _ _ _
 have h8:(execOp a.eval ⟨d,.call {callee:=.value g0,args:=xs,argTypes:=ats},ty,pos,af,g⟩).run P C.w=.ok (.enter f (xs.map a.eval++vs)) C.w:=by have e:(execOp a.eval ⟨d,.call {callee:=.value g0,args:=xs,argTypes:=ats},ty,pos,af,g⟩).run P C.w=(callFunc f (#[]++xs.map a.eval++vs)).run P C.w:=(by have e0:execOp a.eval ⟨d,.call {callee:=.value g0,args:=xs,argTypes:=ats},ty,pos,af,g⟩=(do let dd<-Deferred.ofValue (a.eval g0) (xs.map a.eval);invoke dd.target dd.args):=rfl;rw[e0,hv];rfl);rw[e,d9 hb];simp
 unfold Oper.wp
 rw[h8]
 refine Calls.mono (hc C _ hg h6 hF hN) ?_
 rintro e w' ⟨x,C',rfl,rfl,h1,h2,h3,h4,h5⟩
 exact hK x C' h1 h2 h3 h4 h5
end
def Xu(P:Program)(RD:Nat->Prop)(M N:Nat)(fn:Func)(s:St)(ret:AV):Prop:=
 ∀DS C a,SRelX DS RD M N C s a->∃x,(results fn a.tmps).run P C.w=.ok x C.w/\VR C ret x
theorem Fd.of_body{P:Program}{f:FuncId}{fn:Func}{c:Code}{N:Nat}{args:List AV}{η:bf}{r:Rc}(hf:P.funcs[f]? =some fn)(hb:fn.body=some c)(hN:fn.ntmps=N)(hl:args.length<=N){τ0:Nat->AV}(hτ0:τ0=b7 args)(h6:Fits η r)(hηn:∀id,r.u0<=id->η id=none)
 (h:tq P (fun id=>r.F.testBit id=true\/(r.u0<=id/\id<r.u)) (fun id=>r.D id=true) r.u N c (fun e s'=>(e=.normal\/e=.ret)/\(∀id,r.D id=true->s'.η id=r.η id)/\Xu P (fun id=>r.F.testBit id=true\/(r.u0<=id/\id<r.u)) r.u N fn s' r.v) ⟨τ0,η,r.u0⟩):Fd P f args η r:=by
 intro C vals hg ⟨hlen,hv⟩ hF h8
 subst hτ0
 have h4:∀id,r.u0<=id->id<r.u->C.η id=none:=fun id h1 h2=>by
  cases hb':C.η id with
  |none=>rfl
  |some b=>exact absurd (hg.used hb') (h8 id h1 h2)
 have hr:SRelX [] (fun id=>r.F.testBit id=true\/(r.u0<=id/\id<r.u)) r.u N C ⟨b7 args,η,r.u0⟩ {tmps:=vals++Array.replicate (fn.ntmps-vals.size) undef,defers:=[]}:=by
  refine⟨hg,fun id h9=>h9.elim (hF id) (fun h=>(h4 id h.1 h.2).trans (hηn id h.1).symm),h8,rfl,by simp;omega,fun t=>?_⟩
  simp only[Act.eval,b7]
  by_cases ht:t<args.length
  ·have h1:args.getD t (.v undef)=args[t]:=by simp[List.getD,ht]
   have h2:(vals++Array.replicate (fn.ntmps-vals.size) undef).getD t undef=vals[t]'(by omega):=by
    rw[Array.getD_eq_getD_getElem?,Array.getElem?_append_left (by omega)]
    simp[show t<vals.size by omega]
   rw[h1,h2]
   exact hv t ht (by omega)
  ·have h1:args.getD t (.v undef)=.v undef:=by simp[List.getD,List.getElem?_eq_none (Nat.le_of_not_lt ht)]
   have h2:(vals++Array.replicate (fn.ntmps-vals.size) undef).getD t undef=undef:=by
    rw[Array.getD_eq_getD_getElem?,Array.getElem?_append_right (by omega)]
    rw[Array.getElem?_replicate]
    split<;>rfl
   rw[h1,h2]
   exact VR.v _ _
 refine calls_of_wp hf hb (wpIn_wide.1 (Code.wpIn_mono ?_ (h Fence.wide FOk.wide 0 [] C _ hr)))
 rintro e a' w' ⟨s',C',⟨he,hη',ho⟩,rfl,h5,h7⟩
 obtain⟨x,h1,h2⟩:=ho [] C' a' h5
 have h0:∃x' C'',(Ending.returned x)=.returned x'/\C''.w=C'.w/\(∀id,C''.η id=if r.D id=true then r.η id else C.η id)/\(∀id,C''.U id->C.U id\/r.D id=true)/\Good C''/\Ev C C''/\VR C'' r.v x':=by
  refine⟨x,C',rfl,rfl,fun id=>?_,h7.U,h5.good,h7.ev,h2⟩
  by_cases hd:r.D id=true
  ·rw[ag2 hd,<-hη' id hd]
   refine h5.η id ?_
   rcases Rc.D_iff.1 hd with h3|h3
   ·exact .inl (h6.sub id h3)
   ·exact .inr h3
  ·rw[ag1 hd]
   exact h7.η id hd
 rcases he with rfl|rfl
 ·exact⟨h5.defers,x,h1,h0⟩
 ·exact⟨h5.defers,x,h1,h0⟩
theorem yq{P:Program}{f:FuncId}{args:List AV}{r:Rc}{ret:AV}{fp:List Nat}(h4:Fits m4 r)(hr:FzP fp r.η r.v ret)(h:Fd P f args m4 r):eu P f args ret:=by
 intro T w vals ⟨h5,hv⟩ hT;let C:Ctx:=⟨fun _=>(0,0),fun _=>0,m4,fun _=>False,T,w⟩
 have h3:∀k,¬C.mine k:=by rintro k ⟨_,⟨_,h,_⟩,_⟩;cases h
 have hg:Good C:={used:=fun h=>(by cases h),obj:=fun h=>(by cases h),blk:=fun h=>(by cases h),inj:=fun h _=>(by obtain⟨_,h,_⟩:=h;cases h),tok:=hT,apart:=fun h _=>h3 _ h,tight:=fun h=>(by cases h)};refine Calls.mono (h C vals hg ⟨h5,fun i h h'=>.imm (hv i h h')⟩ (fun id hid=>rfl) (fun id _ _ hU=>hU)) ?_;rintro e w' ⟨x,C',rfl,rfl,h1,h2,h6,h0,hx⟩
 have hη:C'.η=r.η:=by
  funext id;rw[h1 id];by_cases hd:r.D id=true;rw[ag2 hd];rw[ag1 hd,h4.same id (by simpa using hd)]
 have h2:=hr C' h6 (fun id _=>by rw[hη]) x hx;refine⟨x,fun b=>C'.T b\/C'.mine b,rfl,h2.mono (fun b hb=>hb.imp (fun h=>h) bj) (fun _ _=>rfl),fun b hb=>.inl (h0.T b hb),?_,?_,⟨h0.os,h0.tape,h0.output,h0.size,fun k hk=>h0.keep k hk (h3 k)⟩⟩;rintro b (hb|hb);rcases h0.Tnew b hb with h|h|h;exact .inl h;exact absurd h (h3 b);exact .inr h;rcases h0.mine b hb with h|h;exact absurd h (h3 b);exact .inr h;rintro b (hb|hb);exact h6.tlt hb;exact cr h6 hb
def acn(P:Program)(RD:Nat->Prop)(M N:Nat)(s:St)(r:ResultVar)(ret:AV):Prop:=
 ∀DS C a,SRelX DS RD M N C s a->∃x,(Gg a.tmps r).run P C.w=.ok x C.w/\VR C ret x
section
variable{P:Program}{RD:Nat->Prop}{M N:Nat}{s:St}{fn:Func}
theorem acn.tmp{t:Nat}{v:AV}(h:s.τ t=v):acn P RD M N s (.tmp t) v:=by subst h;exact fun DS C a hs=>⟨a.tmps.getD t undef,by simp[Gg],hs.τ t⟩
theorem I7{v:AV}{t ty id ver o:Nat}{b:Blk}(ht:c9 P ty=some none)(hx:s.τ t=.ptr id ver o)(hb:s.η id=some b)(hR:RD id)(hv:b.ver=ver)(hn:b.nilp=false)(hc:b.cs[o]? =some v):acn P RD M N s (.cell t ty) v:=by intro DS C a hs;have hb':C.η id=some b:=(by rw[hs.η id hR];exact hb);have h1:=hs.τ t;rw[hx]at h1;have h2:=h1.ptr_inv hb' hv;simp only[Act.eval]at h2;obtain⟨h4,he⟩:=ahn.1 hc;obtain⟨y,hy,h3⟩:=hs.good.cell hb' hn h4;rw[he]at h3;have h0:=pq (P:=P) ht (b:=(C.ρ id).1) (o:=(C.ρ id).2+o) (w:=C.w) hy;refine⟨y,?_,h3⟩;simp only[Instr.loadAt,Instr.sureAddr,Sem.run_bind,ahd,ahc]at h0;simp only[Gg,h2,asAddr,Sem.run_bind,ahd,ahc];exact h0
theorem acn.cellN{t ty n id ver o:Nat}{b:Blk}{ds:List AV}(ht:c9 P ty=some (some n))(hx:s.τ t=.ptr id ver o)(hb:s.η id=some b)(hR:RD id)(hv:b.ver=ver)(hn:b.nilp=false)(hd:co o n b.cs=some ds):acn P RD M N s (.cell t ty) (.agg ds):=by intro DS C a hs;have hb':C.η id=some b:=(by rw[hs.η id hR];exact hb);have h1:=hs.τ t;rw[hx]at h1;have h2:=h1.ptr_inv hb' hv;simp only[Act.eval]at h2;obtain⟨hl,rfl⟩:=du _ _ _ _ hd;obtain⟨fcell,h4⟩:=d7 (n:=n) (p:=fun j y=>C.w.cell? ⟨(C.ρ id).1,(C.ρ id).2+o+j,none⟩=some y/\VR C (b.cs.getD (o+j) .unk) y) (fun j hj=>by obtain⟨y,hy,h5⟩:=hs.good.cell hb' hn (j:=o+j) (by omega);refine⟨y,by rw[<-hy];congr 2;omega,have:b.cs.getD (o+j) .unk=b.cs[o+j]'(by omega):=(by simp[List.getD,show o+j<b.cs.length by omega]);?_⟩;rw[this];exact h5);have h3:((List.range n).map fcell).length=n:=(by simp);have h0:=mh (P:=P) ht (b:=(C.ρ id).1) (o:=(C.ρ id).2+o) (w:=C.w) h3 (fun j v hj=>by obtain⟨h6,he⟩:=ahn.1 hj;simp only[List.getElem_map,List.getElem_range]at he;subst he;exact(h4 j (by simpa using h6)).1);exact⟨.agg ((List.range n).map fcell).toArray,by simp only[Instr.loadAt,Instr.sureAddr,Sem.run_bind,ahd,ahc]at h0;simp only[Gg,h2,asAddr,Sem.run_bind,ahd,ahc];exact h0,.agg (by simp;omega) (fun i hi h7=>by have h8:i<n:=(by simpa using h7);simp only[List.getElem_toArray,List.getElem_map,List.getElem_range];have:=(h4 i h8).2;have e:(List.take n (List.drop o b.cs))[i]=b.cs.getD (o+i) .unk:=(by simp[List.getD,show o+i<b.cs.length by omega]);rw[e];exact this)⟩
inductive AllX(P:Program)(RD:Nat->Prop)(M N:Nat)(s:St):List ResultVar->List AV->Prop where
 |nil:AllX P RD M N s [] []
 |cons {r:ResultVar} {v:AV} {l:List ResultVar} {vs:List AV}:acn P RD M N s r v->AllX P RD M N s l vs->AllX P RD M N s (r :: l) (v :: vs)
theorem AllX.run{l:List ResultVar}{vs:List AV}(h:AllX P RD M N s l vs):∀DS C a,SRelX DS RD M N C s a->∃xs:List Value,(l.mapM (Gg a.tmps)).run P C.w=.ok xs C.w/\vs.length=xs.length/\∀i (h:i<vs.length) (h':i<xs.length),VR C vs[i] xs[i]:=by
 induction h with
 |nil=>intro DS C a hs;exact⟨[],by simp,rfl,fun i h=>absurd h (by simp)⟩
 |cons h1 _ ih=>
  intro DS C a hs
  obtain⟨x,e1,v1⟩:=h1 DS C a hs
  obtain⟨xs,e2,hl,v2⟩:=ih DS C a hs
  refine⟨x::xs,by simp[Sem.run_bind,Result.andThen,e1,e2],by simp[hl],fun i h h'=>?_⟩
  cases i with
  |zero=>exact v1
  |succ i=>exact v2 i (by simpa using h) (by simpa using h')
def Sz:List AV->AV
 |[v]=>v
 |vs=>.tup vs
theorem oa{vs:List AV}(h:AllX P RD M N s fn.results.toList vs):Xu P RD M N fn s (Sz vs):=by
 intro DS C a hs;obtain⟨xs,e,hl,hv⟩:=h.run DS C a hs;have hh:results fn a.tmps=(do let vs<-fn.results.mapM (Gg a.tmps);pure (if h:vs.size=1 then vs[0]else .tuple vs)):=by unfold results;congr 1
 have hm:(fn.results.mapM (Gg a.tmps)).run P C.w=.ok xs.toArray C.w:=by rw[Array.mapM_eq_mapM_toList];simp[Sem.run_bind,Result.andThen,e]
 refine⟨if h:xs.toArray.size=1 then xs.toArray[0]else .tuple xs.toArray,by rw[hh,Sem.run_bind,hm];rfl,?_⟩;match vs,xs,hl,hv with
 |[v],[x],_,hv=>exact hv 0 (by simp) (by simp)
 |[],[],_,_=>exact .tup rfl (fun i h=>absurd h (by simp))
 |v1::v2::vs,x1::x2::xs,hl,hv=>
  have:¬((x1::x2::xs).toArray.size=1):=by simp
  rw[dif_neg this]
  exact .tup (by simpa using hl) (fun i h h'=>by simpa using hv i h (by simpa using h'))
end
def l6{α:Type}(n:Nat)(k:Nat->Option α):Option α:=match n with
 |0=>k 0
 |.succ m=>k (.succ m)
theorem ij{α:Type}(n:Nat)(k:Nat->Option α):l6 n k=k n:=by cases n<;>rfl
structure ESX where
 t:Tri AV
 h:Tri (Option Blk)
 u:Nat
 rd:Nat
 wr:Nat
def ESX.st(E:ESX):St:=⟨bc E.t,be E.h,E.u⟩
structure Rx where
 F:Nat
 W:Nat
 u0:Nat
 u:Nat
 h:Tri (Option Blk)
 v:AV
def Rx.rc(r:Rx):Rc:=⟨r.F,r.W,r.u0,r.u,be r.h,r.v⟩
def Ax(h:Tri (Option Blk))(u:Nat):Prop:=∀id,u<=id->be h id=none
def cm:=Oper->ESX->Option Rx
def cm.Ok(P:Program)(f:cm):Prop:=∀o E r,Ax E.h E.u->f o E=some r->r.u0=E.u/\Fits (be E.h) r.rc/\re P o (bc E.t) (be E.h) r.rc
def Mm{α:Type}(i:Int)(k:Int->Option α):Option α:=match i with
 |.ofNat n=>l6 n fun n=>k (.ofNat n)
 |.negSucc n=>l6 n fun n=>k (.negSucc n)
theorem Ml{α:Type}(i:Int)(k:Int->Option α):Mm i k=k i:=by cases i<;>simp[Mm,ij]
def Tf{α:Type}(b:Bool)(k:Bool->Option α):Option α:=match b with
 |true=>k true
 |false=>k false
theorem Mn{α:Type}(b:Bool)(k:Bool->Option α):Tf b k=k b:=by cases b<;>rfl
def Mo{α:Type}(v:AV)(k:AV->Option α):Option α:=match v with
 |.v x=>match x with
  |.int j i=>Mm i fun i=>k (.v (.int j i))
  |.bool b=>Tf b fun b=>k (.v (.bool b))
  |x=>k (.v x)
 |.ptr a b c=>l6 a fun a=>l6 b fun b=>l6 c fun c=>k (.ptr a b c)
 |.sl a b c d=>l6 a fun a=>l6 b fun b=>l6 c fun c=>l6 d fun d=>k (.sl a b c d)
 |.tree n rows=>k (.tree n rows)
 |.tp cs o=>l6 o fun o=>k (.tp cs o)
 |.clo f caps=>k (.clo f caps)
 |.agg cs=>k (.agg cs)
 |.tup vs=>k (.tup vs)
 |.unk=>k .unk
 |.mp a b=>l6 a fun a=>l6 b fun b=>k (.mp a b)
 |.it a b=>l6 a fun a=>l6 b fun b=>k (.it a b)
theorem Cc{α:Type}(v:AV)(k:AV->Option α):Mo v k=k v:=by unfold Mo;split;split<;>simp[Ml,Mn];all_goals simp[ij]
def ESX.step(E:ESX)(dst:Option Nat)(r:Rx):Option ESX:=
 l6 (Nat.lor E.rd r.F) fun rd=>l6 (Nat.lor E.wr r.W) fun wr=>l6 r.u fun u=>match dst with
  |none=>some ⟨E.t,r.h,u,rd,wr⟩
  |some d=>Mo r.v fun v=>match Tri.set 24 E.t d v with
   |some t=>some ⟨t,r.h,u,rd,wr⟩
   |none=>none
theorem ir{E E':ESX}{o:Oper}{r:Rx}(h:E.step o.dst r=some E'):E'.st=rz o r.rc E.st/\E'.h=r.h/\E'.u=r.u/\E'.rd=E.rd|||r.F/\E'.wr=E.wr|||r.W:=by
 unfold ESX.step at h;rw[ij,ij,ij]at h;cases e2:o.dst with
 |none=>
  rw[e2]at h
  simp only[agw]at h
  subst h
  exact⟨by simp only[ESX.st,rz,e2,j1,Rx.rc],rfl,rfl,rfl,rfl⟩
 |some d=>
  rw[e2]at h
  simp only[Cc]at h
  cases e3:Tri.set 24 E.t d r.v with
  |none=>rw[e3]at h;cases h
  |some t1=>
   rw[e3]at h
   simp only[agw]at h
   subst h
   exact⟨by simp only[ESX.st,rz,e2,j1,Rx.rc,u3 e3],rfl,rfl,rfl,rfl⟩
structure Mono(E E':ESX):Prop where
 rd:∀id,E.rd.testBit id=true->E'.rd.testBit id=true
 wr:∀id,E.wr.testBit id=true->E'.wr.testBit id=true
 u:E.u<=E'.u
 h:∀id,id<E.u->E'.wr.testBit id=false->be E'.h id=be E.h id
 low:Ax E.h E.u->Ax E'.h E'.u
 sub:(∀id,E.wr.testBit id=true->E.rd.testBit id=true)->∀id,E'.wr.testBit id=true->E'.rd.testBit id=true
 lrd:(∀id,E.rd.testBit id=true->id<E.u)->∀id,E'.rd.testBit id=true->id<E'.u
theorem Mono.refl(E:ESX):Mono E E:=⟨fun _ h=>h,fun _ h=>h,ag8 _,fun _ _ _=>rfl,fun h=>h,fun h=>h,fun h=>h⟩
theorem Mono.trans{A B C:ESX}(h:Mono A B)(k:Mono B C):Mono A C where
 rd:=fun id h0=>k.rd id (h.rd id h0)
 wr:=fun id h0=>k.wr id (h.wr id h0)
 u:=ahb h.u k.u
 h:=fun id h0 hw=>by
  have:B.wr.testBit id=false:=by
   cases hb:B.wr.testBit id with
   |false=>rfl
   |true=>rw[k.wr id hb]at hw;cases hw
  rw[k.h id (Nat.lt_of_lt_of_le h0 h.u) hw,h.h id h0 this]
 low:=fun hl=>k.low (h.low hl)
 sub:=fun hs=>k.sub (h.sub hs)
 lrd:=fun hs=>k.lrd (h.lrd hs)
theorem kx{E E':ESX}{r:Rx}(h1:E'.h=r.h)(h2:E'.u=r.u)(h3:E'.rd=E.rd|||r.F)(h4:E'.wr=E.wr|||r.W)(hu:r.u0=E.u)(hf:Fits (be E.h) r.rc):Mono E E':=by
 have hu0:r.rc.u0=E.u:=hu
 have hle:r.rc.u0<=r.rc.u:=hf.le
 have hru:r.rc.u=r.u:=rfl
 refine⟨fun id h0=>by rw[h3,Nat.testBit_or,h0];rfl,fun id h0=>by rw[h4,Nat.testBit_or,h0];rfl,by omega,fun id h0 hw=>?_,fun hl id h0=>?_,fun hs id h0=>?_,fun hs id h0=>?_⟩
 ·rw[h1]
  refine hf.same id ?_
  cases hd:r.rc.D id with
  |false=>rfl
  |true=>
   rcases Rc.D_iff.1 hd with h5|h5
   ·rw[h4,Nat.testBit_or,show r.W.testBit id=true from h5]at hw
    simp at hw
   ·omega
 ·rw[h1]
  have:r.rc.D id=false:=by
   cases hd:r.rc.D id with
   |false=>rfl
   |true=>
    rcases Rc.D_iff.1 hd with h5|h5
    ·have:=hf.low id (hf.sub id h5);omega
    ·omega
  exact(hf.same id this).trans (hl id (by omega))
 ·rw[h4,Nat.testBit_or,Bool.or_eq_true]at h0
  rw[h3,Nat.testBit_or,Bool.or_eq_true]
  exact h0.imp (hs id) (hf.sub id)
 ·rw[h3,Nat.testBit_or,Bool.or_eq_true]at h0
  rcases h0 with h5|h5
  ·have:=hs id h5;omega
  ·have:=hf.low id h5;omega
def jz(f:cm)(ops:Array Oper):List Oper->ESX->Option (List Rx×ESX)
 |[],E=>some ([],E)
 |o::l,E=>
  match m3 ops (bc E.t) o with
  |none=>none
  |some false=>
   match E.step o.dst ⟨0,0,E.u,E.u,E.h,.v undef⟩with
   |none=>none
   |some E'=>match jz f ops l E' with
    |none=>none
    |some (rs,E'')=>some (⟨0,0,E.u,E.u,E.h,.v undef⟩::rs,E'')
  |some true=>
   match f o E with
   |none=>none
   |some r=>
    match E.step o.dst r with
    |none=>none
    |some E'=>match jz f ops l E' with
     |none=>none
     |some (rs,E'')=>some (r::rs,E'')
structure RunOk(E E':ESX)(r:Rx):Prop where
 F:∀id,r.F.testBit id=true->E'.rd.testBit id=true
 W:∀id,r.W.testBit id=true->E'.wr.testBit id=true
 u0:E.u<=r.u0
 u:r.u<=E'.u
theorem Cd{η:bf}{u:Nat}{h:Tri (Option Blk)}{v:AV}(hη:be h=η):Fits η (Rx.rc ⟨0,0,u,u,h,v⟩):=⟨ag8 _,fun id _=>by rw[<-hη];rfl,fun id h0=>h0,fun id h0=>by have:(0:Nat).testBit id=true:=h0;simp at this⟩
theorem x6{P:Program}{N:Nat}{f:cm}(hf:f.Ok P){ops:Array Oper}:∀(l:List Oper) (E E':ESX) (rs:List Rx),(∀o∈l,iv N ops o=true)->Ax E.h E.u->jz f ops l E=some (rs,E')->
 SeqX P N ops l E.st (rs.map Rx.rc) E'.st/\Mono E E'/\∀r∈rs,RunOk E E' r:=by
 intro l
 induction l with
 |nil=>
  intro E E' rs hd hl h
  simp only[jz,agw,Prod.mk.injEq]at h
  obtain⟨rfl,rfl⟩:=h
  exact⟨.nil,Mono.refl _,fun r hr=>by cases hr⟩
 |cons o l ih=>
  intro E E' rs hd hl h
  simp only[jz]at h
  have h4:=hd o (by simp)
  have h5:∀o∈l,iv N ops o=true:=fun o ho=>hd o (by simp[ho])
  have main:∀(r:Rx) (E1:ESX) (rs1:List Rx),r.u0=E.u->Fits (be E.h) r.rc->((m3 ops E.st.τ o=some true/\re P o E.st.τ E.st.η r.rc)\/(m3 ops E.st.τ o=some false/\r.rc.v=.v undef/\r.rc.F=0/\r.rc.u=E.st.u))->E.step o.dst r=some E1->jz f ops l E1=some (rs1,E')->
   SeqX P N ops (o::l) E.st ((r::rs1).map Rx.rc) E'.st/\Mono E E'/\∀r'∈r::rs1,RunOk E E' r':=by
   intro r E1 rs1 hu h0 h1 hs hr
   obtain⟨s1,s2,s3,s4,s5⟩:=ir hs
   have m1:Mono E E1:=kx s2 s3 s4 s5 hu h0
   obtain⟨i1,i2,i3⟩:=ih E1 E' rs1 h5 (m1.low hl) hr
   refine⟨.cons ⟨h4,hu,h0,h1⟩ (by rw[<-s1];exact i1),m1.trans i2,fun r' h2=>?_⟩
   rcases ahk.1 h2 with rfl|h2
   ·refine⟨fun id h3=>i2.rd id (by rw[s4,Nat.testBit_or,h3];simp),fun id h3=>i2.wr id (by rw[s5,Nat.testBit_or,h3];simp),by omega,?_⟩
    have:=i2.u
    omega
   ·have:=i3 r' h2
    exact⟨this.F,this.W,ahb m1.u this.u0,this.u⟩
  split at h
  ·cases h
  ·rename_i hw
   split at h
   ·cases h
   ·rename_i E1 hs
    split at h
    ·cases h
    ·rename_i rs1 E2 hr
     simp only[agw,Prod.mk.injEq]at h
     obtain⟨rfl,rfl⟩:=h
     exact main _ _ _ rfl (Cd rfl) (.inr ⟨hw,rfl,rfl,rfl⟩) hs hr
  ·rename_i hw
   split at h
   ·cases h
   ·rename_i r ho
    obtain⟨q1,q2,q3⟩:=hf o E r hl ho
    split at h
    ·cases h
    ·rename_i E1 hs
     split at h
     ·cases h
     ·rename_i rs1 E2 hr
      simp only[agw,Prod.mk.injEq]at h
      obtain⟨rfl,rfl⟩:=h
      exact main _ _ _ q1 q2 (.inl ⟨hw,q3⟩) hs hr
def O2(m i:Nat):Bool:=Nat.beq (Nat.land (Nat.shiftRight m i) 1) 1
theorem Hp{m i:Nat}(h:O2 m i=true):m.testBit i=true:=by have h1:=agv h;have h2:(m>>>i)&&& 1=1:=h1;unfold Nat.testBit;rw[Nat.and_comm]at h2;rw[h2];rfl
def qn(ops:Array Oper)(ok:Oper)(m:Nat):List Oper->Nat->Bool
 |[],_=>true
 |oi::l,i=>(O2 m i||Oper.apart ops oi ok)&&qn ops ok m l (i+1)
def F6(ops:Array Oper):List Oper->List Nat->Nat->Bool
 |[],_,_=>true
 |ok::l,ms,k=>(bu ok).all (fun i=>Nat.ble (i+1) k)&&(match ok.op with|.select _ _=>false|_=>true)&&
  (match ms with
  |[]=>false
  |m::ms=>qn ops ok m (ops.toList.take k) 0&&F6 ops l ms (k+1))
def Pl(ops:Array Oper):Bool:=F6 ops ops.toList (t7 ops.toList []) 0
theorem u9{ops:Array Oper}{ok:Oper}{m:Nat}:∀(l:List Oper) (i0:Nat),qn ops ok m l i0=true->∀(i:Nat) (oi:Oper),l[i]? =some oi->m.testBit (i0+i)=true\/Oper.apart ops oi ok=true
 |[],_,_,i,oi,h=>by simp at h
 |o::l,i0,h,i,oi,hi=>by
  simp only[qn,ahs,Bool.or_eq_true]at h;cases i with
  |zero=>
   simp only[List.getElem?_cons_zero,agw]at hi
   subst hi
   exact h.1.imp Hp (fun h=>h)
  |succ i=>
   have:=u9 l (i0+1) h.2 i oi (by simpa using hi)
   rwa [show i0+1+i=i0+(i+1)by omega]at this
theorem Bh{ops:Array Oper}:∀(l:List Oper) (ms:List Nat) (k0:Nat),F6 ops l ms k0=true->∀(j:Nat) (ok:Oper),l[j]? =some ok->(∀i∈bu ok,i<k0+j)/\(∀cs b,ok.op≠.select cs b)/\∃m:Nat,ms[j]? =some m/\qn ops ok m (ops.toList.take (k0+j)) 0=true
 |[],_,_,_,j,ok,h=>by simp at h
 |o::l,ms,k0,h,j,ok,hj=>by
  simp only[F6,ahs]at h
  obtain⟨⟨h1,h2⟩,h3⟩:=h
  cases ms with
  |nil=>cases h3
  |cons m ms=>
   simp only[ahs]at h3
   cases j with
   |zero=>
    simp only[List.getElem?_cons_zero,agw]at hj
    subst hj
    refine⟨fun i hi=>aha (List.all_eq_true.1 h1 i hi),fun cs b e=>(by rw[e]at h2;cases h2),m,rfl,h3.1⟩
   |succ j=>
    obtain⟨g1,g2,m',g3,g4⟩:=Bh l ms (k0+1) h3.2 j ok (by simpa using hj)
    rw[show k0+1+j=k0+(j+1)by omega]at g1 g4
    exact⟨g1,g2,m',by simpa using g3,g4⟩
theorem F5{l:List Oper}(h:Pl l.toArray=true):(∀(k:Nat) (ok:Oper),l[k]? =some ok->(∀i∈bu ok,i<k)/\∀cs b,ok.op≠.select cs b)/\
 ∀(i k:Nat) (oi ok:Oper),i<k->l[i]? =some oi->l[k]? =some ok->Anc l.toArray k i\/Oper.apart l.toArray oi ok=true:=by
 have h1:=Bh _ _ _ h
 refine⟨fun k ok hk=>?_,fun i k oi ok hik hi hk=>?_⟩
 ·obtain⟨g1,g2,_⟩:=h1 k ok (by simpa using hk)
  exact⟨by simpa using g1,g2⟩
 ·obtain⟨_,_,m,hm,hp⟩:=h1 k ok (by simpa using hk)
  have h0:(l.take (0+k))[i]? =some oi:=by rw[List.getElem?_take_of_lt (by omega)];exact hi
  rcases u9 _ _ hp i oi (by simpa using h0)with h2|h2
  ·left
   refine nt l [] (fun j o hj=>by simpa using hj) (fun k i h=>by simp at h) k i ?_
   have:((t7 l []).getD k 0)=m:=by simp only[List.getD];have:(t7 l [])[k]? =some m:=(by simpa using hm);rw[this];rfl
   rw[this]
   simpa using h2
  ·exact .inr h2
def x7(a b:Nat):Nat:=Nat.shiftLeft (Nat.sub (Nat.shiftLeft 1 (Nat.sub b a)) 1) a
theorem H8{a b id:Nat}:(x7 a b).testBit id=true↔(a<=id/\id<b):=by have h:x7 a b=(2^(b-a)-1)<<<a:=(by unfold x7;have h1:Nat.shiftLeft 1 (Nat.sub b a)=2^(b-a):=(by show 1<<<(b-a)=_;rw[Nat.one_shiftLeft]);rw[h1];rfl);rw[h,Nat.testBit_shiftLeft,Nat.testBit_two_pow_sub_one];simp only[ahs,aht];omega
def Rx.dm(r:Rx):Nat:=bif Nat.beq r.u0 r.u then r.W else Nat.lor r.W (x7 r.u0 r.u)
theorem Rx.dm_iff{r:Rx}{id:Nat}:r.dm.testBit id=true↔r.rc.D id=true:=by
 unfold Rx.dm;rw[Rc.D_iff];cases hb:Nat.beq r.u0 r.u with
 |true=>
  have:=agv hb
  simp only[cond_true,Rx.rc]
  constructor
  ·exact .inl
  ·rintro(h|h)
   ·exact h
   ·omega
 |false=>
  simp only[cond_false,Rx.rc]
  rw[show Nat.lor r.W (x7 r.u0 r.u)=r.W|||x7 r.u0 r.u from rfl,Nat.testBit_or,Bool.or_eq_true,H8]
def Bx(f d f' d':Nat):Bool:=Nat.beq (Nat.land d (Nat.lor f' d')) 0&&Nat.beq (Nat.land d' f) 0
theorem qu{a b:Nat}(h:Nat.beq (Nat.land a b) 0=true){x:Nat}(hx:a.testBit x=true):b.testBit x=false:=by have h1:=agv h;have h2:a&&& b=0:=h1;have h3:(a&&& b).testBit x=false:=(by rw[h2];simp);rw[Nat.testBit_and,hx]at h3;simpa using h3
def Ex:List Nat->List Rx->Nat->List (Nat×Nat×Nat)->Bool
 |m::ms,r::rs,k,acc=>bif Nat.beq r.F 0&&Nat.beq r.dm 0 then Ex ms rs (k+1) acc else
  acc.all (fun q=>O2 m q.1||Bx q.2.1 q.2.2 r.F r.dm)&&Ex ms rs (k+1) ((k,r.F,r.dm)::acc)
 |_,[],_,_=>true
 |[],_::_,_,_=>false
theorem ul:∀(ms:List Nat) (rs:List Rx) (k0:Nat) (acc:List (Nat×Nat×Nat)),Ex ms rs k0 acc=true->∀(j:Nat) (r:Rx),rs[j]? =some r->∃m:Nat,ms[j]? =some m/\
 ((r.F=0/\r.dm=0)\/((∀q∈acc,m.testBit q.1=true\/Bx q.2.1 q.2.2 r.F r.dm=true)/\∀(i:Nat) (ri:Rx),i<j->rs[i]? =some ri->(ri.F=0/\ri.dm=0)\/m.testBit (k0+i)=true\/Bx ri.F ri.dm r.F r.dm=true))
 |[],[],_,_,_,j,r,hj=>by simp at hj
 |_::_,[],_,_,_,j,r,hj=>by simp at hj
 |[],_::_,_,_,h,_,_,_=>by simp[Ex]at h
 |m::ms,r0::rs,k0,acc,h,j,r,hj=>by
  simp only[Ex]at h;cases hz:(Nat.beq r0.F 0&&Nat.beq r0.dm 0)with
  |true=>
   rw[hz]at h
   simp only[cond_true]at h
   rw[ahs]at hz
   have z1:=agv hz.1
   have z2:=agv hz.2
   cases j with
   |zero=>
    simp only[List.getElem?_cons_zero,agw]at hj
    subst hj
    exact⟨m,rfl,.inl ⟨z1,z2⟩⟩
   |succ j=>
    obtain⟨m',g1,g2⟩:=ul ms rs (k0+1) acc h j r (by simpa using hj)
    refine⟨m',by simpa using g1,g2.imp (fun h=>h) (fun⟨g3,g4⟩=>⟨g3,fun i ri h0 hi=>?_⟩)⟩
    cases i with
    |zero=>
     simp only[List.getElem?_cons_zero,agw]at hi
     subst hi
     exact .inl ⟨z1,z2⟩
    |succ i=>
     have:=g4 i ri (by omega) (by simpa using hi)
     rwa [show k0+1+i=k0+(i+1)by omega]at this
  |false=>
   rw[hz]at h
   simp only[cond_false,ahs]at h
   obtain⟨h1,h2⟩:=h
   cases j with
   |zero=>
    simp only[List.getElem?_cons_zero,agw]at hj
    subst hj
    refine⟨m,rfl,.inr ⟨fun q hq=>?_,fun i ri h0=>by omega⟩⟩
    have:=List.all_eq_true.1 h1 q hq
    rw[Bool.or_eq_true]at this
    exact this.imp Hp (fun h=>h)
   |succ j=>
    obtain⟨m',g1,g2⟩:=ul ms rs (k0+1) _ h2 j r (by simpa using hj)
    refine⟨m',by simpa using g1,g2.imp (fun h=>h) (fun⟨g3,g4⟩=>⟨fun q hq=>g3 q (by simp[hq]),fun i ri h0 hi=>?_⟩)⟩
    cases i with
    |zero=>
     simp only[List.getElem?_cons_zero,agw]at hi
     subst hi
     exact .inr (by simpa using g3 (k0,r0.F,r0.dm) (by simp))
    |succ i=>
     have:=g4 i ri (by omega) (by simpa using hi)
     rwa [show k0+1+i=k0+(i+1)by omega]at this
def Ao(ops:Array Oper)(u0:Nat)(rs:List Rx)(E':ESX):Bool:=
 Pl ops&&((Nat.beq E'.wr 0&&Nat.beq (Nat.shiftRight E'.rd u0) 0)||Ex (t7 ops.toList []) rs 0 [])
theorem Iv{P:Program}{N:Nat}{l:List Oper}{E E':ESX}{rs:List Rx}(he:SeqX P N l.toArray l E.st (rs.map Rx.rc) E'.st)(h8:∀r∈rs,RunOk E E' r)(hc:Ao l.toArray E.u rs E'=true):DrawOk l (rs.map Rx.rc):=by
 unfold Ao at hc
 rw[ahs,Bool.or_eq_true]at hc
 obtain⟨hn,hf⟩:=hc
 obtain⟨s1,s2⟩:=F5 hn
 obtain⟨hg,hend,h0⟩:=he.facts
 refine⟨fun i k oi ok ri rk hl hi hk h5 h6=>?_,s1⟩
 by_cases hA:Anc l.toArray k i
 ·exact .inl hA
 right
 have ho:=(s2 i k oi ok hl hi hk).resolve_left hA
 obtain⟨a1,a2,a3⟩:=Oper.apart_spec ho
 rw[List.getElem?_map]at h5 h6
 cases h7:rs[i]? with
 |none=>rw[h7]at h5;cases h5
 |some xi=>
  cases h9:rs[k]? with
  |none=>rw[h9]at h6;cases h6
  |some xk=>
   rw[h7]at h5
   rw[h9]at h6
   simp only[ahp,agw]at h5 h6
   subst h5 h6
   have oi':=h8 xi (List.mem_of_getElem? h7)
   have ok':=h8 xk (List.mem_of_getElem? h9)
   have fi:=h0 i oi xi.rc hi (by rw[List.getElem?_map,h7];rfl)
   have fk:=h0 k ok xk.rc hk (by rw[List.getElem?_map,h9];rfl)
   rcases hf with h4|ha
   ·rw[ahs]at h4
    have w0:=agv h4.1
    have r0:E'.rd>>>E.u=0:=agv h4.2
    have noW:∀(x:Rx),RunOk E E' x->∀id,x.rc.D id=true->x.u0<=id/\id<x.u:=fun x hx id hd=>by
     rcases Rc.D_iff.1 hd with h|h
     ·have:=hx.W id h
      rw[w0]at this
      simp at this
     ·exact h
    have noF:∀(x:Rx),RunOk E E' x->∀id,E.u<=id->x.F.testBit id=false:=fun x hx id hle=>by
     cases hb:x.F.testBit id with
     |false=>rfl
     |true=>
      have h1:=hx.F id hb
      have h2:(E'.rd>>>E.u).testBit (id-E.u)=true:=by
       rw[Nat.testBit_shiftRight,show E.u+(id-E.u)=id by omega];exact h1
      rw[r0]at h2
      simp at h2
    have hmu:xi.u<=xk.u0:=by
     have h1:=F8 h0 hg (k-(i+1)) (i+1) (by have:=(ahn.1 hk).1;omega)
     rw[show i+1+(k-(i+1))=k by omega,lj l (rs.map Rx.rc) i E.st oi xi.rc hi (by rw[List.getElem?_map,h7];rfl)]at h1
     have h2:xk.rc.u0=_:=fk.u
     have h3:xi.rc.u<=xk.rc.u0:=by rw[h2];exact h1
     exact h3
    refine⟨a1,a2,a3,fun x hx=>?_,fun x hx=>?_,fun x hx=>?_⟩
    ·have:=noW xi oi' x hx
     exact noF xk ok' x (by have:=oi'.u0;omega)
    ·have:=noW xk ok' x hx
     exact noF xi oi' x (by have:=ok'.u0;omega)
    ·cases hy:xk.rc.D x with
     |false=>rfl
     |true=>
      have h1:=noW xi oi' x hx
      have h2:=noW xk ok' x hy
      omega
   ·obtain⟨m,hm,hh⟩:=ul _ _ _ _ ha k xk h9
    have triv:∀(x:Rx),x.F=0/\x.dm=0->(∀id,x.rc.D id=false)/\∀id,x.rc.F.testBit id=false:=fun x ⟨h1,h2⟩=>by
     refine⟨fun id=>?_,fun id=>?_⟩
     ·cases hd:x.rc.D id with
      |false=>rfl
      |true=>
       have:=Rx.dm_iff.2 hd
       rw[h2]at this
       simp at this
     ·show x.F.testBit id=false
      rw[h1];simp
    rcases hh with hh|⟨_,hh⟩
    ·obtain⟨t1,t2⟩:=triv xk hh
     exact⟨a1,a2,a3,fun x _=>t2 x,fun x hx=>(by rw[t1 x]at hx;cases hx),fun x _=>t1 x⟩
    ·rcases hh i xi hl h7 with hh|hh|hh
     ·obtain⟨t1,t2⟩:=triv xi hh
      exact⟨a1,a2,a3,fun x hx=>(by rw[t1 x]at hx;cases hx),fun x _=>t2 x,fun x hx=>(by rw[t1 x]at hx;cases hx)⟩
     ·exfalso
      refine hA (nt l [] (fun j o hj=>by simpa using hj) (fun k i h=>by simp at h) k i ?_)
      have:((t7 l []).getD k 0)=m:=by
       simp only[List.getD]
       have:(t7 l [])[k]? =some m:=by simpa using hm
       rw[this];rfl
      rw[this]
      simpa using hh
     ·unfold Bx at hh
      rw[ahs]at hh
      have q1:∀x,xi.rc.D x=true->xk.F.testBit x=false/\xk.dm.testBit x=false:=fun x hx=>by
       have:=qu hh.1 (Rx.dm_iff.2 hx)
       rw[show Nat.lor xk.F xk.dm=xk.F|||xk.dm from rfl,Nat.testBit_or,Bool.or_eq_false_iff]at this
       exact this
      refine⟨a1,a2,a3,fun x hx=>(q1 x hx).1,fun x hx=>qu hh.2 (Rx.dm_iff.2 hx),fun x hx=>?_⟩
      cases hy:xk.rc.D x with
      |false=>rfl
      |true=>
       have:=(q1 x hx).2
       rw[Rx.dm_iff.2 hy]at this
       cases this
def Ha(N:Nat)(ops:Array Oper):Bool:=ops.toList.all (iv N ops)
structure Under(RD WD:Nat->Prop)(M:Nat)(ub:Nat)(E':ESX):Prop where
 rd:∀id,E'.rd.testBit id=true->RD id
 wd:∀id,E'.wr.testBit id=true->WD id
 u:E'.u<=M
 new:∀id,ub<=id->id<M->RD id/\WD id
theorem Under.back{RD WD:Nat->Prop}{M u:Nat}{E1 E':ESX}(h:Under RD WD M u E')(m:Mono E1 E'):Under RD WD M u E1:=
 ⟨fun id h0=>h.rd id (m.rd id h0),fun id h0=>h.wd id (m.wr id h0),ahb m.u h.u,h.new⟩
theorem Under.up{RD WD:Nat->Prop}{M u u1:Nat}{E':ESX}(h:Under RD WD M u E')(hu:u<=u1):Under RD WD M u1 E':=
 ⟨h.rd,h.wd,h.u,fun id h1 h2=>h.new id (ahb hu h1) h2⟩
def eqS:AV->AV->Bool
 |.v (.int k i),.v (.int k' i')=>decide (k=k')&&decide (i=i')
 |.v (.bool b),.v (.bool b')=>b==b'
 |.v (.slice none a c),.v (.slice none a' c')=>Nat.beq a a'&&Nat.beq c c'
 |.v (.pointer none),.v (.pointer none)=>true
 |.v (.map none),.v (.map none)=>true
 |.ptr a b c,.ptr a' b' c'=>Nat.beq a a'&&(Nat.beq b b'&&Nat.beq c c')
 |.sl a b c d,.sl a' b' c' d'=>Nat.beq a a'&&(Nat.beq b b'&&(Nat.beq c c'&&Nat.beq d d'))
 |.mp a b,.mp a' b'=>Nat.beq a a'&&Nat.beq b b'
 |.tree n [],.tree n' []=>Nat.beq n n'
 |_,_=>false
theorem aba{x y:AV}(h:eqS x y=true):x=y:=by
 unfold eqS at h;split at h<;>try simp only[ahs,aht,beq_iff_eq]at h
 all_goals first
  |(obtain⟨rfl,rfl⟩:=h;rfl)
  |(subst h;rfl)
  |(obtain⟨h1,h2⟩:=h;have:=agv h1;have:=agv h2;subst_vars;rfl)
  |(obtain⟨h1,h2,h3⟩:=h;have:=agv h1;have:=agv h2;have:=agv h3;subst_vars;rfl)
  |(obtain⟨h1,h2,h3,h4⟩:=h;have:=agv h1;have:=agv h2;have:=agv h3;have:=agv h4;subst_vars;rfl)
  |(have:=agv h;subst_vars;rfl)
  |rfl
  |cases h
def r5(a:Nat)(r:Rx):Rx:=bif Nat.beq r.dm 0&&O2 r.F a then⟨Nat.xor r.F (Nat.shiftLeft 1 a),r.W,r.u0,r.u,r.h,r.v⟩else r
theorem za(a:Nat)(r:Rx):(r5 a r).dm=r.dm:=by unfold r5;cases(Nat.beq r.dm 0&&O2 r.F a)<;>rfl
theorem Dz{a:Nat}{r:Rx}{x:Nat}(h:(r5 a r).F.testBit x=false):r.F.testBit x=false\/(x=a/\r.dm=0):=by
 unfold r5 at h
 cases hc:(Nat.beq r.dm 0&&O2 r.F a)with
 |false=>rw[hc]at h;exact .inl h
 |true=>
  rw[hc]at h
  rw[ahs]at hc
  have h1:(r.F ^^^(1<<<a)).testBit x=false:=h
  rw[Nat.testBit_xor,Nat.one_shiftLeft,Nat.testBit_two_pow]at h1
  by_cases e:a=x
  ·exact .inr ⟨e.symm,agv hc.1⟩
  ·rw[decide_eq_false e,Bool.xor_false]at h1;exact .inl h1
theorem xz{a:Nat}{r:Rx}(h:(r5 a r).F=0/\(r5 a r).dm=0):(∀id,r.rc.D id=false)/\∀id,r.rc.F.testBit id=false\/(id=a/\∀y,r.rc.D y=false):=by
 have h2:r.dm=0:=by rw[<-za a r];exact h.2
 have hD:∀id,r.rc.D id=false:=fun id=>by
  cases hd:r.rc.D id with
  |false=>rfl
  |true=>have:=Rx.dm_iff.2 hd;rw[h2]at this;simp at this
 refine⟨hD,fun id=>?_⟩
 have:(r5 a r).F.testBit id=false:=by rw[h.1];simp
 exact(Dz this).imp (fun h=>h) (fun h=>⟨h.1,hD⟩)
def W3(E:ESX)(a:Nat)(rs:List Rx):List (Option Blk):=be E.h a::rs.map fun r=>be r.h a
def Sn(x r:Rx):Bool:=eqS x.v r.v&&(Nat.beq x.F r.F&&Nat.beq x.dm 0)
def yz(f:cm)(a:Nat)(cs:List (Option Blk)):List Oper->List Rx->ESX->Bool
 |o::l,r::rs,E=>(bif Nat.beq r.dm 0&&O2 r.F a then cs.all (fun c=>match Tri.set 24 E.h a c with
  |none=>false
  |some h'=>match f o ⟨E.t,h',E.u,E.rd,E.wr⟩with
   |none=>false
   |some x=>Sn x r)else true)&&(match E.step o.dst r with
  |none=>false
  |some E1=>yz f a cs l rs E1)
 |_,_,_=>true
def Ki(f:cm)(ops:Array Oper)(E:ESX)(rs:List Rx)(a:Nat):Bool:=Ex (t7 ops.toList []) (rs.map (r5 a)) 0 []&&yz f a (W3 E a rs) ops.toList rs E
def Yh(E:ESX)(rs:List Rx):List Nat:=(List.range E.u).filter fun i=>rs.any fun r=>O2 r.W i
def zb(f:cm)(ops:Array Oper)(E:ESX)(rs:List Rx):Bool:=Pl ops&&(Yh E rs).any (Ki f ops E rs)
theorem re.same{P:Program}{o:Oper}{τ:Nat->AV}{η:bf}{r x:Rc}(h:re P o τ η x)(hv:x.v=r.v)(hF:x.F=r.F)(hx:∀id,x.D id=false)(hr:∀id,r.D id=false):re P o τ η r:=by intro C a hg h6 h7 hnew K Q hK;exact h C a hg h6 (fun id h0=>h7 id (by rw[<-hF];exact h0)) (fun id h1 h2=>by have:=Rc.D_iff.2 (.inr ⟨h1,h2⟩);rw[hx id]at this;cases this) K Q fun y C' h1 h2 h3 h4 h5=>hK y C' (fun id=>by rw[h1 id,hx id,hr id];simp) (fun id h0=>(h2 id h0).elim .inl (fun h=>by rw[hx id]at h;cases h)) h3 h4 (by rw[<-hv];exact h5)
theorem Xb{m i:Nat}(h:m.testBit i=true):O2 m i=true:=by unfold O2;have h1:(m>>>i)&&& 1=1:=(by have:m.testBit i=((m>>>i)&&& 1==1):=(by unfold Nat.testBit;rw[Nat.and_comm];have:(m>>>i)&&& 1=(m>>>i)%2:=Nat.and_one_is_mod _;rw[this];rcases Nat.mod_two_eq_zero_or_one (m>>>i)with e|e<;>rw[e]<;>rfl);rw[this]at h;simpa using h);show Nat.beq ((m>>>i)&&& 1) 1=true;rw[h1];rfl
theorem xy{P:Program}{N:Nat}{f:cm}(hf:f.Ok P){ops:Array Oper}{a:Nat}{cs:List (Option Blk)}:∀(l:List Oper) (rs:List Rx) (E:ESX) (s':St),SeqX P N ops l E.st (rs.map Rx.rc) s'->Ax E.h E.u->yz f a cs l rs E=true->
 ∀(i:Nat) (oi:Oper) (ri:Rx),l[i]? =some oi->rs[i]? =some ri->(∀y,ri.rc.D y=false)->ri.F.testBit a=true->∀c∈cs,re P oi (kf l (rs.map Rx.rc) i E.st).τ ((kf l (rs.map Rx.rc) i E.st).η.set a c) ri.rc
 |[],rs,E,s',_,_,_,i,oi,ri,hi,_,_,_,c,_=>by simp at hi
 |o::l,[],E,s',_,_,_,i,oi,ri,_,hr,_,_,c,_=>by simp at hr
 |o::l,r::rs,E,s',h7,h5,hs,i,oi,ri,hi,hr,hD,hF,c,hc=>by
  simp only[yz]at hs
  rw[ahs]at hs
  obtain⟨h1,h2⟩:=hs
  cases h7 with
  |cons h0 h6=>
  cases i with
  |zero=>
   simp only[List.getElem?_cons_zero,agw]at hi hr
   subst hi hr
   rw[fc]
   have he:Nat.beq r.dm 0=true:=by
    have:r.dm=0:=by
     apply Nat.eq_of_testBit_eq
     intro y
     cases hy:r.dm.testBit y with
     |false=>simp
     |true=>have:=Rx.dm_iff.1 hy;rw[hD y]at this;cases this
    rw[this];rfl
   rw[he,Xb hF]at h1
   simp only[Bool.and_self,cond_true]at h1
   have h3:=List.all_eq_true.1 h1 c hc
   cases h4:Tri.set 24 E.h a c with
   |none=>rw[h4]at h3;cases h3
   |some h'=>
    rw[h4]at h3
    simp only at h3
    have ha:a<E.u:=by
     have:=h0.fits.low a hF
     have hu:r.rc.u0=E.st.u:=h0.u
     have:a<E.st.u:=by omega
     exact this
    cases h8:f o ⟨E.t,h',E.u,E.rd,E.wr⟩with
    |none=>rw[h8]at h3;cases h3
    |some x=>
     rw[h8]at h3
     simp only[Sn,ahs]at h3
     obtain⟨e1,e2,e3⟩:=h3
     have hη':be h'=(be E.h).set a c:=lf h4
     obtain⟨_,_,q3⟩:=hf o ⟨E.t,h',E.u,E.rd,E.wr⟩ x (fun id hb=>by
      show be h' id=none
      rw[hη',aq _ _ (by have:E.u<=id:=hb;omega)]
      exact h5 id hb) h8
     have hg:∀id,x.rc.D id=false:=fun id=>by
      cases hd:x.rc.D id with
      |false=>rfl
      |true=>have:=Rx.dm_iff.2 hd;rw[agv e3]at this;simp at this
     have q4:re P o (bc E.t) (be h') x.rc:=q3
     rw[hη']at q4
     exact q4.same (aba e1) (agv e2) hg hD
  |succ i=>
   cases h9:E.step o.dst r with
   |none=>rw[h9]at h2;cases h2
   |some E1=>
    rw[h9]at h2
    simp only at h2
    obtain⟨s1,s2,s3,s4,s5⟩:=ir h9
    have m1:Mono E E1:=kx s2 s3 s4 s5 h0.u h0.fits
    have:=xy hf l rs E1 s' (by rw[s1];exact h6) (m1.low h5) h2 i oi ri (by simpa using hi) (by simpa using hr) hD hF c hc
    rw[s1]at this
    exact this
theorem Bn{a:Nat}:∀(rs:List Rx) (l:List Oper) (s:St) (m:Nat),m<=l.length->rs.length=l.length->(kf l (rs.map Rx.rc) m s).η a=s.η a\/∃r∈rs,(kf l (rs.map Rx.rc) m s).η a=be r.h a
 |_,l,s,0,_,_=>by rw[fc];exact .inl rfl
 |[],[],s,m+1,h,_=>by simp at h
 |[],o::l,s,m+1,_,h=>by simp at h
 |r::rs,[],s,m+1,h,_=>by simp at h
 |r::rs,o::l,s,m+1,h,hl=>by have:=Bn (a:=a) rs l (rz o r.rc s) m (by simpa using h) (by simpa using hl);right;rcases this with e|⟨r',h1,h2⟩;exact⟨r,by simp,e⟩;exact⟨r',by simp[h1],h2⟩
theorem Kh{P:Program}{N:Nat}{f:cm}(hf:f.Ok P){l:List Oper}{E E':ESX}{rs:List Rx}{a:Nat}(h7:Ax E.h E.u)(h5:SeqX P N l.toArray l E.st (rs.map Rx.rc) E'.st)(hb:Pl l.toArray=true)(hc:Ki f l.toArray E rs a=true):DrawA P E.st a l (rs.map Rx.rc):=by
 unfold Ki at hc
 rw[ahs]at hc
 obtain⟨h8,he⟩:=hc
 obtain⟨s1,s2⟩:=F5 hb
 obtain⟨h6,hend,hfact⟩:=h5.facts
 rw[ag0]at h6
 refine⟨fun i k oi ok ri rk ha hi hk h0 h4=>?_,s1,fun i oi ri hi h0 hD hF m hm=>?_⟩
 ·by_cases hA:Anc l.toArray k i
  ·exact .inl hA
  right
  have hg:=(s2 i k oi ok ha hi hk).resolve_left hA
  obtain⟨a1,a2,a3⟩:=Oper.apart_spec hg
  rw[List.getElem?_map]at h0 h4
  cases h3:rs[i]? with
  |none=>rw[h3]at h0;cases h0
  |some xi=>
   cases h9:rs[k]? with
   |none=>rw[h9]at h4;cases h4
   |some xk=>
    rw[h3]at h0
    rw[h9]at h4
    simp only[ahp,agw]at h0 h4
    subst h0 h4
    obtain⟨m,hm,hh⟩:=ul _ _ _ _ h8 k (r5 a xk) (by rw[List.getElem?_map,h9];rfl)
    rcases hh with hh|⟨_,hh⟩
    ·obtain⟨t1,t2⟩:=xz hh
     exact⟨a1,a2,a3,fun x _=>t2 x,fun x hx=>(by rw[t1 x]at hx;cases hx),fun x _=>t1 x⟩
    ·rcases hh i (r5 a xi) ha (by rw[List.getElem?_map,h3];rfl)with hh|hh|hh
     ·obtain⟨t1,t2⟩:=xz hh
      exact⟨a1,a2,a3,fun x hx=>(by rw[t1 x]at hx;cases hx),fun x _=>t2 x,fun x hx=>(by rw[t1 x]at hx;cases hx)⟩
     ·exfalso
      refine hA (nt l [] (fun j o hj=>by simpa using hj) (fun k i h=>by simp at h) k i ?_)
      have:((t7 l []).getD k 0)=m:=by
       simp only[List.getD]
       have:(t7 l [])[k]? =some m:=by simpa using hm
       rw[this];rfl
      rw[this]
      simpa using hh
     ·unfold Bx at hh
      rw[ahs,za,za]at hh
      have em:∀{r:Rx},r.dm=0->∀y,r.rc.D y=false:=fun{r} h2 y=>by
       cases hd:r.rc.D y with
       |false=>rfl
       |true=>have:=Rx.dm_iff.2 hd;rw[h2]at this;simp at this
      have q1:∀x,xi.rc.D x=true->(r5 a xk).F.testBit x=false/\xk.dm.testBit x=false:=fun x hx=>by
       have:=qu hh.1 (Rx.dm_iff.2 hx)
       rw[show Nat.lor (r5 a xk).F xk.dm=(r5 a xk).F|||xk.dm from rfl,Nat.testBit_or,Bool.or_eq_false_iff]at this
       exact this
      refine⟨a1,a2,a3,fun x hx=>(Dz (q1 x hx).1).imp (fun h=>h) (fun h=>⟨h.1,em h.2⟩),fun x hx=>(Dz (qu hh.2 (Rx.dm_iff.2 hx))).imp (fun h=>h) (fun h=>⟨h.1,em h.2⟩),fun x hx=>?_⟩
      cases hy:xk.rc.D x with
      |false=>rfl
      |true=>
       have:=(q1 x hx).2
       rw[Rx.dm_iff.2 hy]at this
       cases this
 ·rw[List.getElem?_map]at h0
  cases h3:rs[i]? with
  |none=>rw[h3]at h0;cases h0
  |some xi=>
   rw[h3]at h0
   simp only[ahp,agw]at h0
   subst h0
   refine xy hf (N:=N) (ops:=l.toArray) (cs:=W3 E a rs) l rs E E'.st h5 h7 (by simpa using he) i oi xi hi h3 hD hF _ ?_
   unfold W3
   rcases Bn (a:=a) rs l E.st m hm h6 with e|⟨r,h1,h2⟩
   ·rw[e];exact List.mem_cons_self
   ·rw[h2];exact List.mem_cons_of_mem _ (ahj.2 ⟨r,h1,rfl⟩)
theorem H6{P:Program}{N:Nat}{f:cm}(hf:f.Ok P){l:List Oper}{E E':ESX}{rs:List Rx}(h0:Ax E.h E.u)(h1:SeqX P N l.toArray l E.st (rs.map Rx.rc) E'.st)(hc:zb f l.toArray E rs=true):∃a,DrawA P E.st a l (rs.map Rx.rc):=by unfold zb at hc;rw[ahs]at hc;obtain⟨a,_,ha⟩:=List.any_eq_true.1 hc.2;exact⟨a,Kh hf h0 h1 hc.1 ha⟩
def zr(E:ESX)(r:Rec):Option Rx:=
 bif r.fp.all (fun id=>Nat.ble (id+1) E.u)then match r.δ with
  |[]=>bif Nat.beq r.u E.u then some ⟨ff r.fp,0,E.u,E.u,E.h,r.v⟩else none
  |[p]=>bif Nat.beq p.1 E.u then(bif Nat.beq r.u (E.u+1)then(match Tri.set 24 E.h E.u p.2 with
   |some h=>some ⟨ff r.fp,0,E.u,E.u+1,h,r.v⟩
   |none=>none)else none)
   else bif r.fp.contains p.1&&Nat.beq r.u E.u then(match Tri.set 24 E.h p.1 p.2 with
    |some h=>some ⟨ff r.fp,Nat.shiftLeft 1 p.1,E.u,E.u,h,r.v⟩
    |none=>none)else none
  |_=>none
 else none
theorem oq{P:Program}{E:ESX}{o:Oper}{r:Rec}{x:Rx}(h:zr E r=some x)(hL:LOp P o (bc E.t) (be E.h) r.fp r.δ r.v):x.u0=E.u/\Fits (be E.h) x.rc/\re P o (bc E.t) (be E.h) x.rc:=by
 unfold zr at h
 cases ha:r.fp.all (fun id=>Nat.ble (id+1) E.u)with
 |false=>rw[ha]at h;simp at h
 |true=>
  rw[ha]at h
  simp only[cond_true]at h
  have h1:∀id,(ff r.fp).testBit id=true->id<E.u:=fun id h0=>aha (List.all_eq_true.1 ha id (B2.1 h0))
  split at h
  ·rename_i hδ
   cases hb:Nat.beq r.u E.u with
   |false=>rw[hb]at h;simp at h
   |true=>
    rw[hb]at h
    simp only[cond_true,agw]at h
    subst h
    rw[hδ]at hL
    refine⟨rfl,⟨ag8 _,fun id _=>rfl,fun id h0=>?_,h1⟩,hL.toX⟩
    have:(0:Nat).testBit id=true:=h0
    simp at this
  ·rename_i p hδ
   obtain⟨pid,pb⟩:=p
   rw[hδ]at hL
   simp only at h
   cases hb:Nat.beq pid E.u with
   |true=>
    rw[hb]at h
    simp only[cond_true]at h
    obtain rfl:=agv hb
    cases hu:Nat.beq r.u (E.u+1)with
    |false=>rw[hu]at h;simp at h
    |true=>
     rw[hu]at h
     simp only[cond_true]at h
     split at h
     ·rename_i h' hs
      simp only[agw]at h
      subst h
      refine⟨rfl,⟨Nat.le_succ _,fun id h0=>?_,fun id h0=>?_,h1⟩,?_⟩
      ·show be h' id=_
       rw[lf hs]
       have:id≠E.u:=fun e=>by
        have h2:=h0
        rw[show Rc.D (Rx.rc ⟨ff r.fp,0,E.u,E.u+1,h',r.v⟩) id=true from Rc.D_iff.2 (.inr ⟨by show E.u<=id;omega,by show id<E.u+1;omega⟩)]at h2
        cases h2
       rw[aq _ _ this]
      ·have:(0:Nat).testBit id=true:=h0
       simp at this
      ·have:=hL.toX_new
       have e:be h'=(be E.h).set E.u pb:=lf hs
       show re P o (bc E.t) (be E.h) ⟨ff r.fp,0,E.u,E.u+1,be h',r.v⟩
       rw[e]
       exact this
     ·cases h
   |false=>
    rw[hb]at h
    simp only[cond_false]at h
    cases hc:(r.fp.contains pid&&Nat.beq r.u E.u)with
    |false=>rw[hc]at h;simp at h
    |true=>
     rw[hc]at h
     simp only[cond_true]at h
     rw[ahs,List.contains_iff_mem]at hc
     split at h
     ·rename_i h' hs
      simp only[agw]at h
      subst h
      have e:be h'=(be E.h).set pid pb:=lf hs
      refine⟨rfl,⟨ag8 _,fun id h0=>?_,fun id h0=>?_,h1⟩,?_⟩
      ·show be h' id=_
       rw[e]
       have:id≠pid:=fun e=>by
        subst e
        have h2:=h0
        rw[show Rc.D (Rx.rc ⟨ff r.fp,Nat.shiftLeft 1 id,E.u,E.u,h',r.v⟩) id=true from Rc.D_iff.2 (.inl (wo.2 rfl))]at h2
        cases h2
       rw[aq _ _ this]
      ·have:(Nat.shiftLeft 1 pid).testBit id=true:=h0
       rw[wo]at this
       subst this
       exact B2.2 hc.1
      ·have:=hL.toX_old (u:=E.u) hc.1
       show re P o (bc E.t) (be E.h) ⟨ff r.fp,Nat.shiftLeft 1 pid,E.u,E.u,be h',r.v⟩
       rw[e]
       exact this
     ·cases h
  ·cases h
theorem uf{η:bf}:∀{l:List Nat} {i:Nat},(η.put (l.map fun id=>(id,none))) i=if i∈l then none else η i
 |[],i=>by simp[bf.put]
 |k::l,i=>by show((η.set k none).put (l.map fun id=>(id,none))) i=_;rw[uf];by_cases h:i∈l;rw[ag2 h,ag2 (List.mem_cons_of_mem _ h)];rw[ag1 h];by_cases e:i=k;subst e;rw[am,ag2 (by simp)];rw[aq _ _ e,ag1 (by simp[e,h])]
theorem LOp.toX_gone{P:Program}{o:Oper}{τ:Nat->AV}{η:bf}{fp:List Nat}{u:Nat}{v:AV}(h:LOp P o τ η fp (fp.map fun id=>(id,none)) v):re P o τ η ⟨ff fp,ff fp,u,u,η.put (fp.map fun id=>(id,none)),v⟩:=by
 intro C a hg hx hF hN K Q hK
 have hD:∀i,(⟨ff fp,ff fp,u,u,η.put (fp.map fun id=>(id,none)),v⟩:Rc).D i=true↔i∈fp:=fun i=>by
  rw[Rc.D_iff];simp only[B2];constructor;rintro(h1|⟨h1,h2⟩);exact h1;omega;exact .inl
 refine h C a hg hx (fun id h0=>hF id (B2.2 h0)) (fun p hp h3=>by obtain⟨id,h0,rfl⟩:=ahj.1 hp;exact absurd h0 h3) K Q (fun x C' hη hU h4 he hv=>hK x C' (fun i=>?_) (fun i hi=>?_) h4 he hv);rw[hη,uf];by_cases e:i∈fp;rw[ag2 e,ag2 ((hD i).2 e)];show _=(η.put (fp.map fun id=>(id,none))) i
 rw[uf,ag2 e];rw[ag1 e,ag1 (fun h=>e ((hD i).1 h))];rcases(hU i).1 hi with h1|h1;exact .inl h1;obtain⟨q,hq,rfl⟩:=ahj.1 h1;obtain⟨id,h0,rfl⟩:=ahj.1 hq;exact .inr ((hD id).2 h0)
def Q4:List Nat->Tri (Option Blk)->Option (Tri (Option Blk))
 |[],t=>some t
 |id::r,t=>match Tri.set 24 t id none with
  |some t'=>Q4 r t'
  |none=>none
theorem Hb:∀{l:List Nat} {t t':Tri (Option Blk)},Q4 l t=some t'->be t'=(be t).put (l.map fun id=>(id,none))
 |[],t,t',h=>by cases h;rfl
 |id::l,t,t',h=>by unfold Q4 at h;split at h;rename_i t1 h1;rw[Hb h,lf h1];rfl;cases h
def B9:List (Nat×Option Blk)->List Nat->Bool
 |[],[]=>true
 |(i,none)::r,j::s=>Nat.beq i j&&B9 r s
 |_,_=>false
theorem B8:∀{δ:List (Nat×Option Blk)} {fp:List Nat},B9 δ fp=true->δ=fp.map fun id=>(id,none)
 |[],[],_=>rfl
 |[],_::_,h=>by cases h
 |(_,none)::_,[],h=>by cases h
 |(_,some _)::_,[],h=>by cases h
 |(_,some _)::_,_::_,h=>by cases h
 |(i,none)::r,j::s,h=>by simp only[B9,ahs]at h;rw[agv h.1,B8 h.2];rfl
def We(E:ESX)(r:Rec):Option Rx:=bif r.fp.all (fun id=>Nat.ble (id+1) E.u)&&(B9 r.δ r.fp&&Nat.beq r.u E.u)then(match Q4 r.fp E.h with
 |some h=>some ⟨ff r.fp,ff r.fp,E.u,E.u,h,r.v⟩
 |none=>none)else none
theorem Qo{P:Program}{E:ESX}{o:Oper}{r:Rec}{x:Rx}(h:We E r=some x)(hL:LOp P o (bc E.t) (be E.h) r.fp r.δ r.v):x.u0=E.u/\Fits (be E.h) x.rc/\re P o (bc E.t) (be E.h) x.rc:=by
 unfold We at h
 cases hc:(r.fp.all (fun id=>Nat.ble (id+1) E.u)&&(B9 r.δ r.fp&&Nat.beq r.u E.u))with
 |false=>rw[hc]at h;cases h
 |true=>
  rw[hc]at h
  simp only[cond_true]at h
  simp only[ahs]at hc
  obtain⟨ha,hg,_⟩:=hc
  have h1:∀id,(ff r.fp).testBit id=true->id<E.u:=fun id h0=>aha (List.all_eq_true.1 ha id (B2.1 h0))
  split at h
  ·rename_i h' hs
   simp only[agw]at h
   subst h
   have e:be h'=(be E.h).put (r.fp.map fun id=>(id,none)):=Hb hs
   rw[B8 hg]at hL
   refine⟨rfl,⟨ag8 _,fun id h0=>?_,fun id h0=>h0,h1⟩,?_⟩
   ·show be h' id=_
    rw[e,uf]
    have:id∉r.fp:=fun e=>by
     have h2:=h0
     rw[show Rc.D (Rx.rc ⟨ff r.fp,ff r.fp,E.u,E.u,h',r.v⟩) id=true from Rc.D_iff.2 (.inl (B2.2 e))]at h2
     cases h2
    rw[ag1 this]
   ·show re P o (bc E.t) (be E.h) ⟨ff r.fp,ff r.fp,E.u,E.u,be h',r.v⟩
    rw[e]
    exact hL.toX_gone
  ·cases h
def Lb(E:ESX)(r:Rec):Option Rx:=match zr E r with
 |some x=>some x
 |none=>We E r
theorem La{P:Program}{E:ESX}{o:Oper}{r:Rec}{x:Rx}(h:Lb E r=some x)(hL:LOp P o (bc E.t) (be E.h) r.fp r.δ r.v):x.u0=E.u/\Fits (be E.h) x.rc/\re P o (bc E.t) (be E.h) x.rc:=by grind[Lb,agw,oq,Qo]
abbrev Fp:=FuncId->List AV->Tri (Option Blk)->Nat->Option Rx
def Fp.Ok(P:Program)(call:Fp):Prop:=∀f ys h u r,Ax h u->call f ys h u=some r->r.u0=u/\Fits (be h) r.rc/\Fd P f ys (be h) r.rc
def ji(E:ESX)(v:AV):Rx:=⟨0,0,E.u,E.u,E.h,v⟩
theorem dh{P:Program}{E:ESX}{o:Oper}{v:AV}(hL:LOp P o (bc E.t) (be E.h) [] [] v):(ji E v).u0=E.u/\Fits (be E.h) (ji E v).rc/\re P o (bc E.t) (be E.h) (ji E v).rc:=⟨rfl,⟨ag8 _,fun id _=>rfl,fun id h0=>h0,fun id h0=>by have:(0:Nat).testBit id=true:=h0;simp at this⟩,hL.toX⟩
section
variable{P:Program}{τ:Nat->AV}{η:bf}{d:Option Tmp}{ty:TypeId}{pos:String}{af:Array Edge}{g:Option (Nat×Bool)}
theorem LOp.makeFunc{f:FuncId}{caps:Array Operand}:LOp P ⟨d,.makeFunc (.func f) #[] caps,ty,pos,af,g⟩ τ η [] [] (.clo f (caps.toList.map (aev τ))):=
 .look [] fun C a hg hx _=>by refine⟨.func (.func f) #[] (caps.map a.eval),by simp[execOp,Instr.makeFunc],.clo (by simp) (fun i h h'=>?_)⟩;simp only[List.getElem_map,Array.getElem_toList,Array.getElem_map];exact hx _ (by simp[Op.operands])
end
def Me(n:Int):Bool:=match n with
 |.ofNat m=>Nat.ble m 9223372036854775807
 |.negSucc m=>Nat.ble m 9223372036854775807
theorem Gx{n:Int}(h:Me n=true):IntKind.i64.wrap n=n:=by
 apply IntWalk.i64_in;cases n with
 |ofNat m=>
  have:=aha h
  simp only[Int.ofNat_eq_natCast]
  omega
 |negSucc m=>
  have:=aha h
  omega
def ltI:Int->Int->Bool
 |.ofNat a,.ofNat b=>Nat.blt a b
 |.ofNat _,.negSucc _=>false
 |.negSucc _,.ofNat _=>true
 |.negSucc a,.negSucc b=>Nat.blt b a
theorem Ly(a b:Int):ltI a b=decide (a<b):=by rw[Bool.eq_iff_iff,aht];cases a<;>cases b<;>simp[ltI]<;>omega
theorem S1(a b:Int):(!ltI b a)=decide (a<=b):=by grind[Ly]
def eqI:Int->Int->Bool
 |.ofNat a,.ofNat b=>Nat.beq a b
 |.negSucc a,.negSucc b=>Nat.beq a b
 |_,_=>false
theorem M8(a b:Int):eqI a b=(a==b):=by rw[Bool.eq_iff_iff,beq_iff_eq];cases a<;>cases b<;>simp[eqI]<;>omega
def Wr(op:BinOp)(a b:Int):Option Value:=match op with
 |.add=>bif Me (a+b)then some (.int .i64 (a+b))else none
 |.sub=>bif Me (a-b)then some (.int .i64 (a-b))else none
 |.eql=>some (.bool (eqI a b))
 |.neq=>some (.bool (!eqI a b))
 |.lss=>some (.bool (ltI a b))
 |.gtr=>some (.bool (ltI b a))
 |.leq=>some (.bool (!ltI b a))
 |.geq=>some (.bool (!ltI a b))
 |_=>none
def Ir(τ:Nat->AV)(op:Op):Option Value:=match op with
 |.binOp bop _ x y _=>match aev τ x with
  |.v (.int .i64 a)=>match aev τ y with
   |.v (.int .i64 b)=>Wr bop a b
   |_=>none
  |_=>none
 |.unOp .not _ x=>match aev τ x with
  |.v (.bool b)=>some (.bool !b)
  |_=>none
 |_=>none
theorem Al{P:Program}{τ:Nat->AV}{η:bf}{o:Oper}{y:Value}(h:Ir τ o.op=some y):LOp P o τ η [] [] (.v y):=by
 obtain⟨d,op,ty,pos,af,g⟩:=o
 refine .look [] fun C a hg h0 _=>⟨y,?_,VR.v C y⟩
 unfold Ir at h
 simp only at h h0
 split at h
 ·rename_i bop t x z t'
  split at h
  ·rename_i m hx
   split at h
   ·rename_i n hz
    have e1:=h0 x (by simp[Op.operands])
    have e2:=h0 z (by simp[Op.operands])
    rw[hx]at e1
    rw[hz]at e2
    have e1':=e1.v_inv
    have e2':=e2.v_inv
    have h1:∀w:World,(eqGuard bop t x z (.int .i64 m) (.int .i64 n)).run P w=.ok () w:=by
     intro w
     unfold eqGuard
     split<;>rfl
    unfold Wr at h
    split at h
    ·cases hc:Me (m+n)with
     |false=>rw[hc]at h;simp at h
     |true=>
      rw[hc]at h
      simp only[cond_true,agw]at h
      subst h
      simp only[execOp,e1',e2',Sem.run_bind,h1,ahc]
      simp[binOp,Op.intArith,Gx hc,Sem.run_bind]
    ·cases hc:Me (m-n)with
     |false=>rw[hc]at h;simp at h
     |true=>
      rw[hc]at h
      simp only[cond_true,agw]at h
      subst h
      simp only[execOp,e1',e2',Sem.run_bind,h1,ahc]
      simp[binOp,Op.intArith,Gx hc,Sem.run_bind]
    all_goals first
     |(cases h;done)
     |(
      have h':=Option.some.inj h
      subst h'
      simp only[execOp,e1',e2',Sem.run_bind,h1,ahc]
      first
       |(rw[S1];rfl)
       |(rw[Ly];rfl)
       |(rw[M8];rfl))
   ·cases h
  ·cases h
 ·rename_i t x
  split at h
  ·rename_i b hx
   have e1:=h0 x (by simp[Op.operands])
   rw[hx]at e1
   have e1':=e1.v_inv
   simp only[agw]at h
   subst h
   simp[execOp,e1',Op.unary,Sem.run_bind]
  ·cases h
 ·cases h
def opX(P:Program)(ov:FuncId->Bool)(ovr:fj)(call:Fp)(ext:cm):cm:=fun o E=>
 match o.op with
 |.call ⟨.value g,xs,ats⟩=>match aev (bc E.t) g with
  |.clo f caps=>bif bv P f then
   (bif ov f then(match g with
    |.func f'=>match Rd P ovr (bc E.t) (be E.h) E.u f' xs with
     |some r=>Lb E r
     |none=>none
    |_=>none)
   else call f (xs.toList.map (aev (bc E.t))++caps) E.h E.u)
   else ext o E
  |_=>none
 |.makeFunc (.func f) ⟨[]⟩ caps=>some (ji E (.clo f (caps.toList.map (aev (bc E.t)))))
 |_=>match Ir (bc E.t) o.op with
  |some y=>some (ji E (.v y))
  |none=>match opE P (fun _ _=>none) o ⟨E.t,E.h,E.u⟩with
   |some r=>zr E r
   |none=>ext o E
theorem Zu{P:Program}{ov:FuncId->Bool}{ovr:fj}{call:Fp}{ext:cm}(ho:∀f ys ret,ovr f ys=some ret->eu P f ys ret)(hc:call.Ok P)(he:ext.Ok P):(opX P ov ovr call ext).Ok P:=by
 intro o E r hl h;obtain⟨d,op,ty,pos,af,g⟩:=o
 have rest:∀(r:Rx),(match Ir (bc E.t) op with
  |some y=>some (ji E (.v y))
  |none=>match opE P (fun _ _=>none) ⟨d,op,ty,pos,af,g⟩ ⟨E.t,E.h,E.u⟩with
   |some r=>zr E r
   |none=>ext ⟨d,op,ty,pos,af,g⟩ E)=some r->r.u0=E.u/\Fits (be E.h) r.rc/\re P ⟨d,op,ty,pos,af,g⟩ (bc E.t) (be E.h) r.rc:=by
  intro r h
  split at h
  ·rename_i y hy
   simp only[agw]at h
   subst h
   exact dh (Al (o:=⟨d,op,ty,pos,af,g⟩) hy)
  ·split at h
   ·rename_i r' hr
    exact oq h (Zw (fun _ _ _ h=>by cases h) _ _ _ hr)
   ·exact he _ _ _ hl h
 unfold opX at h;simp only at h;split at h;rename_i g0 xs ats;split at h;rename_i f caps hg;cases hb:bv P f with
 |false=>
  rw[hb]at h
  simp only[cond_false]at h
  exact he _ _ _ hl h
 |true=>
  rw[hb]at h
  simp only[cond_true]at h
  cases h0:ov f with
  |true=>
   rw[h0]at h
   simp only[cond_true]at h
   split at h
   ·split at h
    ·rename_i r' hr
     exact La h (Hi ho hr)
    ·cases h
   ·cases h
  |false=>
   rw[h0]at h
   simp only[cond_false]at h
   obtain⟨q1,q2,q3⟩:=hc _ _ _ _ _ hl h
   exact⟨q1,q2,re.call hb hg q3⟩
 cases h;rename_i f caps;simp only[agw]at h;subst h;exact dh LOp.makeFunc;exact rest r h
def aef(P:Program)(E:ESX):ResultVar->Option (Nat×AV)
 |.tmp t=>some (0,bc E.t t)
 |.cell t ty=>match bc E.t t with
  |.ptr id ver o=>match fw (be E.h) id ver with
   |none=>none
   |some b=>match c9 P ty with
    |none=>none
    |some none=>match b.cs[o]? with
     |some v=>some (Nat.shiftLeft 1 id,v)
     |none=>none
    |some (some n)=>match co o n b.cs with
     |some ds=>some (Nat.shiftLeft 1 id,.agg ds)
     |none=>none
  |_=>none
def K5(P:Program)(E:ESX):List ResultVar->Option (Nat×List AV)
 |[]=>some (0,[])
 |r::l=>match aef P E r with
  |none=>none
  |some (m,v)=>match K5 P E l with
   |none=>none
   |some (m',vs)=>some (Nat.lor m m',v::vs)
theorem Vi{P:Program}{RD:Nat->Prop}{M N:Nat}{E:ESX}{r:ResultVar}{m:Nat}{v:AV}(hR:∀id b,be E.h id=some b->m.testBit id=true->RD id)(h:aef P E r=some (m,v)):acn P RD M N E.st r v:=by unfold aef at h;split at h;simp only[agw,Prod.mk.injEq]at h;obtain⟨rfl,rfl⟩:=h;exact acn.tmp rfl;rename_i t ty;split at h;rename_i id ver o hx;split at h;cases h;rename_i b hb;obtain⟨h1,h2,h3⟩:=b9 hb;split at h;cases h;rename_i hr;split at h;rename_i v' hv;simp only[agw,Prod.mk.injEq]at h;obtain⟨rfl,rfl⟩:=h;exact I7 hr hx h1 (hR id b h1 (wo.2 rfl)) h2 h3 hv;cases h;rename_i n hr;split at h;rename_i ds hv;simp only[agw,Prod.mk.injEq]at h;obtain⟨rfl,rfl⟩:=h;exact acn.cellN hr hx h1 (hR id b h1 (wo.2 rfl)) h2 h3 hv;cases h;cases h
theorem zo{P:Program}{RD:Nat->Prop}{M N:Nat}{E:ESX}:∀(l:List ResultVar) (m:Nat) (vs:List AV),(∀id b,be E.h id=some b->m.testBit id=true->RD id)->K5 P E l=some (m,vs)->AllX P RD M N E.st l vs
 |[],m,vs,_,h=>by simp only[K5,agw,Prod.mk.injEq]at h;obtain⟨rfl,rfl⟩:=h;exact .nil
 |r::l,m,vs,hR,h=>by simp only[K5]at h;split at h;cases h;rename_i m1 v h1;split at h;cases h;rename_i m2 vs2 h2;simp only[agw,Prod.mk.injEq]at h;obtain⟨rfl,rfl⟩:=h;have h0:∀id,(Nat.lor m1 m2).testBit id=(m1.testBit id||m2.testBit id):=fun id=>Nat.testBit_or ..;exact .cons (Vi (fun id b hb hm=>hR id b hb (by rw[h0,hm];rfl)) h1) (zo l m2 vs2 (fun id b hb hm=>hR id b hb (by rw[h0,hm];simp)) h2)
def A6(m u:Nat):Nat:=Nat.mod m (Nat.shiftLeft 1 u)
theorem ui{m u id:Nat}:(A6 m u).testBit id=true↔(id<u/\m.testBit id=true):=by have h:A6 m u=m%2^u:=(by show m%(1<<<u)=_;rw[Nat.one_shiftLeft]);rw[h,Nat.testBit_mod_two_pow,ahs,aht]
def O0(P:Program)(fn:Func)(E:ESX)(u:Nat):Option Rx:=match K5 P E fn.results.toList with
 |none=>none
 |some (m,vs)=>l6 (A6 (Nat.lor E.rd m) u) fun F=>l6 (A6 E.wr u) fun W=>some ⟨F,W,u,E.u,E.h,Sz vs⟩
theorem j6{ys:List AV}{t:Tri AV}(ht:kg 0 ys .nil=some t):bc t=b7 ys:=by funext i;rw[H9 _ _ _ _ ht i];simp only[b7,List.getD];by_cases hi:i<ys.length;rw[dif_pos (by omega)];simp[hi];rw[dif_neg (by omega),List.getElem?_eq_none (Nat.le_of_not_lt hi),J4];rfl
def Ctx.allocO(C:Ctx)(u:Nat)(o:Obj)(b:Blk):Ctx:=
 {ρ:=fun i=>if i=u then(C.w.heap.size,0)else C.ρ i,sz:=C.sz,η:=C.η.set u (some b),U:=fun i=>C.U i\/i=u,T:=C.T,w:=C.w.alloc o}
section
variable{C:Ctx}{u:Nat}{o:Obj}{b:Blk}
theorem my(hg:Good C)(hu:¬C.U u):Ev C (C.allocO u o b) where
 os:=rfl
 tape:=rfl
 output:=rfl
 size:=by simp[Ctx.allocO]
 keep:=fun k hk _=>Below.heap_alloc _ _ _ hk
 mine:=fun k ⟨id,⟨b',hb',h0⟩,hk⟩=>by by_cases e:id=u;right;subst e;simp only[Ctx.allocO,if_true]at hk;omega;left;simp only[Ctx.allocO]at hb' hk;rw[aq _ _ e]at hb';simp only[e,if_false]at hk;exact⟨id,⟨b',hb',h0⟩,hk⟩
 T:=fun _ h=>h
 Tnew:=fun _ h=>.inl h
 U:=fun _ h=>.inl h
 old:=fun id b' h1 hb'=>by have e:id≠u:=fun e=>hu (e▸h1);simp only[Ctx.allocO]at hb';rw[aq _ _ e]at hb';exact⟨b',hb',ag8 _,fun _=>⟨by simp[Ctx.allocO,e],rfl,rfl,rfl⟩⟩
theorem oh(hg:Good C)(hu:¬C.U u)(hk:b.kind=2)(ho:ObjR C b.cs o):Good (C.allocO u o b):=by
 have he:=my (C:=C) (u:=u) (o:=o) (b:=b) hg hu
 have h0:∀{id b'},(C.allocO u o b).η id=some b'->(id=u/\b'=b)\/(id≠u/\C.η id=some b'):=by
  intro id b' hb';simp only[Ctx.allocO]at hb';by_cases e:id=u;subst e;rw[am]at hb';cases hb';exact .inl ⟨rfl,rfl⟩;rw[aq _ _ e]at hb';exact .inr ⟨e,hb'⟩
 have h7:∀{id b'},C.η id=some b'->b'.kind≠1->(C.ρ id).1<C.w.heap.size:=fun hb' hk=>hg.lt ⟨_,hb',hk⟩;refine⟨?_,?_,?_,?_,?_,?_,?_⟩;intro id b' hb';rcases h0 hb' with⟨rfl,rfl⟩|⟨e,hb'⟩;exact .inr rfl;exact .inl (hg.used hb');intro id b' hb' h6;rcases h0 hb' with⟨rfl,rfl⟩|⟨e,hb'⟩;refine⟨o,?_,ho.mono hg he⟩;simp only[Ctx.allocO,if_true];exact heap_alloc_new C.w _;obtain⟨ob,h1,h2⟩:=hg.obj hb' h6;have e1:(C.allocO u o b).ρ id=C.ρ id:=by simp[Ctx.allocO,e]
 rw[e1];exact⟨ob,(Below.heap_alloc _ _ _ (h7 hb' (by rw[h6];decide))).trans h1,h2.mono hg he⟩;intro id b' hb' h6;rcases h0 hb' with⟨rfl,rfl⟩|⟨e,hb'⟩;rw[dj h6]at hk;cases hk;obtain⟨c,t',h1,h2,h3,h4⟩:=hg.blk hb' h6;have e1:(C.allocO u o b).ρ id=C.ρ id:=by simp[Ctx.allocO,e]
 rw[e1];exact⟨c,t',(Below.heap_alloc _ _ _ (h7 hb' (di h6))).trans h1,h2,h3,fun j h h'=>(h4 j h h').mono hg he⟩;rintro id id' ⟨b1,hc,h8⟩ ⟨b2,hd,h9⟩ h;rcases h0 hc with⟨h1,_⟩|⟨e1,ha⟩<;>rcases h0 hd with⟨h2,_⟩|⟨e2,hb⟩;exact h1.trans h2.symm;have:=h7 hb h9
 simp only[Ctx.allocO,h1,if_true,e2,if_false]at h;omega;have:=h7 ha h8
 simp only[Ctx.allocO,h2,if_true,e1,if_false]at h;omega;simp only[Ctx.allocO,e1,e2,if_false]at h;exact hg.inj ⟨b1,ha,h8⟩ ⟨b2,hb,h9⟩ h;refine hg.tokE he.toFr0 fun k hk=>have:=hg.tlt (k:=k) hk;?_
 simp[Ctx.allocO];omega;rintro k ⟨id,⟨b',hb',h6⟩,hk⟩ hT;rcases h0 hb' with⟨rfl,rfl⟩|⟨e,hb'⟩;have:=hg.tlt (k:=k) hT
 simp only[Ctx.allocO,if_true]at hk;omega;simp only[Ctx.allocO,e,if_false]at hk;exact hg.apart ⟨id,⟨b',hb',h6⟩,hk⟩ hT;intro id b' hb' hf h6;rcases h0 hb' with⟨rfl,rfl⟩|⟨e,hb'⟩;rw[dj h6]at hk;cases hk;have e1:(C.allocO u o b).ρ id=C.ρ id:=by simp[Ctx.allocO,e]
 rw[e1];exact hg.tight hb' hf h6
def Ctx.setO(C:Ctx)(id:Nat)(b:Blk)(o:Obj):Ctx:=
 {C with η:=C.η.set id (some b),w:={C.w with heap:=C.w.heap.setIfInBounds (C.ρ id).1 o}}
variable{id:Nat}{b0:Blk}
theorem Km{w:World}{k:Nat}(h:k<w.heap.size):(w.heap.setIfInBounds k o)[k]? =some o:=by rw[Array.getElem?_setIfInBounds,ag2 rfl,ag2 h]
theorem r7{w:World}{k j:Nat}(h:j≠k):(w.heap.setIfInBounds k o)[j]? =w.heap[j]?:=by rw[Array.getElem?_setIfInBounds,ag1 (fun e=>h e.symm)]
theorem qk(hg:Good C)(hb:C.η id=some b0)(h0:b0.kind=2)(hk:b.kind=2)(hv:b.ver=b0.ver)(hz:b.esz=b0.esz):Ev C (C.setO id b o) where
 os:=rfl
 tape:=rfl
 output:=rfl
 size:=by simp[Ctx.setO]
 keep:=fun k _ hm=>r7 (fun e=>hm ⟨id,⟨b0,hb,by rw[h0];decide⟩,e.symm⟩)
 mine:=fun k ⟨id',⟨b',hb',h2⟩,h1⟩=>by left;by_cases e:id'=id;subst e;exact⟨id',⟨b0,hb,by rw[h0];decide⟩,h1⟩;simp only[Ctx.setO]at hb';rw[aq _ _ e]at hb';exact⟨id',⟨b',hb',h2⟩,h1⟩
 T:=fun _ h=>h
 Tnew:=fun _ h=>.inl h
 U:=fun _ h=>h
 old:=fun id' b' hid hb'=>by simp only[Ctx.setO]at hb';by_cases e:id'=id;subst e;rw[am]at hb';cases hb';exact⟨b0,hb,by omega,fun _=>⟨rfl,rfl,hk.trans h0.symm,hz⟩⟩;rw[aq _ _ e]at hb';exact⟨b',hb',ag8 _,fun _=>⟨rfl,rfl,rfl,rfl⟩⟩
theorem rp(hg:Good C)(hb:C.η id=some b0)(h9:b0.kind=2)(hk:b.kind=2)(hv:b.ver=b0.ver)(hz:b.esz=b0.esz)(ho:ObjR C b.cs o):Good (C.setO id b o):=by
 have he:=qk (C:=C) (o:=o) hg hb h9 hk hv hz;have h5:C.live id:=⟨b0,hb,by rw[h9];decide⟩
 have h8:=hg.lt h5
 have h0:∀{id' b'},(C.setO id b o).η id'=some b'->(id'=id/\b'=b)\/(id'≠id/\C.η id'=some b'):=by
  intro id' b' hb';simp only[Ctx.setO]at hb';by_cases e:id'=id;subst e;rw[am]at hb';cases hb';exact .inl ⟨rfl,rfl⟩;rw[aq _ _ e]at hb';exact .inr ⟨e,hb'⟩
 have h7:∀{id' b'},(C.setO id b o).η id'=some b'->b'.kind≠1->C.live id':=by
  intro id' b' hb' h6;rcases h0 hb' with⟨rfl,rfl⟩|⟨_,h⟩;exact h5;exact⟨b',h,h6⟩
 have ha:∀{id' b'},id'≠id->C.η id'=some b'->b'.kind≠1->(C.ρ id').1≠(C.ρ id).1:=fun hi hb' h6 e=>hi (hg.inj ⟨_,hb',h6⟩ h5 e);refine⟨?_,?_,?_,?_,?_,?_,?_⟩;intro id' b' hb';rcases h0 hb' with⟨rfl,rfl⟩|⟨e,hb'⟩;exact hg.used hb;exact hg.used hb';intro id' b' hb' h6;rcases h0 hb' with⟨rfl,rfl⟩|⟨e,hb'⟩;exact⟨o,Km h8,ho.mono hg he⟩;obtain⟨ob,h1,h2⟩:=hg.obj hb' h6;exact⟨ob,(r7 (ha e hb' (by rw[h6];decide))).trans h1,h2.mono hg he⟩;intro id' b' hb' h6;rcases h0 hb' with⟨rfl,rfl⟩|⟨e,hb'⟩;rw[dj h6]at hk;cases hk;obtain⟨c,t',h1,h2,h3,h4⟩:=hg.blk hb' h6;exact⟨c,t',(r7 (ha e hb' (di h6))).trans h1,h2,h3,fun j h h'=>(h4 j h h').mono hg he⟩;rintro i i' ⟨b1,hc,hd⟩ ⟨b2,hf,hh⟩ h;exact hg.inj (h7 hc hd) (h7 hf hh) h;refine hg.tokE he.toFr0 fun k hk=>?_
 have:=hg.tlt (k:=k) hk;simpa[Ctx.setO]using this;rintro k ⟨i,⟨b',hb',h6⟩,hk⟩ hT;exact hg.apart ⟨i,h7 hb' h6,hk⟩ hT;intro id' b' hb' hj h6;rcases h0 hb' with⟨rfl,rfl⟩|⟨e,hb'⟩;rw[dj h6]at hk;cases hk;exact hg.tight hb' hj h6
end
def Sb:List AV->Option (List (Value×AV×Nat))
 |[]=>some []
 |.agg [.v k,a,.v (.int .i64 (.ofNat n))]::l=>match Sb l with
  |some r=>some ((k,a,n)::r)
  |none=>none
 |_=>none
theorem Uk:∀(l:List AV) (es:List (Value×AV×Nat)),Sb l=some es->l=es.map fun e=>.agg [.v e.1,e.2.1,.v (.int .i64 (Int.ofNat e.2.2))]:=by
 intro l
 induction l with
 |nil=>intro es h;simp only[Sb,agw]at h;subst h;rfl
 |cons x l ih=>
  intro es h
  unfold Sb at h
  split at h
  ·rename_i e;cases e
  ·rename_i k a n l' e
   obtain⟨rfl,rfl⟩:=List.cons.inj e
   split at h
   ·rename_i r hr
    simp only[agw]at h
    subst h
    rw[ahh,<-ih _ hr]
   ·cases h
  ·cases h
def J1:List AV->Option (Nat×List (Value×AV×Nat))
 |.v (.int .i64 (.ofNat 0))::.v (.int .i64 (.ofNat clock))::l=>match Sb l with
  |some es=>some (clock,es)
  |none=>none
 |_=>none
theorem Pc{cs:List AV}{clock:Nat}{es:List (Value×AV×Nat)}(h:J1 cs=some (clock,es)):cs=i7 clock es:=by unfold J1 at h;split at h;rename_i clock' l;split at h;rename_i es' he;simp only[agw,Prod.mk.injEq]at h;obtain⟨rfl,rfl⟩:=h;unfold i7;rw[<-Uk _ _ he];rfl;cases h;cases h
def b5(ver esz clock:Nat)(es:List (Value×AV×Nat)):Blk:=⟨ver,i7 clock es,esz,true⟩
theorem B3:∀{es es':List (Value×AV×Nat)},(es.map fun e=>AV.agg [.v e.1,e.2.1,.v (.int .i64 (Int.ofNat e.2.2))])=(es'.map fun e=>.agg [.v e.1,e.2.1,.v (.int .i64 (Int.ofNat e.2.2))])->es=es'
 |[],[],_=>rfl
 |[],_::_,h=>by cases h
 |_::_,[],h=>by cases h
 |(k,a,n)::l,(k',a',n')::l',h=>by simp only[ahh,List.cons.injEq,AV.agg.injEq,AV.v.injEq,Value.int.injEq,Int.ofNat.injEq,and_true,true_and]at h;obtain⟨⟨rfl,rfl,h3⟩,h4⟩:=h;have h0:n=n':=(by first|exact h3|exact Int.ofNat.inj h3|simpa using h3);subst h0;rw[B3 h4]
theorem ObjR.map_inv{C:Ctx}{clock:Nat}{es:List (Value×AV×Nat)}{o:Obj}(h:ObjR C (i7 clock es) o):∃entries,o=.map entries clock/\es.length=entries.size/\∀i (h:i<es.length) (h':i<entries.size),entries[i].key=es[i].1/\VR C es[i].2.1 entries[i].val/\entries[i].born=es[i].2.2:=by
 generalize hc:i7 clock es=cs at h;cases h with
 |map hl hi=>
  rename_i es' entries clock'
  unfold i7 at hc
  simp only[List.cons.injEq,AV.v.injEq,Value.int.injEq,true_and]at hc
  obtain⟨h1,h2⟩:=hc
  have h0:clock=clock':=Int.ofNat.inj h1
  subst h0
  obtain rfl:=B3 h2
  exact⟨entries,rfl,hl,hi⟩
 |siter=>exact absurd (List.cons.inj hc).1 (by simp)
 |miter0=>exact absurd (List.cons.inj hc).1 (by simp)
 |miter _=>exact absurd (List.cons.inj hc).1 (by simp)
def qa(η:bf)(id ver:Nat):Option (Blk×Nat×List (Value×AV×Nat)):=match η id with
 |some b=>bif Nat.beq b.ver ver&&b.nilp then(match J1 b.cs with
  |some (clock,es)=>some (b,clock,es)
  |none=>none)else none
 |none=>none
theorem jp{η:bf}{id ver clock:Nat}{b:Blk}{es:List (Value×AV×Nat)}(h:qa η id ver=some (b,clock,es)):η id=some b/\b=b5 ver b.esz clock es:=by
 unfold qa at h
 cases hb:η id with
 |none=>rw[hb]at h;cases h
 |some b'=>
  rw[hb]at h
  simp only at h
  cases hc:(Nat.beq b'.ver ver&&b'.nilp)with
  |false=>rw[hc]at h;simp at h
  |true=>
   rw[hc]at h
   simp only[cond_true]at h
   rw[ahs]at hc
   split at h
   ·rename_i cl es' hm
    simp only[agw,Prod.mk.injEq]at h
    obtain⟨rfl,rfl,rfl⟩:=h
    refine⟨rfl,?_⟩
    obtain⟨v,cs,z,n⟩:=b'
    have e1:=agv hc.1
    have e2:=hc.2
    have e3:=Pc hm
    simp only at e1 e2 e3
    subst e1 e2 e3
    rfl
   ·cases h
theorem VR.mp_inv{C:Ctx}{id ver:Nat}{b:Blk}{x:Value}(h:VR C (.mp id ver) x)(hb:C.η id=some b)(hv:b.ver=ver):x=.map (some (C.ρ id).1):=by
 cases h with
 |imm h=>cases h
 |mp _ _ _=>rfl
 |stalem _ _ hs=>have:=hs b hb;omega
theorem VR.it_inv{C:Ctx}{id ver:Nat}{b:Blk}{x:Value}(h:VR C (.it id ver) x)(hb:C.η id=some b)(hv:b.ver=ver):x=.pointer (some ⟨(C.ρ id).1,0,none⟩):=by
 cases h with
 |imm h=>cases h
 |it _ _ _=>rfl
 |stalei _ _ hs=>have:=hs b hb;omega
theorem ya{α β:Type}{P:Program}:∀(s:Sem α) (f:α->Sem β) (b:β),da P (s.bind f)=some b->∃a,da P s=some a/\da P (f a)=some b:=by
 intro s
 induction s with
 |pure a=>intro f b h;exact⟨a,rfl,h⟩
 |program k ih=>intro f b h;exact ih P f b h
 |mark m k ih=>intro f b h;exact ih f b h
 |choose q k ih=>
  intro f b h
  simp only[Sem.bind,da]at h
  cases hq:q.forced with
  |false=>rw[hq]at h;simp at h
  |true=>
   rw[hq]at h
   simp only[cond_true]at h
   obtain⟨a,h1,h2⟩:=ih 0 f b h
   exact⟨a,by simp only[da,hq,cond_true];exact h1,h2⟩
 |_=>intro f b h;simp[Sem.bind,da]at h
def so(es:List MapEntry)(i0:Nat)(r0 r1:Option (Nat×Value)):Prop:=match r0 with
 |none=>r1=none
 |some (i,_)=>∃j e,i=i0+j/\es[j]? =some e/\r1=some (i,e.val)
theorem tf{e:MapEntry}{es:List MapEntry}{i0:Nat}{r0 r1:Option (Nat×Value)}(h:so es (i0+1) r0 r1):so (e::es) i0 r0 r1:=by
 unfold so at h ⊢
 cases r0 with
 |none=>exact h
 |some q=>
  obtain⟨j,e',h1,h2,h3⟩:=h
  exact⟨j+1,e',by omega,by simpa using h2,h3⟩
theorem th{kd:TypeDesc}{k:Value}:∀(es es':List MapEntry) (i:Nat) (r0:Option (Nat×Value)),es.map (·.key)=es'.map (·.key)->Instr.findNow kd k es i=some r0->∃r1,Instr.findNow kd k es' i=some r1/\so es' i r0 r1
 |[],[],i,r0,_,h=>by
  simp only[Instr.findNow,agw]at h
  subst h
  exact⟨none,rfl,rfl⟩
 |[],_::_,_,_,hk,_=>by simp at hk
 |_::_,[],_,_,hk,_=>by simp at hk
 |e::es,e'::es',i,r0,hk,h=>by
  simp only[ahh,List.cons.injEq]at hk
  simp only[Instr.findNow,hk.1]at h ⊢
  cases hs:Instr.sameNow kd k e'.key with
  |none=>rw[hs]at h;cases h
  |some b=>
   rw[hs]at h
   cases b with
   |true=>
    simp only[agw]at h
    subst h
    exact⟨_,rfl,0,e',rfl,rfl,rfl⟩
   |false=>
    obtain⟨r1,h1,h2⟩:=th es es' (i+1) r0 hk.2 h
    exact⟨r1,h1,tf h2⟩
theorem tg{kd:TypeDesc}{k:Value}:∀(es es':List MapEntry) (i:Nat),es.map (·.key)=es'.map (·.key)->Instr.findNow kd k es i=none->Instr.findNow kd k es' i=none
 |[],[],i,_,h=>by simp[Instr.findNow]at h
 |[],_::_,_,hk,_=>by simp at hk
 |_::_,[],_,hk,_=>by simp at hk
 |e::es,e'::es',i,hk,h=>by
  simp only[ahh,List.cons.injEq]at hk
  simp only[Instr.findNow,hk.1]at h ⊢
  cases hs:Instr.sameNow kd k e'.key with
  |none=>rfl
  |some b=>
   rw[hs]at h
   cases b with
   |true=>cases h
   |false=>exact tg es es' (i+1) hk.2 h
theorem n7{P:Program}{kt:TypeId}{k:Value}:∀(es es':List MapEntry) (i:Nat) (r0:Option (Nat×Value)),es.map (·.key)=es'.map (·.key)->da P (Instr.findAsking kt k es i)=some r0->∃r1,da P (Instr.findAsking kt k es' i)=some r1/\so es' i r0 r1
 |[],[],i,r0,_,h=>by
  have h':some (none:Option (Nat×Value))=some r0:=h
  simp only[agw]at h'
  subst h'
  exact⟨none,rfl,rfl⟩
 |[],_::_,_,_,hk,_=>by simp at hk
 |_::_,[],_,_,hk,_=>by simp at hk
 |e::es,e'::es',i,r0,hk,h=>by
  simp only[ahh,List.cons.injEq]at hk
  simp only[Instr.findAsking]at h ⊢
  rw[hk.1]at h
  obtain⟨b,h1,h2⟩:=ya _ _ _ h
  have up:∀(f g:Bool->Sem (Option (Nat×Value))) r1,da P (g b)=some r1->da P ((Op.equal kt k e'.key).bind g)=some r1:=by
   intro f g r1 hg
   have key:∀(s:Sem Bool) (b:Bool),da P s=some b->da P (g b)=some r1->da P (s.bind g)=some r1:=by
    intro s
    induction s with
    |pure a=>intro b h hg;simp only[da,agw]at h;subst h;exact hg
    |program k ih=>intro b h hg;exact ih P b h hg
    |mark m k ih=>intro b h hg;exact ih b h hg
    |choose q k ih=>
     intro b h hg
     simp only[Sem.bind,da]at h ⊢
     cases hq:q.forced with
     |false=>rw[hq]at h;simp at h
     |true=>
      rw[hq]at h
      simp only[cond_true]at h ⊢
      exact ih 0 b h hg
    |_=>intro b h hg;simp[da]at h
   exact key _ b h1 hg
  cases b with
  |true=>
   have h0:some (some (i,e.val))=some r0:=h2
   simp only[agw]at h0
   subst h0
   exact⟨some (i,e'.val),up (fun _=>.pure none) _ _ rfl,0,e',rfl,rfl,rfl⟩
  |false=>
   obtain⟨r1,g1,g2⟩:=n7 es es' (i+1) r0 hk.2 h2
   exact⟨r1,up (fun _=>.pure none) _ _ g1,tf g2⟩
theorem tz{P:Program}{t:TypeId}{d:TypeDesc}(h:da P (underlying t)=some d):P.underlying t=some d:=by
 have h':da P (match P.underlying t with|some d=>(pure d:Sem TypeDesc)|none=>stuck "no such type")=some d:=h
 cases hu:P.underlying t with
 |none=>rw[hu]at h';cases h'
 |some d'=>
  rw[hu]at h'
  have h'':some d'=some d:=h'
  exact h''
theorem tj{P:Program}{kt:TypeId}{k:Value}{es es':List MapEntry}{r0:Option (Nat×Value)}(hk:es.map (·.key)=es'.map (·.key))(h:da P (Instr.findKey kt k es)=some r0)(w:World):∃r1,(Instr.findKey kt k es').run P w=.ok r1 w/\so es' 0 r0 r1:=by
 unfold Instr.findKey at h ⊢;obtain⟨d,h1,h2⟩:=ya _ _ _ h;have hu:=tz h1
 rw[Sem.run_bind,run_underlying hu];simp only[ahc];cases hn:Instr.findNow d k es 0 with
 |some r=>
  rw[hn]at h2
  have h0:some r=some r0:=h2
  simp only[agw]at h0
  subst h0
  obtain⟨r1,g1,g2⟩:=th es es' 0 r hk hn
  rw[g1]
  exact⟨r1,rfl,g2⟩
 |none=>
  rw[hn]at h2
  rw[tg es es' 0 hk hn]
  obtain⟨r1,g1,g2⟩:=n7 es es' 0 r0 hk h2
  exact⟨r1,iz _ _ g1 w,g2⟩
def d5(es:List (Value×AV×Nat)):List MapEntry:=es.map fun e=>⟨e.1,undef,e.2.2⟩
def pg(P:Program)(kt:TypeId)(k:Value)(es:List (Value×AV×Nat)):Option (Option Nat):=
 match da P (Instr.checkKey es.isEmpty 10000 kt k)with
 |none=>none
 |some _=>match da P (Instr.findKey kt k (d5 es))with
  |none=>none
  |some none=>some none
  |some (some (i,_))=>some (some i)
theorem kv{P:Program}{kt:TypeId}{k:Value}{C:Ctx}{es:List (Value×AV×Nat)}{entries:Array MapEntry}{r:Option Nat}(hl:es.length=entries.size)(hi:∀i (h:i<es.length) (h':i<entries.size),entries[i].key=es[i].1/\VR C es[i].2.1 entries[i].val/\entries[i].born=es[i].2.2)
 (h:pg P kt k es=some r)(w:World):(∀e,(Instr.checkKey e 10000 kt k).run P w=.ok () w\/e≠es.isEmpty)/\(r=none/\(Instr.findKey kt k entries.toList).run P w=.ok none w\/∃i,r=some i/\∃(h1:i<entries.size),(Instr.findKey kt k entries.toList).run P w=.ok (some (i,entries[i].val)) w):=by
 unfold pg at h
 split at h
 ·cases h
 ·rename_i q hq
  have h3:=iz _ _ hq w
  have h0:(d5 es).map (·.key)=entries.toList.map (·.key):=by apply List.ext_getElem;simp[d5,hl];intro i h1 h2;simp only[d5,ag0]at h1;simp only[ag0,Array.length_toList]at h2;simp[d5,(hi i h1 h2).1]
  refine⟨fun e=>?_,?_⟩
  ·by_cases he:e=es.isEmpty
   ·subst he;exact .inl h3
   ·exact .inr he
  ·split at h
   ·cases h
   ·rename_i hf
    simp only[agw]at h
    subst h
    obtain⟨r1,g1,g2⟩:=tj h0 hf w
    have g2':r1=none:=g2
    subst g2'
    exact .inl ⟨rfl,g1⟩
   ·rename_i i v hf
    simp only[agw]at h
    subst h
    obtain⟨r1,g1,j,e,e1,e2,e3⟩:=tj h0 hf w
    subst e3
    have e1':i=j:=by omega
    subst e1'
    rw[Array.getElem?_toList]at e2
    obtain⟨h4,he⟩:=Array.getElem?_eq_some_iff.1 e2
    subst he
    exact .inr ⟨i,rfl,h4,g1⟩
end Go.Proofs.YtmbmbhkemgmhfaaGreatDoor
