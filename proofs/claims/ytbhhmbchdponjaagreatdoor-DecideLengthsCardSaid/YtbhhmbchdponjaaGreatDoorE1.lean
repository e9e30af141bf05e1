/- Texts of the claim. -/
import Derived.RangeFuncCalls
import Derived.RangeFuncLeaves
import Derived.TacticsIn
import Derived.OrdersIn
import Derived.Test.YtbhhmbchdponjaaGreatDoorA2
namespace Go.Proofs.YtbhhmbchdponjaaGreatDoor
open Go.RowKit
def FOk(F:Fence):Prop:=F=Fence.wide\/∃l,F=Fence.wide.inRound l
theorem FOk.wide:FOk Fence.wide:=.inl rfl
theorem FOk.fn{F:Fence}(h:FOk F)(f:FuncId):F.fn f:=by rcases h with rfl|⟨l,rfl⟩<;>trivial
theorem FOk.depth{F:Fence}(h:FOk F):F.depth=none:=by rcases h with rfl|⟨l,rfl⟩<;>rfl
theorem FOk.calls{F:Fence}(h:FOk F){n:Nat}{P:Program}{f:FuncId}{args:Array Value}{w:World}{R:Ending->World->Prop}(hc:Calls P f args w R):CallsIn F n P f args w R:=by rcases h with rfl|⟨l,rfl⟩;exact callsIn_wide.2 hc;exact CallsIn.inRound l (callsIn_wide.2 hc)
theorem Zc{F:Fence}{P:Program}{o:Oper}{a:Act}{w:World}{K:Act->World->Prop}{Q:Exit->Act->World->Prop}{n:Nat}(hF:FOk F)(hd:∀c,o.op≠.defer c)(h:o.wp P a w K Q):o.wpIn F n P a w K Q:=by
 refine⟨fun _ _=>hF.fn _,?_⟩;rw[Oper.semAt_eq _ _ _ hd];unfold Oper.wp at h;revert h;generalize(execOp a.eval o).run P w=r;intro h;unfold Oper.upon at h;unfold Oper.uponIn;split at h;exact h;exact h;exact h;exact⟨fun e=>(by rw[hF.depth]at e;cases e),hF.calls h⟩
 exact⟨fun e=>(by rw[hF.depth]at e;cases e),fun c cs _=>by
  obtain⟨v,w1,r,s⟩:=h c cs;rcases hF with rfl|⟨l,rfl⟩;exact⟨v,w1,r,(stepsIn_wide (P:=P)).2 s⟩;exact⟨v,w1,r,(stepsIn_wide (P:=P)).2 s⟩⟩
 exact h;cases h
theorem Hy{F:Fence}{q:Nat}{P:Program}{c:Code}{Q:Exit->Act->World->Prop}(I:Nat->Act->World->Prop)(round:∀n a w,I n a w->c.wpIn F q P (Exit.then (fun a' w'=>∃m,m<n/\I m a' w') Q) a w){n:Nat}{a:Act}{w:World}(h0:I n a w):(Code.loop c).wpIn F q P Q a w:=by
 intro b k cs hc hb hr
 have key:∀n a w,I n a w->∃e a' w',Q e a' w'/\ArrivesIn (Machine.fenced P F) P (lone (b.atR a (.code c::.inLoop c::k)) cs w) b k cs e a' w':=by
  intro n;induction n using Nat.strongRecOn with
  |_ n ih=>
   intro a w hI
   obtain⟨e,a₁,w₁,hq,ha⟩:=round n a w hI b (.inLoop c::k) cs hc hb hr
   cases e with
   |normal=>
    obtain⟨m,hd,hI₁⟩:=hq
    obtain⟨e₂,a₂,w₂,hq₂,harr₂⟩:=ih m hd a₁ w₁ hI₁
    exact⟨e₂,a₂,w₂,hq₂,.of_steps (StepsIn.trans ha (.one (fenced_calm hb hr rfl) stepR_inLoop)) harr₂⟩
   |exit id=>exact⟨_,a₁,w₁,hq,.pass (x:=.inLoop c) rfl (fun _ _=>.inl (by simp)) ha⟩
   |goto l=>exact⟨_,a₁,w₁,hq,.pass (x:=.inLoop c) rfl (fun _ _=>.inl (by simp)) ha⟩
   |ret=>exact⟨_,a₁,w₁,hq,.pass (x:=.inLoop c) rfl (fun _ _=>.inl (by simp)) ha⟩
   |panic ch=>exact⟨_,a₁,w₁,hq,.pass (x:=.inLoop c) rfl (fun _ _=>.inl (by simp)) ha⟩
   |outgrown=>exact⟨_,a₁,w₁,hq,.pass (x:=.inLoop c) rfl (fun _ _=>.inl (by simp)) ha⟩
 obtain⟨e,a',w',hq,ha⟩:=key n a w h0;exact⟨e,a',w',hq,.of_steps (.one (fenced_calm hb hr rfl) stepR_loop) ha⟩
set_option linter.unusedVariables false
set_option linter.unusedSimpArgs false
structure Rc where
 F:Nat
 W:Nat
 u0:Nat
 u:Nat
 η:bi
 v:AV
def Rc.D(r:Rc)(id:Nat):Bool:=r.W.testBit id||(Nat.ble r.u0 id&&Nat.ble (id+1) r.u)
theorem Rc.D_iff{r:Rc}{id:Nat}:r.D id=true↔(r.W.testBit id=true\/(r.u0<=id/\id<r.u)):=by unfold Rc.D;rw[Bool.or_eq_true,ahq,Nat.ble_eq,Nat.ble_eq];rfl
structure Fits(η:bi)(r:Rc):Prop where
 le:r.u0<=r.u
 same:∀id,r.D id=false->r.η id=η id
 sub:∀id,r.W.testBit id=true->r.F.testBit id=true
 low:∀id,r.F.testBit id=true->id<r.u0
def rq(P:Program)(o:Oper)(τ:Nat->AV)(η:bi)(r:Rc):Prop:=
 ∀(C:Ctx) (a:Act),Good C->(∀x∈o.op.operands,VR C (aev τ x) (a.eval x))->(∀id,r.F.testBit id=true->C.η id=η id)->(∀id,r.u0<=id->id<r.u->¬C.U id)->
  ∀(K:Act->World->Prop) (Q:Exit->Act->World->Prop),
   (∀x C',(∀id,C'.η id=if r.D id=true then r.η id else C.η id)->(∀id,C'.U id->C.U id\/r.D id=true)->Good C'->Ev C C'->VR C' r.v x->K (a.put o.dst x) C'.w)->o.wp P a C.w K Q
def fv:List Nat->Nat
 |[]=>0
 |i::l=>Nat.lor (Nat.shiftLeft 1 i) (fv l)
theorem wt{i j:Nat}:(Nat.shiftLeft 1 i).testBit j=true↔j=i:=by have h:Nat.shiftLeft 1 i=1<<<i:=rfl;rw[h,Nat.one_shiftLeft,Nat.testBit_two_pow];simp[eq_comm]
theorem B0:∀{l:List Nat} {i:Nat},(fv l).testBit i=true↔i∈l
 |[],i=>by simp[fv]
 |j::l,i=>by have h:fv (j::l)=Nat.shiftLeft 1 j|||fv l:=rfl;rw[h,Nat.testBit_or,Bool.or_eq_true,wt,B0,ahi]
section
variable{P:Program}{o:Oper}{τ:Nat->AV}{η:bi}{fp:List Nat}{v:AV}{u:Nat}
theorem LOp.toX(h:LOp P o τ η fp [] v):rq P o τ η ⟨fv fp,0,u,u,η,v⟩:=by
 intro C a hg hx hF hN K Q hK
 have hD:∀id,(⟨fv fp,0,u,u,η,v⟩:Rc).D id=false:=fun id=>by
  cases hd:(⟨fv fp,0,u,u,η,v⟩:Rc).D id with
  |false=>rfl
  |true=>
   rcases Rc.D_iff.1 hd with h1|⟨h1,h2⟩
   ·simp at h1
   ·simp only at h1 h2;omega
 refine h C a hg hx (fun id ha=>hF id (B0.2 ha)) (fun p hp=>by cases hp) K Q (fun x C' hη hU hb he hv=>hK x C' (fun id=>?_) (fun id ha=>?_) hb he hv)
 ·rw[hD id,hη];rfl
 ·rcases(hU id).1 ha with h1|h1
  ·exact .inl h1
  ·cases h1
theorem LOp.toX_old{id:Nat}{b:Option Blk}(h:LOp P o τ η fp [(id,b)] v)(ha:id∈fp):rq P o τ η ⟨fv fp,Nat.shiftLeft 1 id,u,u,η.set id b,v⟩:=by
 intro C a hg hx hF hN K Q hK
 have hD:∀i,(⟨fv fp,Nat.shiftLeft 1 id,u,u,η.set id b,v⟩:Rc).D i=true↔i=id:=fun i=>by
  rw[Rc.D_iff];simp only[wt];constructor;rintro(h1|⟨h1,h2⟩);exact h1;omega;exact .inl
 refine h C a hg hx (fun id ha=>hF id (B0.2 ha)) (fun p hp hb=>by simp only[agx]at hp;subst hp;exact absurd ha hb) K Q (fun x C' hη hU hc he hv=>hK x C' (fun i=>?_) (fun i hi=>?_) hc he hv);rw[hη];by_cases e:i=id;subst e;rw[ag1 ((hD i).2 rfl)];show(C.η.set i b) i=(η.set i b) i
 rw[ak,ak];rw[ag0 (fun h=>e ((hD i).1 h))];show(C.η.set id b) i=_
 rw[am _ _ e];rcases(hU i).1 hi with h1|h1;exact .inl h1;simp only[ahg,List.map_nil,agx]at h1;exact .inr ((hD i).2 h1)
theorem LOp.toX_new{b:Option Blk}(h:LOp P o τ η fp [(u,b)] v):rq P o τ η ⟨fv fp,0,u,u+1,η.set u b,v⟩:=by
 intro C a hg hx hF hN K Q hK;have hD:∀i,(⟨fv fp,0,u,u+1,η.set u b,v⟩:Rc).D i=true↔i=u:=fun i=>by rw[Rc.D_iff];simp only[Nat.zero_testBit,Bool.false_eq_true,false_or];omega
 refine h C a hg hx (fun id ha=>hF id (B0.2 ha)) (fun p hp hnp=>by simp only[agx]at hp;subst hp;exact hN u (ag7 _) (Nat.lt_succ_self _)) K Q (fun x C' hη hU hb he hv=>hK x C' (fun i=>?_) (fun i hi=>?_) hb he hv);rw[hη];by_cases e:i=u;subst e;rw[ag1 ((hD i).2 rfl)];show(C.η.set i b) i=(η.set i b) i
 rw[ak,ak];rw[ag0 (fun h=>e ((hD i).1 h))];show(C.η.set u b) i=_
 rw[am _ _ e];rcases(hU i).1 hi with h1|h1;exact .inl h1;simp only[ahg,List.map_nil,agx]at h1;exact .inr ((hD i).2 h1)
end
structure SRelX(DS:List Deferred)(RD:Nat->Prop)(M N:Nat)(C:Ctx)(s:St)(a:Act):Prop where
 good:Good C
 η:∀id,RD id->C.η id=s.η id
 free:∀id,s.u<=id->id<M->¬C.U id
 defers:a.defers=DS
 size:a.tmps.size=N
 τ:∀t,VR C (s.τ t) (a.eval (.tmp t))
structure FrX(WD:Nat->Prop)(C C':Ctx):Prop where
 ev:Ev C C'
 η:∀id,¬WD id->C'.η id=C.η id
 U:∀id,C'.U id->C.U id\/WD id
theorem FrX.refl{WD:Nat->Prop}(C:Ctx):FrX WD C C:=⟨Ev.refl C,fun _ _=>rfl,fun _ h=>.inl h⟩
theorem FrX.trans{WD:Nat->Prop}{A B C:Ctx}(h:FrX WD A B)(k:FrX WD B C):FrX WD A C:=
 ⟨h.ev.trans k.ev,fun id ha=>(k.η id ha).trans (h.η id ha),fun id ha=>(k.U id ha).elim (fun h1=>h.U id h1) .inr⟩
section
variable{DS:List Deferred}{P:Program}{RD WD:Nat->Prop}{M N:Nat}{C C':Ctx}{s:St}{a:Act}
theorem SRelX.eval(h:SRelX DS RD M N C s a)(x:Operand):VR C (aev s.τ x) (a.eval x):=by
 cases x with
 |tmp t=>exact h.τ t
 |const c=>exact VR.v C c
 |global g=>exact VR.v C _
 |func f=>exact .imm (.clo (by simp) (fun i hi=>by simp at hi))
theorem SRelX.put(h:SRelX DS RD M N C s a)(he:Ev C C')(hg:Good C'){η':bi}{u':Nat}(hη:∀id,RD id->C'.η id=η' id)(hu:∀id,u'<=id->id<M->¬C'.U id){dst:Option Tmp}(hd:∀d,dst=some d->d<N){v:AV}{x:Value}(hv:VR C' v x):
 SRelX DS RD M N C' ⟨kj s.τ dst v,η',u'⟩ (a.put dst x):=by
 refine⟨hg,hη,hu,?_,?_,fun t=>?_⟩
 ·cases dst<;>simp[Act.put,h.defers]
 ·cases dst<;>simp[Act.put,h.size]
 ·cases dst with
  |none=>exact(h.τ t).mono h.good he
  |some d=>
   have ha:d<a.tmps.size:=by rw[h.size];exact hd d rfl
   by_cases e:t=d
   ·subst e
    have e1:kj s.τ (some t) v t=v:=by simp[kj,upd,cond]
    have e2:(a.put (some t) x).eval (.tmp t)=x:=by simp[Act.eval,Act.put,ha]
    rw[e2];show VR C' (kj s.τ (some t) v t) x;rw[e1];exact hv
   ·have e1:kj s.τ (some d) v t=s.τ t:=by
     have:Nat.beq t d=false:=by
      cases hb:Nat.beq t d with
      |false=>rfl
      |true=>exact absurd (agu hb) e
     simp[kj,upd,cond,this]
    have e2:(a.put (some d) x).eval (.tmp t)=a.eval (.tmp t):=Act.eval_put (fun q hq=>by cases hq;simp;exact e)
    rw[e2];show VR C' (kj s.τ (some d) v t) _;rw[e1];exact(h.τ t).mono h.good he
theorem eu{ops:Array Oper}{o:Oper}{b:Bool}(h:m8 ops s.τ o=some b)(hr:SRelX DS RD M N C s a)(hd:∀j c,o.guard=some (j,c)->∀d,(ops[j]?).bind (·.dst)=some d->d<N):
 Region.wanted o (yielded ops a.tmps)=b:=by
 unfold m8 at h
 unfold Region.wanted
 cases hg:o.guard with
 |none=>rw[hg]at h;simpa using h
 |some p=>
  obtain⟨j,c⟩:=p
  rw[hg]at h
  simp only at h ⊢
  cases hj:(ops[j]?).bind (·.dst)with
  |none=>rw[hj]at h;cases h
  |some d=>
   rw[hj]at h
   simp only at h
   have ha:=hd j c hg d hj
   rw[<-hr.size]at ha
   have h2:=hr.τ d
   cases e:s.τ d with
   |v x=>
    rw[e]at h h2
    cases x with
    |bool t=>
     have h3:=h2.v_inv
     have h4:a.tmps[d]? =some (.bool t):=by simp only[Act.eval]at h3;rw[Array.getD_eq_getD_getElem?]at h3;rw[Array.getElem?_eq_getElem ha]at h3 ⊢;simpa using h3
     simp only[yielded,hj,aho,h4]
     simp only[agv]at h
     rw[<-h]
     cases t<;>cases c<;>rfl
    |tuple l=>
     have h3:=h2.v_inv
     have h4:a.tmps[d]? =some (.tuple l):=by simp only[Act.eval]at h3;rw[Array.getD_eq_getD_getElem?]at h3;rw[Array.getElem?_eq_getElem ha]at h3 ⊢;simpa using h3
     simp only[yielded,hj,aho,h4]
     simp only[agv]at h
     rw[<-h]
     rfl
    |_=>simp at h
   |_=>rw[e]at h;simp at h
end
def t8(P:Program)(RD WD:Nat->Prop)(M N:Nat)(c:Code)(Q:Exit->St->Prop)(s:St):Prop:=
 ∀(F:Fence),FOk F->∀(n:Nat) (DS:List Deferred) C a,SRelX DS RD M N C s a->c.wpIn F n P (fun e a' w'=>∃s' C',Q e s'/\C'.w=w'/\SRelX DS RD M N C' s' a'/\FrX WD C C') a C.w
def sg(o:Oper)(r:Rc)(s:St):St:=⟨kj s.τ o.dst r.v,r.η,r.u⟩
structure FactX(P:Program)(N:Nat)(ops:Array Oper)(o:Oper)(r:Rc)(s:St):Prop where
 dst:jh N ops o=true
 u:r.u0=s.u
 fits:Fits s.η r
 how:(m8 ops s.τ o=some true/\rq P o s.τ s.η r)\/(m8 ops s.τ o=some false/\r.v=.v undef/\r.F=0/\r.u=s.u)
inductive SeqX(P:Program)(N:Nat)(ops:Array Oper):List Oper->St->List Rc->St->Prop where
 |nil {s:St}:SeqX P N ops [] s [] s
 |cons {o:Oper} {l:List Oper} {s s':St} {r:Rc} {rs:List Rc}:FactX P N ops o r s->SeqX P N ops l (sg o r s) rs s'->SeqX P N ops (o :: l) s (r :: rs) s'
structure Inn(RD WD:Nat->Prop)(M:Nat)(r:Rc):Prop where
 rd:∀id,r.F.testBit id=true->RD id
 rn:∀id,r.u0<=id->id<r.u->RD id
 wd:∀id,r.D id=true->WD id
 u:r.u<=M
section
variable{DS:List Deferred}{P:Program}{RD WD:Nat->Prop}{M N:Nat}{s s':St}{Q:Exit->St->Prop}
theorem FactX.skip_D{ops:Array Oper}{o:Oper}{r:Rc}(hf:FactX P N ops o r s)(h:r.F=0/\r.u=s.u):∀id,r.D id=false:=by
 intro id
 cases hd:r.D id with
 |false=>rfl
 |true=>
  rcases Rc.D_iff.1 hd with h1|⟨h1,h2⟩
  ·have:=hf.fits.sub id h1
   rw[h.1]at this
   simp at this
  ·have:=hf.u
   have:=h.2
   omega
theorem SRelX.step{C C':Ctx}{a:Act}{o:Oper}{r:Rc}{x:Value}{ops:Array Oper}(hr:SRelX DS RD M N C s a)(hf:FactX P N ops o r s)(hi:Inn RD WD M r)(h1:∀id,C'.η id=if r.D id=true then r.η id else C.η id)(h2:∀id,C'.U id->C.U id\/r.D id=true)(hg:Good C')(he:Ev C C')(hv:VR C' r.v x):
 SRelX DS RD M N C' (sg o r s) (a.put o.dst x)/\FrX WD C C':=by
 refine⟨hr.put he hg (fun id ha=>?_) (fun id hle hb hu=>?_) (jh.dst hf.dst) hv,he,fun id ha=>?_,fun id ha=>(h2 id ha).imp (fun h=>h) (hi.wd id)⟩
 ·rw[h1 id]
  cases hd:r.D id with
  |true=>rw[ag1 rfl]
  |false=>rw[ag0 (by simp),hr.η id ha,hf.fits.same id hd]
 ·rcases h2 id hu with h|h
  ·exact hr.free id (by have:=hf.u;have:=hf.fits.le;omega) hb h
  ·rcases Rc.D_iff.1 h with h3|h3
   ·have:=hf.fits.low id (hf.fits.sub id h3)
    have:=hf.fits.le
    omega
   ·omega
 ·rw[h1 id,ag0 (fun hd=>ha (hi.wd id hd))]
theorem SeqX.run{ops:Array Oper}:∀{l:List Oper} {s s':St} {rs:List Rc},SeqX P N ops l s rs s'->(∀r∈rs,Inn RD WD M r)->∀(F:Fence),FOk F->∀(n:Nat) (C:Ctx) (a:Act) (Q:Exit->Act->World->Prop),SRelX DS RD M N C s a->
 (∀C' a',SRelX DS RD M N C' s' a'->FrX WD C C'->Q .normal a' C'.w)->wpListIn F n P ops Q l a C.w:=by
 intro l s s' rs h
 induction h with
 |nil=>intro _ F hF n C a Q hr hK;exact hK C a hr (FrX.refl C)
 |cons hf _ ih=>
  rename_i o l s s' r rs _
  intro hi F hF n C a Q hr hK
  have ha:=hi r (by simp)
  unfold wpListIn
  rcases hf.how with⟨hw,hL⟩|⟨hw,hv,hd,hu⟩
  ·rw[eu hw hr (jh.guard hf.dst)]
   simp only[if_true]
   refine Zc hF (o7 hf.dst) (hL C a hr.good (fun x _=>hr.eval x) (fun id hh=>hr.η id (ha.rd id hh)) (fun id h1 h2=>hr.free id (by have:=hf.u;omega) (by have:=ha.u;omega)) _ _ fun x C' h1 h2 hg he hv=>?_)
   obtain⟨hb,hc⟩:=hr.step hf ha h1 h2 hg he hv
   exact ih (fun r hr=>hi r (by simp[hr])) F hF n C' _ Q hb (fun C'' a'' h3 h4=>hK C'' a'' h3 (hc.trans h4))
  ·rw[eu hw hr (jh.guard hf.dst)]
   simp only[Bool.false_eq_true,if_false]
   have hD:=hf.skip_D ⟨hd,hu⟩
   obtain⟨hb,hc⟩:=hr.step (C':=C) (x:=undef) hf ha (fun id=>by rw[hD id];rfl) (fun id h=>.inl h) hr.good (Ev.refl C) (by rw[hv];exact VR.v C _)
   exact⟨fun _ _=>hF.fn _,ih (fun r hr=>hi r (by simp[hr])) F hF n C _ Q hb (fun C'' a'' h3 h4=>hK C'' a'' h3 (hc.trans h4))⟩
theorem t8.region{id:Nat}{l:List Oper}{rs:List Rc}(h:SeqX P N l.toArray l s rs s')(hi:∀r∈rs,Inn RD WD M r)(hq:Q .normal s'):t8 P RD WD M N (.region id l.toArray false) Q s:=by intro F hF n DS C a hr;exact wpIn_region_lit (h.run hi F hF n C a _ hr (fun C' a' ha hb=>⟨s',C',hq,rfl,ha,hb⟩))
theorem t8.mono{Q':Exit->St->Prop}{c:Code}(h:t8 P RD WD M N c Q s)(hq:∀e s',Q e s'->Q' e s'):t8 P RD WD M N c Q' s:=
 fun F hF n DS C a hr=>Code.wpIn_mono (fun e a' w' ⟨s',C',h1,h2⟩=>⟨s',C',hq _ _ h1,h2⟩) (h F hF n DS C a hr)
theorem t8.skip(h:Q .normal s):t8 P RD WD M N .skip Q s:=fun F hF n DS C a hr=>wpIn_skip ⟨s,C,h,rfl,hr,FrX.refl C⟩
theorem t8.exit{id:Nat}(h:Q (.exit id) s):t8 P RD WD M N (.exit id) Q s:=fun F hF n DS C a hr=>wpIn_exit ⟨s,C,h,rfl,hr,FrX.refl C⟩
theorem t8.ret(h:Q .ret s):t8 P RD WD M N .ret Q s:=fun F hF n DS C a hr=>wpIn_ret ⟨s,C,h,rfl,hr,FrX.refl C⟩
theorem t8.seq{x y:Code}(h:t8 P RD WD M N x (andThen (t8 P RD WD M N y Q) Q) s):t8 P RD WD M N (.seq x y) Q s:=by
 intro F hF n DS C a hr
 refine wpIn_seq (Code.wpIn_mono ?_ (h F hF n DS C a hr))
 rintro e a' w' ⟨s',C',hq,rfl,ha,he⟩
 cases e with
 |normal=>exact Code.wpIn_mono (fun e a'' w'' ⟨s'',C'',h1,h2,h3,h4⟩=>⟨s'',C'',h1,h2,h3,he.trans h4⟩) (hq F hF n DS C' a' ha)
 |_=>exact⟨s',C',hq,rfl,ha,he⟩
theorem t8.cond{c:Operand}{x y:Code}{t:Bool}(hc:aev s.τ c=.v (.bool t))(ht:t=true->t8 P RD WD M N x Q s)(hf:t=false->t8 P RD WD M N y Q s):t8 P RD WD M N (.cond c x y) Q s:=by intro F hF n DS C a hr;have h1:=hr.eval c;rw[hc]at h1;exact wpIn_cond_split h1.v_inv (fun e=>ht e F hF n DS C a hr) (fun e=>hf e F hF n DS C a hr)
theorem t8.condT{c:Operand}{x y:Code}(hc:aev s.τ c=.v (.bool true))(h:t8 P RD WD M N x Q s):t8 P RD WD M N (.cond c x y) Q s:=t8.cond hc (fun _=>h) (fun e=>by cases e)
theorem t8.condF{c:Operand}{x y:Code}(hc:aev s.τ c=.v (.bool false))(h:t8 P RD WD M N y Q s):t8 P RD WD M N (.cond c x y) Q s:=t8.cond hc (fun e=>by cases e) (fun _=>h)
theorem t8.block{id:Nat}{c:Code}(h:t8 P RD WD M N c (ug id Q) s):t8 P RD WD M N (.block id c) Q s:=by
 intro F hF n DS C a hr;refine wpIn_block (Code.wpIn_mono ?_ (h F hF n DS C a hr));rintro e a' w' ⟨s',C',hq,h2⟩;cases e with
 |exit id'=>
  simp only[Exit.inBlock]
  simp only[ug]at hq
  by_cases e:id'=id
  ·subst e
   rw[Nat.beq_refl]at hq
   simp only[cond_true]at hq
   simp only[if_true]
   exact⟨s',C',hq,h2⟩
  ·have:Nat.beq id' id=false:=by
    cases hb:Nat.beq id' id with
    |false=>rfl
    |true=>exact absurd (agu hb) e
   rw[this]at hq
   simp only[cond_false]at hq
   simp only[e,if_false]
   exact⟨s',C',hq,h2⟩
 |_=>exact⟨s',C',hq,h2⟩
theorem t8.loop{c:Code}(I:Nat->St->Prop)(hI:∀n s,I n s->t8 P RD WD M N c (andThen (fun s'=>∃m,m<n/\I m s') Q) s){n:Nat}(h0:I n s):t8 P RD WD M N (.loop c) Q s:=by
 intro F hF q DS C a hr;refine Hy (fun n a w=>∃s' C',I n s'/\C'.w=w/\SRelX DS RD M N C' s' a/\FrX WD C C') ?_ ⟨s,C,h0,rfl,hr,FrX.refl C⟩;rintro n a w ⟨s',C',hi,rfl,ha,he⟩;refine Code.wpIn_mono ?_ (hI n s' hi F hF q DS C' a ha);rintro e a'' w'' ⟨s'',C'',hq,rfl,hr'',he''⟩;cases e with
 |normal=>
  obtain⟨m,hm,hb⟩:=hq
  exact⟨m,hm,s'',C'',hb,rfl,hr'',he.trans he''⟩
 |_=>exact⟨s'',C'',hq,rfl,hr'',he.trans he''⟩
end
def kw:List Oper->List Rc->Nat->St->St
 |o::l,r::rs,k+1,s=>kw l rs k (sg o r s)
 |_,_,_,s=>s
theorem fu(l:List Oper)(rs:List Rc)(s:St):kw l rs 0 s=s:=by cases l<;>cases rs<;>rfl
theorem vp(o:Oper)(l:List Oper)(r:Rc)(rs:List Rc)(k:Nat)(s:St):kw (o::l) (r::rs) (k+1) s=kw l rs k (sg o r s):=rfl
theorem ly(l:List Oper):∀(rs:List Rc) (k:Nat) (s:St) (o:Oper) (r:Rc),l[k]? =some o->rs[k]? =some r->kw l rs (k+1) s=sg o r (kw l rs k s):=by
 induction l with
 |nil=>intro rs k s o r h1;simp at h1
 |cons o' l ih=>
  intro rs k s o r h1 h2
  cases rs with
  |nil=>simp at h2
  |cons r' rs=>
   cases k with
   |zero=>
    simp only[List.getElem?_cons_zero,agv]at h1 h2
    rw[vp,fu,fu,h1,h2]
   |succ k=>
    rw[vp,vp]
    exact ih rs k _ o r (by simpa using h1) (by simpa using h2)
theorem SeqX.facts{P:Program}{N:Nat}{ops:Array Oper}{l:List Oper}{s s':St}{rs:List Rc}(h:SeqX P N ops l s rs s'):
 rs.length=l.length/\s'=kw l rs l.length s/\∀(k:Nat) (o:Oper) (r:Rc),l[k]? =some o->rs[k]? =some r->FactX P N ops o r (kw l rs k s):=by
 induction h with
 |nil=>exact⟨rfl,rfl,fun k o r h=>by simp at h⟩
 |cons hf _ ih=>
  obtain⟨h1,h2,h3⟩:=ih
  refine⟨by simp[h1],h2,fun k o r ho hr=>?_⟩
  cases k with
  |zero=>
   simp at ho hr
   subst ho;subst hr
   rw[fu];exact hf
  |succ k=>exact h3 k o r (by simpa using ho) (by simpa using hr)
structure PairX(oi oj:Oper)(ri rj:Rc)(ops:Array Oper):Prop where
 d1:∀d,oi.dst=some d->d∉oj.looksAt ops
 d2:∀d,oi.dst=some d->oj.dst≠some d
 d3:∀d,oj.dst=some d->d∉oi.looksAt ops
 h1:∀x,ri.D x=true->rj.F.testBit x=false
 h2:∀x,rj.D x=true->ri.F.testBit x=false
 h3:∀x,ri.D x=true->rj.D x=false
theorem PairX.symm{oi oj:Oper}{ri rj:Rc}{ops:Array Oper}(h:PairX oi oj ri rj ops):PairX oj oi rj ri ops:=
 ⟨h.d3,fun d hd he=>h.d2 d he hd,h.d1,h.h2,h.h1,fun x hx=>by
  cases hy:ri.D x with
  |false=>rfl
  |true=>rw[h.h3 x hy]at hx;cases hx⟩
structure DrawOk(l:List Oper)(rs:List Rc):Prop where
 pair:∀(i k:Nat) (oi ok:Oper) (ri rk:Rc),i<k->l[i]? =some oi->l[k]? =some ok->rs[i]? =some ri->rs[k]? =some rk->Anc l.toArray k i\/PairX oi ok ri rk l.toArray
 op:∀(k:Nat) (ok:Oper),l[k]? =some ok->(∀i∈bv ok,i<k)/\∀cs b,ok.op≠.select cs b
section
variable(ops:List Oper)(rs:List Rc)
def vX(k:Nat):AV:=((rs[k]?).map (·.v)).getD .unk
def DX(k id:Nat):Bool:=((rs[k]?).map (·.D id)).getD false
def ηX(k id:Nat):Option Blk:=((rs[k]?).map (·.η id)).getD none
def tvX(s0:St)(S:Nat->Bool):Nat->Nat->AV
 |0,t=>s0.τ t
 |m+1,t=>if S m=true/\Da ops m=some t then vX rs m else tvX s0 S m t
def hvX(s0:St)(S:Nat->Bool):Nat->bi
 |0,id=>s0.η id
 |m+1,id=>if S m=true/\DX rs m id=true then ηX rs m id else hvX s0 S m id
variable{ops rs}
theorem Ui{k:Nat}{r:Rc}(h:rs[k]? =some r):vX rs k=r.v:=by simp[vX,h]
theorem qr{k:Nat}{r:Rc}(h:rs[k]? =some r)(id:Nat):DX rs k id=r.D id:=by simp[DX,h]
theorem Fg{k:Nat}{r:Rc}(h:rs[k]? =some r)(id:Nat):ηX rs k id=r.η id:=by simp[ηX,h]
theorem kl{P:Program}{N:Nat}{opsA:Array Oper}{s0:St}(hf:∀(k:Nat) (o:Oper) (r:Rc),ops[k]? =some o->rs[k]? =some r->FactX P N opsA o r (kw ops rs k s0)):
 ∀(k:Nat),k<=ops.length->rs.length=ops.length->(kw ops rs k s0).τ=tvX ops rs s0 (fun _=>true) k/\(kw ops rs k s0).η=hvX rs s0 (fun _=>true) k
 |0,_,_=>by rw[fu];exact⟨rfl,rfl⟩
 |k+1,hk,hl=>by
  obtain⟨h1,h2⟩:=kl (s0:=s0) hf k (by omega) hl
  have ho:ops[k]? =some (ops[k]'(by omega)):=agt (by omega)
  have hr:rs[k]? =some (rs[k]'(by omega)):=agt (by omega)
  have ha:=hf k _ _ ho hr
  rw[ly ops rs k s0 _ _ ho hr]
  constructor
  ·funext t
   have hd:Da ops k=(ops[k]'(by omega)).dst:=by simp[Da,ho]
   simp only[sg,tvX,hd,Ui hr,true_and]
   rw[h1]
   cases hdd:(ops[k]'(by omega)).dst with
   |none=>simp[kj]
   |some d=>
    simp only[kj,upd,agv]
    by_cases e:d=t
    ·subst e;simp
    ·have:Nat.beq t d=false:=by
      cases hb:Nat.beq t d with
      |false=>rfl
      |true=>exact absurd (agu hb).symm e
     simp[this,e]
  ·funext id
   simp only[sg,hvX,true_and,qr hr,Fg hr]
   cases hD:(rs[k]'(by omega)).D id with
   |true=>simp
   |false=>
    simp only[Bool.false_eq_true,if_false]
    rw[ha.fits.same id hD,h2]
theorem nv{s0:St}{S:Nat->Bool}{t k:Nat}:∀m,(∀j,k<=j->j<k+m->¬(S j=true/\Da ops j=some t))->tvX ops rs s0 S (k+m) t=tvX ops rs s0 S k t
 |0,_=>rfl
 |m+1,h=>by show(if S (k+m)=true/\Da ops (k+m)=some t then vX rs (k+m)else tvX ops rs s0 S (k+m) t)=_;rw[ag0 (h (k+m) (by omega) (by omega)),nv m (fun j h1 h2=>h j h1 (by omega))]
theorem mi{s0:St}{S S':Nat->Bool}{t:Nat}:∀k,(∀j,j<k->Da ops j=some t->S j=S' j)->tvX ops rs s0 S k t=tvX ops rs s0 S' k t
 |0,_=>rfl
 |k+1,h=>by simp only[tvX];rw[mi k (fun j hj=>h j (by omega))];by_cases e:Da ops k=some t;rw[h k (by omega) e];simp[e]
theorem oc{s0:St}{S:Nat->Bool}{id k:Nat}:∀m,(∀j,k<=j->j<k+m->¬(S j=true/\DX rs j id=true))->hvX rs s0 S (k+m) id=hvX rs s0 S k id
 |0,_=>rfl
 |m+1,h=>by show(if S (k+m)=true/\DX rs (k+m) id=true then ηX rs (k+m) id else hvX rs s0 S (k+m) id)=_;rw[ag0 (h (k+m) (by omega) (by omega)),oc m (fun j h1 h2=>h j h1 (by omega))]
theorem mw{s0:St}{S S':Nat->Bool}{id:Nat}:∀k,(∀j,j<k->DX rs j id=true->S j=S' j)->hvX rs s0 S k id=hvX rs s0 S' k id
 |0,_=>rfl
 |k+1,h=>by simp only[hvX];rw[mw k (fun j hj=>h j (by omega))];by_cases e:DX rs k id=true;rw[h k (by omega) e];simp[e]
end
section
variable{P:Program}{N:Nat}{l:List Oper}{rs:List Rc}{s s':St}{ri:Rc}{oi:Oper}{i:Nat}{S:Nat->Bool}
theorem vg(hc:DrawOk l rs)(hS:d6 l.toArray S)(hi:i<l.length)(hb:l[i]? =some oi)(hd:rs[i]? =some ri)(hj:S i=false)(ha:∀j∈bv oi,S j=true)
 {j:Nat}(hl:j≠i){oj:Oper}{rj:Rc}(he:l[j]? =some oj)(hf:rs[j]? =some rj):(j<i/\S j=true)\/(i<j/\S j=false)\/PairX oi oj ri rj l.toArray:=by
 rcases Nat.lt_or_gt_of_ne hl with hg|hh
 ·rcases hc.pair j i oj oi rj ri hg he hb hf hd with h|h
  ·left
   refine⟨hg,hS.anc h (fun o ho k hk=>?_)⟩
   simp only[List.getElem?_toArray]at ho
   rw[hb]at ho
   cases ho
   exact ha k hk
  ·exact .inr (.inr h.symm)
 ·rcases hc.pair i j oi oj ri rj hh hb he hd hf with h|h
  ·right;left
   refine⟨hh,?_⟩
   cases hm:S j with
   |false=>rfl
   |true=>
    have:=hS.anc h (fun o ho k hk=>hS j o ho hm k hk)
    rw[hj]at this;cases this
  ·exact .inr (.inr h)
section
theorem M0(hc:DrawOk l rs)(he:rs.length=l.length)(hb:∀(k:Nat) (o:Oper) (r:Rc),l[k]? =some o->rs[k]? =some r->FactX P N l.toArray o r (kw l rs k s))(hS:d6 l.toArray S)(hi:i<l.length)(hk:l[i]? =some oi)(hl:rs[i]? =some ri)(hf:S i=false)(ha:∀j∈bv oi,S j=true){t:Nat}(ht:t∈oi.looksAt l.toArray):tvX l rs s S l.length t=(kw l rs i s).τ t:=by
 have hg:=fun j (hj:j<l.length) (hm:j≠i)=>vg hc hS hi hk hl hf ha hm (agt hj) (agt (show j<rs.length by omega));rw[(kl hb i (by omega) he).1]
 have e1:=nv (ops:=l) (rs:=rs) (s0:=s) (S:=S) (t:=t) (k:=i) (l.length-i) (fun j h1 h2 ⟨h3,h4⟩=>by
  have hj:j<l.length:=by omega
  by_cases e:j=i;subst e;rw[hf]at h3;cases h3;rcases hg j hj e with⟨h,_⟩|⟨_,h⟩|h;omega;rw[h]at h3;cases h3;rw[iw (agt hj)]at h4;exact h.d3 t h4 ht)
 rw[show i+(l.length-i)=l.length by omega]at e1;rw[e1];refine mi i (fun j hj hd=>?_);have hh:j<l.length:=by omega
 rcases hg j hh (by omega)with⟨_,h⟩|⟨h,_⟩|h;exact h;omega;rw[iw (agt hh)]at hd;exact absurd ht (h.d3 t hd)
theorem abk(hc:DrawOk l rs)(he:rs.length=l.length)(hb:∀(k:Nat) (o:Oper) (r:Rc),l[k]? =some o->rs[k]? =some r->FactX P N l.toArray o r (kw l rs k s))(hS:d6 l.toArray S)(hi:i<l.length)(hh:l[i]? =some oi)(hk:rs[i]? =some ri)(hf:S i=false)(ha:∀j∈bv oi,S j=true){id:Nat}(ht:ri.F.testBit id=true):hvX rs s S l.length id=(kw l rs i s).η id:=by
 have hg:=fun j (hj:j<l.length) (hl:j≠i)=>vg hc hS hi hh hk hf ha hl (agt hj) (agt (show j<rs.length by omega));rw[(kl hb i (by omega) he).2]
 have e1:=oc (rs:=rs) (s0:=s) (S:=S) (id:=id) (k:=i) (l.length-i) (fun j h1 h2 ⟨h3,h4⟩=>by
  have hj:j<l.length:=by omega
  by_cases e:j=i;subst e;rw[hf]at h3;cases h3;rcases hg j hj e with⟨h,_⟩|⟨_,h⟩|h;omega;rw[h]at h3;cases h3;rw[qr (agt (show j<rs.length by omega))]at h4;rw[h.h2 id h4]at ht;cases ht)
 rw[show i+(l.length-i)=l.length by omega]at e1;rw[e1];refine mw i (fun j hj hd=>?_);have hm:j<l.length:=by omega
 rcases hg j hm (by omega)with⟨_,h⟩|⟨h,_⟩|h;exact h;omega;rw[qr (agt (show j<rs.length by omega))]at hd;rw[h.h2 id hd]at ht;cases ht
theorem Pp(hc:DrawOk l rs)(hlen:rs.length=l.length)(hfact:∀(k:Nat) (o:Oper) (r:Rc),l[k]? =some o->rs[k]? =some r->FactX P N l.toArray o r (kw l rs k s))(hS:d6 l.toArray S)(hi:i<l.length)(hf:l[i]? =some oi)(hg:rs[i]? =some ri)(hk:S i=false)(ha:∀j∈bv oi,S j=true):kj (tvX l rs s S l.length) oi.dst ri.v=tvX l rs s (ce S i) l.length:=by
 have hl:=fun j (hj:j<l.length) (he:j≠i)=>vg hc hS hi hf hg hk ha he (agt hj) (agt (show j<rs.length by omega))
 funext t
 by_cases hd:oi.dst=some t
 ·have e1:=nv (ops:=l) (rs:=rs) (s0:=s) (S:=ce S i) (t:=t) (k:=i+1) (l.length-(i+1)) (fun j h1 h2 ⟨h3,h4⟩=>by
   have hj:j<l.length:=by omega
   have he:j≠i:=by omega
   simp only[ce,he,if_false]at h3
   rcases hl j hj he with⟨h,_⟩|⟨_,h⟩|h
   ·omega
   ·rw[h]at h3;cases h3
   ·rw[iw (agt hj)]at h4
    exact h.d2 t hd h4)
  rw[show i+1+(l.length-(i+1))=l.length by omega]at e1
  rw[e1]
  have e2:tvX l rs s (ce S i) (i+1) t=ri.v:=by
   simp only[tvX,iw hf,Ui hg,ce,if_true,hd,and_self]
  rw[e2,hd]
  simp[kj,upd]
 ·have e1:kj (tvX l rs s S l.length) oi.dst ri.v t=tvX l rs s S l.length t:=by
   cases hm:oi.dst with
   |none=>rfl
   |some d=>
    rw[hm]at hd
    have:Nat.beq t d=false:=by
     cases hb:Nat.beq t d with
     |false=>rfl
     |true=>exact absurd (by rw[agu hb]) hd
    simp[kj,upd,this]
  rw[e1]
  refine mi _ (fun j hj hh=>?_)
  by_cases e:j=i
  ·subst e;rw[iw hf]at hh;exact absurd hh hd
  ·simp[ce,e]
theorem Pr(hc:DrawOk l rs)(hlen:rs.length=l.length)(hfact:∀(k:Nat) (o:Oper) (r:Rc),l[k]? =some o->rs[k]? =some r->FactX P N l.toArray o r (kw l rs k s))(hS:d6 l.toArray S)(hi:i<l.length)(hg:l[i]? =some oi)(hb:rs[i]? =some ri)(hh:S i=false)(ha:∀j∈bv oi,S j=true)(id:Nat):(if ri.D id=true then ri.η id else hvX rs s S l.length id)=hvX rs s (ce S i) l.length id:=by
 have hk:=fun j (hj:j<l.length) (he:j≠i)=>vg hc hS hi hg hb hh ha he (agt hj) (agt (show j<rs.length by omega));by_cases hd:ri.D id=true;rw[ag1 hd]
 have e1:=oc (rs:=rs) (s0:=s) (S:=ce S i) (id:=id) (k:=i+1) (l.length-(i+1)) (fun j h1 h2 ⟨h3,h4⟩=>by
  have hj:j<l.length:=by omega
  have he:j≠i:=by omega
  simp only[ce,he,if_false]at h3;rcases hk j hj he with⟨h,_⟩|⟨_,h⟩|h;omega;rw[h]at h3;cases h3;rw[qr (agt (show j<rs.length by omega)),h.h3 id hd]at h4;cases h4)
 rw[show i+1+(l.length-(i+1))=l.length by omega]at e1;rw[e1];simp only[hvX,qr hb,Fg hb,ce,if_true,hd,and_self];rw[ag0 hd];refine mw _ (fun j hj hf=>?_);by_cases e:j=i;subst e;rw[qr hb]at hf;exact absurd hf hd;simp[ce,e]
end
theorem Fz(hf:∀(k:Nat) (o:Oper) (r:Rc),l[k]? =some o->rs[k]? =some r->FactX P N l.toArray o r (kw l rs k s))(ha:rs.length=l.length):∀m k,k+m<=l.length->(kw l rs k s).u<=(kw l rs (k+m) s).u
 |0,_,_=>ag7 _
 |m+1,k,h=>by have ih:=Fz hf ha m k (by omega);have ho:l[k+m]? =some (l[k+m]'(by omega)):=agt (by omega);have hr:rs[k+m]? =some (rs[k+m]'(by omega)):=agt (by omega);have e:kw l rs (k+(m+1)) s=sg (l[k+m]'(by omega)) (rs[k+m]'(by omega)) (kw l rs (k+m) s):=ly l rs (k+m) s _ _ ho hr;rw[e];have h1:=hf _ _ _ ho hr;have h2:=h1.u;have h3:=h1.fits.le;show _<=(rs[k+m]'(by omega)).u;omega
structure InX(DS:List Deferred)(RD WD:Nat->Prop)(N:Nat)(l:List Oper)(rs:List Rc)(s:St)(M u':Nat)(C1:Ctx)(S:Nat->Bool)(C:Ctx)(a:Act):Prop where
 rel:SRelX DS RD M N C ⟨tvX l rs s S l.length,hvX rs s S l.length,u'⟩ a
 closed:d6 l.toArray S
 used:∀id,C.U id->C1.U id\/∃k,k<l.length/\S k=true/\DX rs k id=true
 fr:FrX WD C1 C
theorem t8.regionD{RD WD:Nat->Prop}{M:Nat}{Q:Exit->St->Prop}{id:Nat}(hm:P.follows .mixedOrders=true)(gp:SeqX P N l.toArray l s rs s')(hc:DrawOk l rs)(gq:∀r∈rs,Inn RD WD M r)(h:Q .normal s'):t8 P RD WD M N (.region id l.toArray true) Q s:=by
 obtain⟨hu,g3,ha⟩:=gp.facts
 intro F hF q DS C0 a0 g7
 obtain⟨gz,ge⟩:=kp g7.good
 have f0:FrX WD C0 {C0 with w:=C0.w.drew}:=⟨ge,fun _ _=>rfl,fun _ h=>.inl h⟩
 have hη1:({C0 with w:=C0.w.drew}:Ctx).η=C0.η:=rfl
 have gr:({C0 with w:=C0.w.drew}:Ctx).U=C0.U:=rfl
 have hw:({C0 with w:=C0.w.drew}:Ctx).w={C0.w with drawn:=C0.w.drawn+1}:=rfl
 generalize({C0 with w:=C0.w.drew}:Ctx)=C1 at gz ge f0 hη1 gr hw
 have hz:∀k k',k<=k'->k'<=l.length->(kw l rs k s).u<=(kw l rs k' s).u:=fun k k' h1 h2=>by
  have:=Fz ha hu (k'-k) k (by omega)
  rwa [show k+(k'-k)=k' by omega]at this
 have gs:∀k,k<l.length->l[k]? =some (l[k]!)/\∃r,rs[k]? =some r:=fun k hk=>by
  have:k<rs.length:=by omega
  exact⟨by simp[hk],rs[k],agt this⟩
 have gf:∀k o r,l[k]? =some o->rs[k]? =some r->(kw l rs (k+1) s).u=r.u:=fun k o r ho hr=>by
  rw[ly l rs k s o r ho hr];rfl
 have gg:∀k o r,k<l.length->l[k]? =some o->rs[k]? =some r->∀id,r.D id=true->id<(kw l rs (k+1) s).u:=by
  intro k o r hk ho hr id hp
  rw[gf k o r ho hr]
  have hf:=ha k o r ho hr
  have:=hf.fits.le
  rcases Rc.D_iff.1 hp with h1|h1
  ·have:=hf.fits.low id (hf.fits.sub id h1);omega
  ·exact h1.2
 have gh:∀(li:Array Bool) (C:Ctx) (a:Act),li.size=l.length->InX DS RD WD N l rs s M s'.u C1 (fun k=>li.getD k false) C a->Region.ready .any l.toArray li=[]->
  ∃s'' C',Q .normal s''/\C'.w=C.w/\SRelX DS RD M N C' s'' a/\FrX WD C0 C':=by
  intro li C a hl hg hr
  have gi:∀k,k<l.length->li.getD k false=true:=by
   intro k
   induction k using Nat.strongRecOn with
   |ind k ih=>
    intro hk
    cases f3:li.getD k false with
    |true=>rfl
    |false=>
     exfalso
     obtain⟨ho,go⟩:=gs k hk
     have:k∈Region.ready .any l.toArray li:=by
      rw[mem_ready]
      have gt:k<li.size:=by omega
      refine⟨by simpa[Array.getD,gt]using f3,l[k]!,by simpa using ho,fun e he hb=>?_⟩
      have gu:e.on∈bv (l[k]!):=ahh.2 ⟨e,List.mem_filter.2 ⟨by simpa using he,hb⟩,rfl⟩
      have g8:=(hc.op k _ ho).1 e.on gu
      exact ih e.on g8 (by omega)
     rw[hr]at this
     simp at this
  have e1:tvX l rs s (fun k=>li.getD k false) l.length=s'.τ:=by
   rw[g3,(kl ha l.length (ag7 _) hu).1]
   funext t
   exact mi _ (fun j hj _=>gi j hj)
  have e2:hvX rs s (fun k=>li.getD k false) l.length=s'.η:=by
   rw[g3,(kl ha l.length (ag7 _) hu).2]
   funext id
   exact mw _ (fun j hj _=>gi j hj)
  have hn:=hg.rel
  rw[e1,e2]at hn
  exact⟨s',C,h,rfl,hn,f0.trans hg.fr⟩
 have key:∀(fuel:Nat) (li:Array Bool) (C:Ctx) (a:Act),li.size=l.length->(List.range l.length).countP (fun k=>!li.getD k false)<=fuel->InX DS RD WD N l rs s M s'.u C1 (fun k=>li.getD k false) C a->
  wpAnyIn F q P .any l.toArray (fun e a' w'=>∃s'' C',Q e s''/\C'.w=w'/\SRelX DS RD M N C' s'' a'/\FrX WD C0 C') fuel li a C.w:=by
  intro fuel
  induction fuel with
  |zero=>
   intro li C a hl gj hg
   have hr:Region.ready .any l.toArray li=[]:=by
    rw[List.eq_nil_iff_forall_not_mem]
    intro k hk
    rw[mem_ready]at hk
    obtain⟨h1,o,ho,_⟩:=hk
    have gt:k<l.length:=by have:=(Array.getElem?_eq_some_iff.1 ho).1;simpa using this
    have:=List.countP_eq_zero.1 (Nat.le_zero.1 gj) k (List.mem_range.2 gt)
    have gv:k<li.size:=by omega
    simp[Array.getD,gv]at this h1
    rw[this]at h1;cases h1
   exact⟨hr,gh li C a hl hg hr⟩
  |succ fuel ih=>
   intro li C a hl gj hg
   refine⟨gh li C a hl hg,fun i hi=>?_⟩
   rw[mem_ready]at hi
   obtain⟨h1,oi,ho,gk⟩:=hi
   have g4:i<l.length:=by have:=(Array.getElem?_eq_some_iff.1 ho).1;simpa using this
   have gl:i<li.size:=by omega
   have ga:li.getD i false=false:=by simpa[Array.getD,gl]using h1
   have gb:l[i]? =some oi:=by simpa using ho
   obtain⟨_,ri,g5⟩:=gs i g4
   have hh:∀j∈bv oi,li.getD j false=true:=by
    intro j hj
    obtain⟨e,he,rfl⟩:=ahh.1 hj
    obtain⟨ge,f4⟩:=List.mem_filter.1 he
    exact gk e (by simpa using ge) f4
   have gc:(fun k=>(li.setIfInBounds i true).getD k false)=ce (fun k=>li.getD k false) i:=by
    funext k
    unfold ce
    by_cases e:k=i
    ·subst e;simp[Array.getD,gl]
    ·rw[ag0 e];exact getD_set_ne false (fun h=>e h.symm)
   have g1:(List.range l.length).countP (fun k=>!(li.setIfInBounds i true).getD k false)<=fuel:=by
    have g8:(List.range l.length).countP (fun k=>!(li.setIfInBounds i true).getD k false)<(List.range l.length).countP (fun k=>!li.getD k false):=by
     have e1:∀k,(li.setIfInBounds i true).getD k false=ce (fun k=>li.getD k false) i k:=fun k=>congrFun gc k
     simp only[e1]
     refine o9 (List.mem_range.2 g4) (by simp[ga]) (by simp[ce]) (fun k hk=>?_)
     simp only[ce]
     split<;>simp
    omega
   have hy:∀t∈oi.looksAt l.toArray,tvX l rs s (fun k=>li.getD k false) l.length t=(kw l rs i s).τ t:=fun t ht=>M0 hc hu ha hg.closed g4 gb g5 ga hh ht
   have g0:d6 l.toArray (ce (fun k=>li.getD k false) i):=by
    intro k o hk hs j hj
    unfold ce at hs ⊢
    by_cases e:j=i
    ·simp[e]
    ·rw[ag0 e]
     by_cases e1:k=i
     ·subst e1
      rw[ho]at hk
      cases hk
      exact hh j hj
     ·rw[ag0 e1]at hs
      exact hg.closed k o hk hs j hj
   have g9:=ha i oi ri gb g5
   have hq:=gq ri (List.mem_of_getElem? g5)
   have hτ:=Pp (s:=s) hc hu ha hg.closed g4 gb g5 ga hh
   have hη:=Pr (s:=s) hc hu ha hg.closed g4 gb g5 ga hh
   have g2:∀(C':Ctx),(∀id,C'.U id->C.U id\/ri.D id=true)->∀id,C'.U id->C1.U id\/∃k,k<l.length/\ce (fun k=>li.getD k false) i k=true/\DX rs k id=true:=by
    intro C' hU id hp
    rcases hU id hp with h2|h2
    ·rcases hg.used id h2 with h3|⟨k,hk,gm,f5⟩
     ·exact .inl h3
     ·exact .inr ⟨k,hk,by simp only[ce];split<;>simp_all,f5⟩
    ·exact .inr ⟨i,g4,by simp[ce],by rw[qr g5];exact h2⟩
   unfold wpOpIn
   simp only[ho]
   rcases g9.how with⟨gw,hL⟩|⟨gw,hv,f6,f7⟩
   ·rw[eu (s:=⟨tvX l rs s (fun k=>li.getD k false) l.length,hvX rs s (fun k=>li.getD k false) l.length,s'.u⟩) ((ku hy).trans gw) hg.rel (jh.guard g9.dst)]
    simp only[if_true]
    refine Zc hF (o7 g9.dst) (hL C a hg.rel.good (fun x hx=>?_) (fun id hp=>?_) (fun id gn g8 hU=>?_) _ _ fun x C' hη' gx f8 f1 f9=>?_)
    ·rw[<-wy hy hx];exact hg.rel.eval x
    ·rw[hg.rel.η id (hq.rd id hp)];exact abk hc hu ha hg.closed g4 gb g5 ga hh hp
    ·have fa:ri.D id=true:=Rc.D_iff.2 (.inr ⟨gn,g8⟩)
     have h0i:=hz 0 i (by omega) (by omega)
     rw[fu]at h0i
     have hui:=g9.u
     rcases hg.used _ hU with h3|⟨k,hk,gm,g6⟩
     ·rw[gr]at h3
      exact g7.free id (by omega) (by have:=hq.u;omega) h3
     ·by_cases e:k=i
      ·subst e;rw[ga]at gm;cases gm
      ·obtain⟨f2,rk,go⟩:=gs k hk
       rw[qr go]at g6
       rcases vg hc hg.closed g4 gb g5 ga hh e f2 go with⟨hlt',_⟩|⟨_,h4⟩|h4
       ·have:=gg k _ _ hk f2 go id g6
        have:=hz (k+1) i (by omega) (by omega)
        omega
       ·rw[h4]at gm;cases gm
       ·rw[h4.h3 id fa]at g6;cases g6
    ·have gy:∀id,s'.u<=id->id<M->¬C'.U id:=by
      intro id gn g8 hp
      rcases gx id hp with h2|h2
      ·exact hg.rel.free id gn g8 h2
      ·have:=gg i oi ri g4 gb g5 id h2
       have:=hz (i+1) l.length (by omega) (by omega)
       rw[<-g3]at this
       omega
     have hn:=hg.rel.put f1 f8 (η':=hvX rs s (ce (fun k=>li.getD k false) i) l.length) (fun id hp=>by rw[hη' id,<-hη id,hg.rel.η id hp]) gy (jh.dst g9.dst) f9
     simp only at hn
     rw[hτ]at hn
     refine ih _ C' _ (by simpa using hl) g1 ?_
     rw[gc]
     exact⟨hn,g0,g2 C' gx,hg.fr.trans ⟨f1,fun id hp=>by rw[hη' id,ag0 (fun hd=>hp (hq.wd id hd))],fun id hp=>(gx id hp).imp (fun h=>h) (hq.wd id)⟩⟩
   ·rw[eu (s:=⟨tvX l rs s (fun k=>li.getD k false) l.length,hvX rs s (fun k=>li.getD k false) l.length,s'.u⟩) ((ku hy).trans gw) hg.rel (jh.guard g9.dst)]
    simp only[Bool.false_eq_true,if_false]
    have fb:=g9.skip_D ⟨f6,f7⟩
    have hn:=hg.rel.put (Ev.refl C) hg.rel.good (η':=hvX rs s (ce (fun k=>li.getD k false) i) l.length) (u':=s'.u) (fun id hp=>by rw[<-hη id,fb id];exact hg.rel.η id hp) hg.rel.free (jh.dst g9.dst) (VR.v C undef)
    simp only at hn
    rw[<-hv,hτ]at hn
    refine⟨fun _ _=>hF.fn _,ih _ C _ (by simpa using hl) g1 ?_⟩
    rw[gc]
    exact⟨hn,g0,g2 C (fun id h=>.inl h),hg.fr⟩
 refine wpIn_region_any hm ?_
 have e0:(fun k=>(Array.replicate l.toArray.size false).getD k false)=fun _=>false:=by
  funext k;simp[Array.getD]
 have gd:InX DS RD WD N l rs s M s'.u C1 (fun _=>false) C1 a0:=by
  have e1:tvX l rs s (fun _=>false) l.length=s.τ:=by
   have:∀m,tvX l rs s (fun _=>false) m=s.τ:=by
    intro m
    induction m with
    |zero=>rfl
    |succ m ih=>funext t;simp[tvX,ih]
   exact this _
  have e2:hvX rs s (fun _=>false) l.length=s.η:=by
   have:∀m,hvX rs s (fun _=>false) m=s.η:=by
    intro m
    induction m with
    |zero=>rfl
    |succ m ih=>funext t;simp[hvX,ih]
   exact this _
  have h0n:=hz 0 l.length (by omega) (ag7 _)
  rw[fu,<-g3]at h0n
  refine⟨?_,fun k o _ hk=>(by cases hk),fun id hp=>.inl hp,FrX.refl _⟩
  rw[e1,e2]
  refine⟨gz,fun id hp=>by rw[hη1];exact g7.η id hp,fun id gn g8 hU=>?_,g7.defers,g7.size,fun t=>(g7.τ t).mono g7.good ge⟩
  rw[gr]at hU
  have hle':s'.u<=id:=gn
  exact g7.free id (by omega) g8 hU
 have:=key l.toArray.size (Array.replicate l.toArray.size false) C1 a0 (by simp) (by
  have:=List.countP_le_length (p:=fun k=>!(Array.replicate l.toArray.size false).getD k false) (l:=List.range l.length)
  simpa using this) (by rw[e0];exact gd)
 rw[hw]at this
 exact this
end
structure PairA(a:Nat)(oi oj:Oper)(ri rj:Rc)(ops:Array Oper):Prop where
 d1:∀d,oi.dst=some d->d∉oj.looksAt ops
 d2:∀d,oi.dst=some d->oj.dst≠some d
 d3:∀d,oj.dst=some d->d∉oi.looksAt ops
 h1:∀x,ri.D x=true->rj.F.testBit x=false\/(x=a/\∀y,rj.D y=false)
 h2:∀x,rj.D x=true->ri.F.testBit x=false\/(x=a/\∀y,ri.D y=false)
 h3:∀x,ri.D x=true->rj.D x=false
theorem PairA.symm{a:Nat}{oi oj:Oper}{ri rj:Rc}{ops:Array Oper}(h:PairA a oi oj ri rj ops):PairA a oj oi rj ri ops:=
 ⟨h.d3,fun d hd he=>h.d2 d he hd,h.d1,h.h2,h.h1,fun x hx=>by
  cases hy:ri.D x with
  |false=>rfl
  |true=>rw[h.h3 x hy]at hx;cases hx⟩
structure DrawA(P:Program)(s:St)(a:Nat)(l:List Oper)(rs:List Rc):Prop where
 pair:∀(i k:Nat) (oi ok:Oper) (ri rk:Rc),i<k->l[i]? =some oi->l[k]? =some ok->rs[i]? =some ri->rs[k]? =some rk->Anc l.toArray k i\/PairA a oi ok ri rk l.toArray
 op:∀(k:Nat) (ok:Oper),l[k]? =some ok->(∀i∈bv ok,i<k)/\∀cs b,ok.op≠.select cs b
 soft:∀(i:Nat) (oi:Oper) (ri:Rc),l[i]? =some oi->rs[i]? =some ri->(∀y,ri.D y=false)->ri.F.testBit a=true->∀m,m<=l.length->rq P oi (kw l rs i s).τ ((kw l rs i s).η.set a ((kw l rs m s).η a)) ri
section
variable{P:Program}{N:Nat}{l:List Oper}{rs:List Rc}{s s':St}{ri:Rc}{oi:Oper}{i sa:Nat}{S:Nat->Bool}
theorem Gs(ha:rs.length=l.length)(id:Nat):∀k,k<=l.length->∃m,m<=l.length/\hvX rs s S k id=(kw l rs m s).η id
 |0,_=>⟨0,ag5 _,by rw[fu];rfl⟩
 |k+1,hk=>by simp only[hvX];by_cases h:S k=true/\DX rs k id=true;rw[ag1 h];have ho:l[k]? =some (l[k]'(by omega)):=agt (by omega);have hr:rs[k]? =some (rs[k]'(by omega)):=agt (by omega);refine⟨k+1,hk,?_⟩;rw[ly l rs k s _ _ ho hr,Fg hr];rfl;rw[ag0 h];exact Gs ha id k (by omega)
theorem vh(hc:DrawA P s sa l rs)(hS:d6 l.toArray S)(hi:i<l.length)(hb:l[i]? =some oi)(hd:rs[i]? =some ri)(hj:S i=false)(ha:∀j∈bv oi,S j=true)
 {j:Nat}(hl:j≠i){oj:Oper}{rj:Rc}(he:l[j]? =some oj)(hf:rs[j]? =some rj):(j<i/\S j=true)\/(i<j/\S j=false)\/PairA sa oi oj ri rj l.toArray:=by
 rcases Nat.lt_or_gt_of_ne hl with hg|hh
 ·rcases hc.pair j i oj oi rj ri hg he hb hf hd with h|h
  ·left
   refine⟨hg,hS.anc h (fun o ho k hk=>?_)⟩
   simp only[List.getElem?_toArray]at ho
   rw[hb]at ho
   cases ho
   exact ha k hk
  ·exact .inr (.inr h.symm)
 ·rcases hc.pair i j oi oj ri rj hh hb he hd hf with h|h
  ·right;left
   refine⟨hh,?_⟩
   cases hm:S j with
   |false=>rfl
   |true=>
    have:=hS.anc h (fun o ho k hk=>hS j o ho hm k hk)
    rw[hj]at this;cases this
  ·exact .inr (.inr h)
theorem M1(hc:DrawA P s sa l rs)(he:rs.length=l.length)(hb:∀(k:Nat) (o:Oper) (r:Rc),l[k]? =some o->rs[k]? =some r->FactX P N l.toArray o r (kw l rs k s))(hS:d6 l.toArray S)(hi:i<l.length)(hk:l[i]? =some oi)(hl:rs[i]? =some ri)(hf:S i=false)(ha:∀j∈bv oi,S j=true){t:Nat}(ht:t∈oi.looksAt l.toArray):tvX l rs s S l.length t=(kw l rs i s).τ t:=by
 have hg:=fun j (hj:j<l.length) (hm:j≠i)=>vh hc hS hi hk hl hf ha hm (agt hj) (agt (show j<rs.length by omega));rw[(kl hb i (by omega) he).1]
 have e1:=nv (ops:=l) (rs:=rs) (s0:=s) (S:=S) (t:=t) (k:=i) (l.length-i) (fun j h1 h2 ⟨h3,h4⟩=>by
  have hj:j<l.length:=by omega
  by_cases e:j=i;subst e;rw[hf]at h3;cases h3;rcases hg j hj e with⟨h,_⟩|⟨_,h⟩|h;omega;rw[h]at h3;cases h3;rw[iw (agt hj)]at h4;exact h.d3 t h4 ht)
 rw[show i+(l.length-i)=l.length by omega]at e1;rw[e1];refine mi i (fun j hj hd=>?_);have hh:j<l.length:=by omega
 rcases hg j hh (by omega)with⟨_,h⟩|⟨h,_⟩|h;exact h;omega;rw[iw (agt hh)]at hd;exact absurd ht (h.d3 t hd)
theorem T7(hc:DrawA P s sa l rs)(he:rs.length=l.length)(hb:∀(k:Nat) (o:Oper) (r:Rc),l[k]? =some o->rs[k]? =some r->FactX P N l.toArray o r (kw l rs k s))(hS:d6 l.toArray S)(hi:i<l.length)(hk:l[i]? =some oi)(hl:rs[i]? =some ri)(hf:S i=false)(ha:∀j∈bv oi,S j=true){id:Nat}(ht:ri.F.testBit id=true)(hg:id=sa->¬∀y,ri.D y=false):hvX rs s S l.length id=(kw l rs i s).η id:=by
 have hh:=fun j (hj:j<l.length) (hm:j≠i)=>vh hc hS hi hk hl hf ha hm (agt hj) (agt (show j<rs.length by omega));rw[(kl hb i (by omega) he).2]
 have e1:=oc (rs:=rs) (s0:=s) (S:=S) (id:=id) (k:=i) (l.length-i) (fun j h1 h2 ⟨h3,h4⟩=>by
  have hj:j<l.length:=by omega
  by_cases e:j=i;subst e;rw[hf]at h3;cases h3;rcases hh j hj e with⟨h,_⟩|⟨_,h⟩|h;omega;rw[h]at h3;cases h3;rw[qr (agt (show j<rs.length by omega))]at h4;rcases h.h2 id h4 with h5|⟨h5,h6⟩;rw[h5]at ht;cases ht;exact hg h5 h6)
 rw[show i+(l.length-i)=l.length by omega]at e1;rw[e1];refine mw i (fun j hj hd=>?_);have hn:j<l.length:=by omega
 rcases hh j hn (by omega)with⟨_,h⟩|⟨h,_⟩|h;exact h;omega;rw[qr (agt (show j<rs.length by omega))]at hd;rcases h.h2 id hd with h5|⟨h5,h6⟩;rw[h5]at ht;cases ht;exact absurd h6 (hg h5)
theorem Pq(hc:DrawA P s sa l rs)(hlen:rs.length=l.length)(hfact:∀(k:Nat) (o:Oper) (r:Rc),l[k]? =some o->rs[k]? =some r->FactX P N l.toArray o r (kw l rs k s))(hS:d6 l.toArray S)(hi:i<l.length)(hf:l[i]? =some oi)(hg:rs[i]? =some ri)(hk:S i=false)(ha:∀j∈bv oi,S j=true):kj (tvX l rs s S l.length) oi.dst ri.v=tvX l rs s (ce S i) l.length:=by
 have hl:=fun j (hj:j<l.length) (he:j≠i)=>vh hc hS hi hf hg hk ha he (agt hj) (agt (show j<rs.length by omega))
 funext t
 by_cases hd:oi.dst=some t
 ·have e1:=nv (ops:=l) (rs:=rs) (s0:=s) (S:=ce S i) (t:=t) (k:=i+1) (l.length-(i+1)) (fun j h1 h2 ⟨h3,h4⟩=>by
   have hj:j<l.length:=by omega
   have he:j≠i:=by omega
   simp only[ce,he,if_false]at h3
   rcases hl j hj he with⟨h,_⟩|⟨_,h⟩|h
   ·omega
   ·rw[h]at h3;cases h3
   ·rw[iw (agt hj)]at h4
    exact h.d2 t hd h4)
  rw[show i+1+(l.length-(i+1))=l.length by omega]at e1
  rw[e1]
  have e2:tvX l rs s (ce S i) (i+1) t=ri.v:=by
   simp only[tvX,iw hf,Ui hg,ce,if_true,hd,and_self]
  rw[e2,hd]
  simp[kj,upd]
 ·have e1:kj (tvX l rs s S l.length) oi.dst ri.v t=tvX l rs s S l.length t:=by
   cases hm:oi.dst with
   |none=>rfl
   |some d=>
    rw[hm]at hd
    have:Nat.beq t d=false:=by
     cases hb:Nat.beq t d with
     |false=>rfl
     |true=>exact absurd (by rw[agu hb]) hd
    simp[kj,upd,this]
  rw[e1]
  refine mi _ (fun j hj hh=>?_)
  by_cases e:j=i
  ·subst e;rw[iw hf]at hh;exact absurd hh hd
  ·simp[ce,e]
theorem Ps(hc:DrawA P s sa l rs)(hlen:rs.length=l.length)(hfact:∀(k:Nat) (o:Oper) (r:Rc),l[k]? =some o->rs[k]? =some r->FactX P N l.toArray o r (kw l rs k s))(hS:d6 l.toArray S)(hi:i<l.length)(hg:l[i]? =some oi)(hb:rs[i]? =some ri)(hh:S i=false)(ha:∀j∈bv oi,S j=true)(id:Nat):(if ri.D id=true then ri.η id else hvX rs s S l.length id)=hvX rs s (ce S i) l.length id:=by
 have hk:=fun j (hj:j<l.length) (he:j≠i)=>vh hc hS hi hg hb hh ha he (agt hj) (agt (show j<rs.length by omega));by_cases hd:ri.D id=true;rw[ag1 hd]
 have e1:=oc (rs:=rs) (s0:=s) (S:=ce S i) (id:=id) (k:=i+1) (l.length-(i+1)) (fun j h1 h2 ⟨h3,h4⟩=>by
  have hj:j<l.length:=by omega
  have he:j≠i:=by omega
  simp only[ce,he,if_false]at h3;rcases hk j hj he with⟨h,_⟩|⟨_,h⟩|h;omega;rw[h]at h3;cases h3;rw[qr (agt (show j<rs.length by omega)),h.h3 id hd]at h4;cases h4)
 rw[show i+1+(l.length-(i+1))=l.length by omega]at e1;rw[e1];simp only[hvX,qr hb,Fg hb,ce,if_true,hd,and_self];rw[ag0 hd];refine mw _ (fun j hj hf=>?_);by_cases e:j=i;subst e;rw[qr hb]at hf;exact absurd hf hd;simp[ce,e]
theorem C6{RD WD:Nat->Prop}{M:Nat}{Q:Exit->St->Prop}{id:Nat}(hm:P.follows .mixedOrders=true)(gp:SeqX P N l.toArray l s rs s')(hc:DrawA P s sa l rs)(gq:∀r∈rs,Inn RD WD M r)(h:Q .normal s'):t8 P RD WD M N (.region id l.toArray true) Q s:=by
 obtain⟨hq,g5,ha⟩:=gp.facts
 intro F hF q DS C0 a0 g8
 obtain⟨f0,ge⟩:=kp g8.good
 have f1:FrX WD C0 {C0 with w:=C0.w.drew}:=⟨ge,fun _ _=>rfl,fun _ h=>.inl h⟩
 have hη1:({C0 with w:=C0.w.drew}:Ctx).η=C0.η:=rfl
 have gr:({C0 with w:=C0.w.drew}:Ctx).U=C0.U:=rfl
 have hw:({C0 with w:=C0.w.drew}:Ctx).w={C0.w with drawn:=C0.w.drawn+1}:=rfl
 generalize({C0 with w:=C0.w.drew}:Ctx)=C1 at f0 ge f1 hη1 gr hw
 have hz:∀k k',k<=k'->k'<=l.length->(kw l rs k s).u<=(kw l rs k' s).u:=fun k k' h1 h2=>by
  have:=Fz ha hq (k'-k) k (by omega)
  rwa [show k+(k'-k)=k' by omega]at this
 have gs:∀k,k<l.length->l[k]? =some (l[k]!)/\∃r,rs[k]? =some r:=fun k hk=>by
  have:k<rs.length:=by omega
  exact⟨by simp[hk],rs[k],agt this⟩
 have gf:∀k o r,l[k]? =some o->rs[k]? =some r->(kw l rs (k+1) s).u=r.u:=fun k o r ho hr=>by
  rw[ly l rs k s o r ho hr];rfl
 have gg:∀k o r,k<l.length->l[k]? =some o->rs[k]? =some r->∀id,r.D id=true->id<(kw l rs (k+1) s).u:=by
  intro k o r hk ho hr id hn
  rw[gf k o r ho hr]
  have hf:=ha k o r ho hr
  have:=hf.fits.le
  rcases Rc.D_iff.1 hn with h1|h1
  ·have:=hf.fits.low id (hf.fits.sub id h1);omega
  ·exact h1.2
 have gh:∀(li:Array Bool) (C:Ctx) (a:Act),li.size=l.length->InX DS RD WD N l rs s M s'.u C1 (fun k=>li.getD k false) C a->Region.ready .any l.toArray li=[]->
  ∃s'' C',Q .normal s''/\C'.w=C.w/\SRelX DS RD M N C' s'' a/\FrX WD C0 C':=by
  intro li C a hl hh hr
  have gi:∀k,k<l.length->li.getD k false=true:=by
   intro k
   induction k using Nat.strongRecOn with
   |ind k ih=>
    intro hk
    cases f4:li.getD k false with
    |true=>rfl
    |false=>
     exfalso
     obtain⟨ho,go⟩:=gs k hk
     have:k∈Region.ready .any l.toArray li:=by
      rw[mem_ready]
      have gt:k<li.size:=by omega
      refine⟨by simpa[Array.getD,gt]using f4,l[k]!,by simpa using ho,fun e he hb=>?_⟩
      have gu:e.on∈bv (l[k]!):=ahh.2 ⟨e,List.mem_filter.2 ⟨by simpa using he,hb⟩,rfl⟩
      have g9:=(hc.op k _ ho).1 e.on gu
      exact ih e.on g9 (by omega)
     rw[hr]at this
     simp at this
  have e1:tvX l rs s (fun k=>li.getD k false) l.length=s'.τ:=by
   rw[g5,(kl ha l.length (ag7 _) hq).1]
   funext t
   exact mi _ (fun j hj _=>gi j hj)
  have e2:hvX rs s (fun k=>li.getD k false) l.length=s'.η:=by
   rw[g5,(kl ha l.length (ag7 _) hq).2]
   funext id
   exact mw _ (fun j hj _=>gi j hj)
  have hp:=hh.rel
  rw[e1,e2]at hp
  exact⟨s',C,h,rfl,hp,f1.trans hh.fr⟩
 have key:∀(fuel:Nat) (li:Array Bool) (C:Ctx) (a:Act),li.size=l.length->(List.range l.length).countP (fun k=>!li.getD k false)<=fuel->InX DS RD WD N l rs s M s'.u C1 (fun k=>li.getD k false) C a->
  wpAnyIn F q P .any l.toArray (fun e a' w'=>∃s'' C',Q e s''/\C'.w=w'/\SRelX DS RD M N C' s'' a'/\FrX WD C0 C') fuel li a C.w:=by
  intro fuel
  induction fuel with
  |zero=>
   intro li C a hl gj hh
   have hr:Region.ready .any l.toArray li=[]:=by
    rw[List.eq_nil_iff_forall_not_mem]
    intro k hk
    rw[mem_ready]at hk
    obtain⟨h1,o,ho,_⟩:=hk
    have gt:k<l.length:=by have:=(Array.getElem?_eq_some_iff.1 ho).1;simpa using this
    have:=List.countP_eq_zero.1 (Nat.le_zero.1 gj) k (List.mem_range.2 gt)
    have gv:k<li.size:=by omega
    simp[Array.getD,gv]at this h1
    rw[this]at h1;cases h1
   exact⟨hr,gh li C a hl hh hr⟩
  |succ fuel ih=>
   intro li C a hl gj hh
   refine⟨gh li C a hl hh,fun i hi=>?_⟩
   rw[mem_ready]at hi
   obtain⟨h1,oi,ho,gk⟩:=hi
   have g4:i<l.length:=by have:=(Array.getElem?_eq_some_iff.1 ho).1;simpa using this
   have gl:i<li.size:=by omega
   have ga:li.getD i false=false:=by simpa[Array.getD,gl]using h1
   have g6:l[i]? =some oi:=by simpa using ho
   obtain⟨_,ri,g1⟩:=gs i g4
   have hg:∀j∈bv oi,li.getD j false=true:=by
    intro j hj
    obtain⟨e,he,rfl⟩:=ahh.1 hj
    obtain⟨ge,f5⟩:=List.mem_filter.1 he
    exact gk e (by simpa using ge) f5
   have gc:(fun k=>(li.setIfInBounds i true).getD k false)=ce (fun k=>li.getD k false) i:=by
    funext k
    unfold ce
    by_cases e:k=i
    ·subst e;simp[Array.getD,gl]
    ·rw[ag0 e];exact getD_set_ne false (fun h=>e h.symm)
   have g2:(List.range l.length).countP (fun k=>!(li.setIfInBounds i true).getD k false)<=fuel:=by
    have g9:(List.range l.length).countP (fun k=>!(li.setIfInBounds i true).getD k false)<(List.range l.length).countP (fun k=>!li.getD k false):=by
     have e1:∀k,(li.setIfInBounds i true).getD k false=ce (fun k=>li.getD k false) i k:=fun k=>congrFun gc k
     simp only[e1]
     refine o9 (List.mem_range.2 g4) (by simp[ga]) (by simp[ce]) (fun k hk=>?_)
     simp only[ce]
     split<;>simp
    omega
   have hy:∀t∈oi.looksAt l.toArray,tvX l rs s (fun k=>li.getD k false) l.length t=(kw l rs i s).τ t:=fun t ht=>M1 hc hq ha hh.closed g4 g6 g1 ga hg ht
   have g0:d6 l.toArray (ce (fun k=>li.getD k false) i):=by
    intro k o hk hs j hj
    unfold ce at hs ⊢
    by_cases e:j=i
    ·simp[e]
    ·rw[ag0 e]
     by_cases e1:k=i
     ·subst e1
      rw[ho]at hk
      cases hk
      exact hg j hj
     ·rw[ag0 e1]at hs
      exact hh.closed k o hk hs j hj
   have gb:=ha i oi ri g6 g1
   have hu:=gq ri (List.mem_of_getElem? g1)
   have hτ:=Pq (s:=s) hc hq ha hh.closed g4 g6 g1 ga hg
   have hη:=Ps (s:=s) hc hq ha hh.closed g4 g6 g1 ga hg
   have g3:∀(C':Ctx),(∀id,C'.U id->C.U id\/ri.D id=true)->∀id,C'.U id->C1.U id\/∃k,k<l.length/\ce (fun k=>li.getD k false) i k=true/\DX rs k id=true:=by
    intro C' hU id hn
    rcases hU id hn with h2|h2
    ·rcases hh.used id h2 with h3|⟨k,hk,gm,f6⟩
     ·exact .inl h3
     ·exact .inr ⟨k,hk,by simp only[ce];split<;>simp_all,f6⟩
    ·exact .inr ⟨i,g4,by simp[ce],by rw[qr g1];exact h2⟩
   unfold wpOpIn
   simp only[ho]
   rcases gb.how with⟨gw,hL⟩|⟨gw,hv,f7,f8⟩
   ·rw[eu (s:=⟨tvX l rs s (fun k=>li.getD k false) l.length,hvX rs s (fun k=>li.getD k false) l.length,s'.u⟩) ((ku hy).trans gw) hh.rel (jh.guard gb.dst)]
    simp only[if_true]
    obtain⟨η2,f9,hη2⟩:∃η2,rq P oi (kw l rs i s).τ η2 ri/\∀id,ri.F.testBit id=true->hvX rs s (fun k=>li.getD k false) l.length id=η2 id:=by
     by_cases gx:(∀y,ri.D y=false)/\ri.F.testBit sa=true
     ·obtain⟨m,fa,fb⟩:=Gs (rs:=rs) (s:=s) (S:=fun k=>li.getD k false) hq sa l.length (ag7 _)
      refine⟨_,hc.soft i oi ri g6 g1 gx.1 gx.2 m fa,fun id hn=>?_⟩
      by_cases e:id=sa
      ·subst e;rw[ak];exact fb
      ·rw[am _ _ e]
       exact T7 hc hq ha hh.closed g4 g6 g1 ga hg hn (fun e1=>absurd e1 e)
     ·exact⟨_,hL,fun id hn=>T7 hc hq ha hh.closed g4 g6 g1 ga hg hn (fun e1 h1=>gx ⟨h1,by rw[<-e1];exact hn⟩)⟩
    refine Zc hF (o7 gb.dst) (f9 C a hh.rel.good (fun x hx=>?_) (fun id hn=>?_) (fun id gn g9 hU=>?_) _ _ fun x C' hη' gy fc f2 fd=>?_)
    ·rw[<-wy hy hx];exact hh.rel.eval x
    ·rw[hh.rel.η id (hu.rd id hn)];exact hη2 id hn
    ·have fe:ri.D id=true:=Rc.D_iff.2 (.inr ⟨gn,g9⟩)
     have h0i:=hz 0 i (by omega) (by omega)
     rw[fu]at h0i
     have hui:=gb.u
     rcases hh.used _ hU with h3|⟨k,hk,gm,g7⟩
     ·rw[gr]at h3
      exact g8.free id (by omega) (by have:=hu.u;omega) h3
     ·by_cases e:k=i
      ·subst e;rw[ga]at gm;cases gm
      ·obtain⟨f3,rk,go⟩:=gs k hk
       rw[qr go]at g7
       rcases vh hc hh.closed g4 g6 g1 ga hg e f3 go with⟨hlt',_⟩|⟨_,h4⟩|h4
       ·have:=gg k _ _ hk f3 go id g7
        have:=hz (k+1) i (by omega) (by omega)
        omega
       ·rw[h4]at gm;cases gm
       ·rw[h4.h3 id fe]at g7;cases g7
    ·have gz:∀id,s'.u<=id->id<M->¬C'.U id:=by
      intro id gn g9 hn
      rcases gy id hn with h2|h2
      ·exact hh.rel.free id gn g9 h2
      ·have:=gg i oi ri g4 g6 g1 id h2
       have:=hz (i+1) l.length (by omega) (by omega)
       rw[<-g5]at this
       omega
     have hp:=hh.rel.put f2 fc (η':=hvX rs s (ce (fun k=>li.getD k false) i) l.length) (fun id hn=>by rw[hη' id,<-hη id,hh.rel.η id hn]) gz (jh.dst gb.dst) fd
     simp only at hp
     rw[hτ]at hp
     refine ih _ C' _ (by simpa using hl) g2 ?_
     rw[gc]
     exact⟨hp,g0,g3 C' gy,hh.fr.trans ⟨f2,fun id hn=>by rw[hη' id,ag0 (fun hd=>hn (hu.wd id hd))],fun id hn=>(gy id hn).imp (fun h=>h) (hu.wd id)⟩⟩
   ·rw[eu (s:=⟨tvX l rs s (fun k=>li.getD k false) l.length,hvX rs s (fun k=>li.getD k false) l.length,s'.u⟩) ((ku hy).trans gw) hh.rel (jh.guard gb.dst)]
    simp only[Bool.false_eq_true,if_false]
    have ff:=gb.skip_D ⟨f7,f8⟩
    have hp:=hh.rel.put (Ev.refl C) hh.rel.good (η':=hvX rs s (ce (fun k=>li.getD k false) i) l.length) (u':=s'.u) (fun id hn=>by rw[<-hη id,ff id];exact hh.rel.η id hn) hh.rel.free (jh.dst gb.dst) (VR.v C undef)
    simp only at hp
    rw[<-hv,hτ]at hp
    refine⟨fun _ _=>hF.fn _,ih _ C _ (by simpa using hl) g2 ?_⟩
    rw[gc]
    exact⟨hp,g0,g3 C (fun id h=>.inl h),hh.fr⟩
 refine wpIn_region_any hm ?_
 have e0:(fun k=>(Array.replicate l.toArray.size false).getD k false)=fun _=>false:=by
  funext k;simp[Array.getD]
 have gd:InX DS RD WD N l rs s M s'.u C1 (fun _=>false) C1 a0:=by
  have e1:tvX l rs s (fun _=>false) l.length=s.τ:=by
   have:∀m,tvX l rs s (fun _=>false) m=s.τ:=by
    intro m
    induction m with
    |zero=>rfl
    |succ m ih=>funext t;simp[tvX,ih]
   exact this _
  have e2:hvX rs s (fun _=>false) l.length=s.η:=by
   have:∀m,hvX rs s (fun _=>false) m=s.η:=by
    intro m
    induction m with
    |zero=>rfl
    |succ m ih=>funext t;simp[hvX,ih]
   exact this _
  have h0n:=hz 0 l.length (by omega) (ag7 _)
  rw[fu,<-g5]at h0n
  refine⟨?_,fun k o _ hk=>(by cases hk),fun id hn=>.inl hn,FrX.refl _⟩
  rw[e1,e2]
  refine⟨f0,fun id hn=>by rw[hη1];exact g8.η id hn,fun id gn g9 hU=>?_,g8.defers,g8.size,fun t=>(g8.τ t).mono g8.good ge⟩
  rw[gr]at hU
  have hle':s'.u<=id:=gn
  exact g8.free id (by omega) g9 hU
 have:=key l.toArray.size (Array.replicate l.toArray.size false) C1 a0 (by simp) (by
  have:=List.countP_le_length (p:=fun k=>!(Array.replicate l.toArray.size false).getD k false) (l:=List.range l.length)
  simpa using this) (by rw[e0];exact gd)
 rw[hw]at this
 exact this
end
def VRs(C:Ctx)(as:List AV)(vs:Array Value):Prop:=as.length=vs.size/\∀i (h:i<as.length) (h':i<vs.size),VR C as[i] vs[i]
def Ew(P:Program)(f:FuncId)(args:List AV)(η:bi)(r:Rc):Prop:=
 ∀(C:Ctx) (vals:Array Value),Good C->VRs C args vals->(∀id,r.F.testBit id=true->C.η id=η id)->(∀id,r.u0<=id->id<r.u->¬C.U id)->
  Calls P f vals C.w (fun e w'=>∃x C',e=.returned x/\C'.w=w'/\(∀id,C'.η id=if r.D id=true then r.η id else C.η id)/\(∀id,C'.U id->C.U id\/r.D id=true)/\Good C'/\Ev C C'/\VR C' r.v x)
section
variable{P:Program}{τ:Nat->AV}{η:bi}{d:Option Tmp}{ty:TypeId}{pos:String}{af:Array Edge}{g:Option (Nat×Bool)}
theorem rq.call{g0:Operand}{f:FuncId}{caps:List AV}{xs:Array Operand}{ats:Array TypeId}{r:Rc}(hb:bw P f=true)(hh:aev τ g0=.clo f caps)(hc:Ew P f (xs.toList.map (aev τ)++caps) η r):
 rq P ⟨d,.call {callee:=.value g0,args:=xs,argTypes:=ats},ty,pos,af,g⟩ τ η r:=by
 intro C a hg hf hF hN K Q hK
 have h0:=hf g0 (by simp[Op.operands,Call.operands])
 rw[hh]at h0
 obtain⟨vs,hv,hl,hi⟩:=h0.clo_inv
 have ha:VRs C (xs.toList.map (aev τ)++caps) (xs.map a.eval++vs):=by refine⟨by simp[hl],fun i h h'=>?_⟩;by_cases hd:i<xs.size;have e1:(xs.toList.map (aev τ)++caps)[i]=aev τ xs[i]:=(by rw[List.getElem_append_left (by simpa using hd)];simp);have e2:(xs.map a.eval++vs)[i]=a.eval xs[i]:=(by rw[Array.getElem_append_left (by simpa using hd)];simp);rw[e1,e2];exact hf _ (by simp[Op.operands,Call.operands]);have e1:(xs.toList.map (aev τ)++caps)[i]=caps[i-xs.size]'(by simp at h;omega):=(by rw[List.getElem_append_right (by simpa using hd)];simp);have e2:(xs.map a.eval++vs)[i]=vs[i-xs.size]'(by simp at h';omega):=(by rw[Array.getElem_append_right (by simpa using hd)];simp);rw[e1,e2];exact hi _ _ _
 have he:(execOp a.eval ⟨d,.call {callee:=.value g0,args:=xs,argTypes:=ats},ty,pos,af,g⟩).run P C.w=.ok (.enter f (xs.map a.eval++vs)) C.w:=by have e:(execOp a.eval ⟨d,.call {callee:=.value g0,args:=xs,argTypes:=ats},ty,pos,af,g⟩).run P C.w=(callFunc f (#[]++xs.map a.eval++vs)).run P C.w:=(by have e0:execOp a.eval ⟨d,.call {callee:=.value g0,args:=xs,argTypes:=ats},ty,pos,af,g⟩=(do let dd<-Deferred.ofValue (a.eval g0) (xs.map a.eval);invoke dd.target dd.args):=rfl;rw[e0,hv];rfl);rw[e,eh hb];simp
 unfold Oper.wp
 rw[he]
 refine Calls.mono (hc C _ hg ha hF hN) ?_
 rintro e w' ⟨x,C',rfl,rfl,h1,h2,h3,h4,h5⟩
 exact hK x C' h1 h2 h3 h4 h5
end
def Xn(P:Program)(RD:Nat->Prop)(M N:Nat)(fn:Func)(s:St)(ret:AV):Prop:=
 ∀DS C a,SRelX DS RD M N C s a->∃x,(results fn a.tmps).run P C.w=.ok x C.w/\VR C ret x
theorem Ew.of_body{P:Program}{f:FuncId}{fn:Func}{c:Code}{N:Nat}{args:List AV}{η:bi}{r:Rc}(hf:P.funcs[f]? =some fn)(hb:fn.body=some c)(hN:fn.ntmps=N)(hl:args.length<=N){τ0:Nat->AV}(hτ0:τ0=cq args)(hi:Fits η r)(hηn:∀id,r.u0<=id->η id=none)
 (h:t8 P (fun id=>r.F.testBit id=true\/(r.u0<=id/\id<r.u)) (fun id=>r.D id=true) r.u N c (fun e s'=>(e=.normal\/e=.ret)/\(∀id,r.D id=true->s'.η id=r.η id)/\Xn P (fun id=>r.F.testBit id=true\/(r.u0<=id/\id<r.u)) r.u N fn s' r.v) ⟨τ0,η,r.u0⟩):Ew P f args η r:=by
 intro C vals hg ⟨hlen,hv⟩ hF hk
 subst hτ0
 have hc:∀id,r.u0<=id->id<r.u->C.η id=none:=fun id h1 h2=>by
  cases hb':C.η id with
  |none=>rfl
  |some b=>exact absurd (hg.used hb') (hk id h1 h2)
 have hr:SRelX [] (fun id=>r.F.testBit id=true\/(r.u0<=id/\id<r.u)) r.u N C ⟨cq args,η,r.u0⟩ {tmps:=vals++Array.replicate (fn.ntmps-vals.size) undef,defers:=[]}:=by
  refine⟨hg,fun id hm=>hm.elim (hF id) (fun h=>(hc id h.1 h.2).trans (hηn id h.1).symm),hk,rfl,by simp;omega,fun t=>?_⟩
  simp only[Act.eval,cq]
  by_cases ht:t<args.length
  ·have h1:args.getD t (.v undef)=args[t]:=by simp[List.getD,ht]
   have h2:(vals++Array.replicate (fn.ntmps-vals.size) undef).getD t undef=vals[t]'(by omega):=by
    rw[Array.getD_eq_getD_getElem?,Array.getElem?_append_left (by omega)]
    simp[show t<vals.size by omega]
   rw[h1,h2]
   exact hv t ht (by omega)
  ·have h1:args.getD t (.v undef)=.v undef:=by simp[List.getD,List.getElem?_eq_none (Nat.le_of_not_lt ht)]
   have h2:(vals++Array.replicate (fn.ntmps-vals.size) undef).getD t undef=undef:=by
    rw[Array.getD_eq_getD_getElem?,Array.getElem?_append_right (by omega)]
    rw[Array.getElem?_replicate]
    split<;>rfl
   rw[h1,h2]
   exact VR.v _ _
 refine calls_of_wp hf hb (wpIn_wide.1 (Code.wpIn_mono ?_ (h Fence.wide FOk.wide 0 [] C _ hr)))
 rintro e a' w' ⟨s',C',⟨he,hη',ho⟩,rfl,hh,hj⟩
 obtain⟨x,h1,h2⟩:=ho [] C' a' hh
 have ha:∃x' C'',(Ending.returned x)=.returned x'/\C''.w=C'.w/\(∀id,C''.η id=if r.D id=true then r.η id else C.η id)/\(∀id,C''.U id->C.U id\/r.D id=true)/\Good C''/\Ev C C''/\VR C'' r.v x':=by
  refine⟨x,C',rfl,rfl,fun id=>?_,hj.U,hh.good,hj.ev,h2⟩
  by_cases hd:r.D id=true
  ·rw[ag1 hd,<-hη' id hd]
   refine hh.η id ?_
   rcases Rc.D_iff.1 hd with h3|h3
   ·exact .inl (hi.sub id h3)
   ·exact .inr h3
  ·rw[ag0 hd]
   exact hj.η id hd
 rcases he with rfl|rfl
 ·exact⟨hh.defers,x,h1,ha⟩
 ·exact⟨hh.defers,x,h1,ha⟩
theorem yp{P:Program}{f:FuncId}{args:List AV}{r:Rc}{ret:AV}{fp:List Nat}(he:Fits nb r)(hr:FzP fp r.η r.v ret)(h:Ew P f args nb r):b8 P f args ret:=by
 intro T w vals ⟨hf,hv⟩ hT;let C:Ctx:=⟨fun _=>(0,0),fun _=>0,nb,fun _=>False,T,w⟩
 have hc:∀k,¬C.mine k:=by rintro k ⟨_,⟨_,h,_⟩,_⟩;cases h
 have hg:Good C:={used:=fun h=>(by cases h),obj:=fun h=>(by cases h),blk:=fun h=>(by cases h),inj:=fun h _=>(by obtain⟨_,h,_⟩:=h;cases h),tok:=hT,apart:=fun h _=>hc _ h,tight:=fun h=>(by cases h)};refine Calls.mono (h C vals hg ⟨hf,fun i h h'=>.imm (hv i h h')⟩ (fun id hid=>rfl) (fun id _ _ hU=>hU)) ?_;rintro e w' ⟨x,C',rfl,rfl,h1,h2,hh,ha,hx⟩
 have hη:C'.η=r.η:=by
  funext id;rw[h1 id];by_cases hd:r.D id=true;rw[ag1 hd];rw[ag0 hd,he.same id (by simpa using hd)]
 have h2:=hr C' hh (fun id _=>by rw[hη]) x hx;refine⟨x,fun b=>C'.T b\/C'.mine b,rfl,h2.mono (fun b hb=>hb.imp (fun h=>h) bh) (fun _ _=>rfl),fun b hb=>.inl (ha.T b hb),?_,?_,⟨ha.os,ha.tape,ha.output,ha.size,fun k hk=>ha.keep k hk (hc k)⟩⟩;rintro b (hb|hb);rcases ha.Tnew b hb with h|h|h;exact .inl h;exact absurd h (hc b);exact .inr h;rcases ha.mine b hb with h|h;exact absurd h (hc b);exact .inr h;rintro b (hb|hb);exact hh.tlt hb;exact cw hh hb
def abn(P:Program)(RD:Nat->Prop)(M N:Nat)(s:St)(r:ResultVar)(ret:AV):Prop:=
 ∀DS C a,SRelX DS RD M N C s a->∃x,(Gc a.tmps r).run P C.w=.ok x C.w/\VR C ret x
section
variable{P:Program}{RD:Nat->Prop}{M N:Nat}{s:St}{fn:Func}
theorem abn.tmp{t:Nat}{v:AV}(h:s.τ t=v):abn P RD M N s (.tmp t) v:=by subst h;exact fun DS C a hs=>⟨a.tmps.getD t undef,by simp[Gc],hs.τ t⟩
theorem Iy{v:AV}{t ty id ver o:Nat}{b:Blk}(ht:ej P ty=some none)(hx:s.τ t=.ptr id ver o)(hb:s.η id=some b)(hR:RD id)(hv:b.ver=ver)(hn:b.nilp=false)(hc:b.cs[o]? =some v):abn P RD M N s (.cell t ty) v:=by intro DS C a hs;have hb':C.η id=some b:=(by rw[hs.η id hR];exact hb);have h1:=hs.τ t;rw[hx]at h1;have h2:=h1.ptr_inv hb' hv;simp only[Act.eval]at h2;obtain⟨hf,he⟩:=ahl.1 hc;obtain⟨y,hy,hd⟩:=hs.good.cell hb' hn hf;rw[he]at hd;have ha:=qd (P:=P) ht (b:=(C.ρ id).1) (o:=(C.ρ id).2+o) (w:=C.w) hy;refine⟨y,?_,hd⟩;simp only[Instr.loadAt,Instr.sureAddr,Sem.run_bind,ahc,ahb]at ha;simp only[Gc,h2,asAddr,Sem.run_bind,ahc,ahb];exact ha
theorem abn.cellN{t ty n id ver o:Nat}{b:Blk}{ds:List AV}(ht:ej P ty=some (some n))(hx:s.τ t=.ptr id ver o)(hb:s.η id=some b)(hR:RD id)(hv:b.ver=ver)(hn:b.nilp=false)(hd:cy o n b.cs=some ds):abn P RD M N s (.cell t ty) (.agg ds):=by intro DS C a hs;have hb':C.η id=some b:=(by rw[hs.η id hR];exact hb);have h1:=hs.τ t;rw[hx]at h1;have h2:=h1.ptr_inv hb' hv;simp only[Act.eval]at h2;obtain⟨hl,rfl⟩:=dy _ _ _ _ hd;obtain⟨fcell,hf⟩:=ef (n:=n) (p:=fun j y=>C.w.cell? ⟨(C.ρ id).1,(C.ρ id).2+o+j,none⟩=some y/\VR C (b.cs.getD (o+j) .unk) y) (fun j hj=>by obtain⟨y,hy,hg⟩:=hs.good.cell hb' hn (j:=o+j) (by omega);refine⟨y,by rw[<-hy];congr 2;omega,have:b.cs.getD (o+j) .unk=b.cs[o+j]'(by omega):=(by simp[List.getD,show o+j<b.cs.length by omega]);?_⟩;rw[this];exact hg);have hc:((List.range n).map fcell).length=n:=(by simp);have ha:=mm (P:=P) ht (b:=(C.ρ id).1) (o:=(C.ρ id).2+o) (w:=C.w) hc (fun j v hj=>by obtain⟨hh,he⟩:=ahl.1 hj;simp only[List.getElem_map,List.getElem_range]at he;subst he;exact(hf j (by simpa using hh)).1);exact⟨.agg ((List.range n).map fcell).toArray,by simp only[Instr.loadAt,Instr.sureAddr,Sem.run_bind,ahc,ahb]at ha;simp only[Gc,h2,asAddr,Sem.run_bind,ahc,ahb];exact ha,.agg (by simp;omega) (fun i hi hk=>by have hm:i<n:=(by simpa using hk);simp only[List.getElem_toArray,List.getElem_map,List.getElem_range];have:=(hf i hm).2;have e:(List.take n (List.drop o b.cs))[i]=b.cs.getD (o+i) .unk:=(by simp[List.getD,show o+i<b.cs.length by omega]);rw[e];exact this)⟩
inductive AllX(P:Program)(RD:Nat->Prop)(M N:Nat)(s:St):List ResultVar->List AV->Prop where
 |nil:AllX P RD M N s [] []
 |cons {r:ResultVar} {v:AV} {l:List ResultVar} {vs:List AV}:abn P RD M N s r v->AllX P RD M N s l vs->AllX P RD M N s (r :: l) (v :: vs)
theorem AllX.run{l:List ResultVar}{vs:List AV}(h:AllX P RD M N s l vs):∀DS C a,SRelX DS RD M N C s a->∃xs:List Value,(l.mapM (Gc a.tmps)).run P C.w=.ok xs C.w/\vs.length=xs.length/\∀i (h:i<vs.length) (h':i<xs.length),VR C vs[i] xs[i]:=by
 induction h with
 |nil=>intro DS C a hs;exact⟨[],by simp,rfl,fun i h=>absurd h (by simp)⟩
 |cons h1 _ ih=>
  intro DS C a hs
  obtain⟨x,e1,v1⟩:=h1 DS C a hs
  obtain⟨xs,e2,hl,v2⟩:=ih DS C a hs
  refine⟨x::xs,by simp[Sem.run_bind,Result.andThen,e1,e2],by simp[hl],fun i h h'=>?_⟩
  cases i with
  |zero=>exact v1
  |succ i=>exact v2 i (by simpa using h) (by simpa using h')
def Sp:List AV->AV
 |[v]=>v
 |vs=>.tup vs
theorem oq{vs:List AV}(h:AllX P RD M N s fn.results.toList vs):Xn P RD M N fn s (Sp vs):=by
 intro DS C a hs;obtain⟨xs,e,hl,hv⟩:=h.run DS C a hs;have hh:results fn a.tmps=(do let vs<-fn.results.mapM (Gc a.tmps);pure (if h:vs.size=1 then vs[0]else .tuple vs)):=by unfold results;congr 1
 have hm:(fn.results.mapM (Gc a.tmps)).run P C.w=.ok xs.toArray C.w:=by rw[Array.mapM_eq_mapM_toList];simp[Sem.run_bind,Result.andThen,e]
 refine⟨if h:xs.toArray.size=1 then xs.toArray[0]else .tuple xs.toArray,by rw[hh,Sem.run_bind,hm];rfl,?_⟩;match vs,xs,hl,hv with
 |[v],[x],_,hv=>exact hv 0 (by simp) (by simp)
 |[],[],_,_=>exact .tup rfl (fun i h=>absurd h (by simp))
 |v1::v2::vs,x1::x2::xs,hl,hv=>
  have:¬((x1::x2::xs).toArray.size=1):=by simp
  rw[dif_neg this]
  exact .tup (by simpa using hl) (fun i h h'=>by simpa using hv i h (by simpa using h'))
end
def l9{α:Type}(n:Nat)(k:Nat->Option α):Option α:=match n with
 |0=>k 0
 |.succ m=>k (.succ m)
theorem iu{α:Type}(n:Nat)(k:Nat->Option α):l9 n k=k n:=by cases n<;>rfl
structure ESX where
 t:Tri AV
 h:Tri (Option Blk)
 u:Nat
 rd:Nat
 wr:Nat
def ESX.st(E:ESX):St:=⟨bf E.t,be E.h,E.u⟩
structure Rx where
 F:Nat
 W:Nat
 u0:Nat
 u:Nat
 h:Tri (Option Blk)
 v:AV
def Rx.rc(r:Rx):Rc:=⟨r.F,r.W,r.u0,r.u,be r.h,r.v⟩
def At(h:Tri (Option Blk))(u:Nat):Prop:=∀id,u<=id->be h id=none
def ct:=Oper->ESX->Option Rx
def ct.Ok(P:Program)(f:ct):Prop:=∀o E r,At E.h E.u->f o E=some r->r.u0=E.u/\Fits (be E.h) r.rc/\rq P o (bf E.t) (be E.h) r.rc
def Lm{α:Type}(i:Int)(k:Int->Option α):Option α:=match i with
 |.ofNat n=>l9 n fun n=>k (.ofNat n)
 |.negSucc n=>l9 n fun n=>k (.negSucc n)
theorem Ll{α:Type}(i:Int)(k:Int->Option α):Lm i k=k i:=by cases i<;>simp[Lm,iu]
def Te{α:Type}(b:Bool)(k:Bool->Option α):Option α:=match b with
 |true=>k true
 |false=>k false
theorem Ln{α:Type}(b:Bool)(k:Bool->Option α):Te b k=k b:=by cases b<;>rfl
def Lo{α:Type}(v:AV)(k:AV->Option α):Option α:=match v with
 |.v x=>match x with
  |.int j i=>Lm i fun i=>k (.v (.int j i))
  |.bool b=>Te b fun b=>k (.v (.bool b))
  |x=>k (.v x)
 |.ptr a b c=>l9 a fun a=>l9 b fun b=>l9 c fun c=>k (.ptr a b c)
 |.sl a b c d=>l9 a fun a=>l9 b fun b=>l9 c fun c=>l9 d fun d=>k (.sl a b c d)
 |.tree n rows=>k (.tree n rows)
 |.tp cs o=>l9 o fun o=>k (.tp cs o)
 |.clo f caps=>k (.clo f caps)
 |.agg cs=>k (.agg cs)
 |.tup vs=>k (.tup vs)
 |.unk=>k .unk
 |.mp a b=>l9 a fun a=>l9 b fun b=>k (.mp a b)
 |.it a b=>l9 a fun a=>l9 b fun b=>k (.it a b)
theorem Ca{α:Type}(v:AV)(k:AV->Option α):Lo v k=k v:=by unfold Lo;split;split<;>simp[Ll,Ln];all_goals simp[iu]
def ESX.step(E:ESX)(dst:Option Nat)(r:Rx):Option ESX:=
 l9 (Nat.lor E.rd r.F) fun rd=>l9 (Nat.lor E.wr r.W) fun wr=>l9 r.u fun u=>match dst with
  |none=>some ⟨E.t,r.h,u,rd,wr⟩
  |some d=>Lo r.v fun v=>match Tri.set 24 E.t d v with
   |some t=>some ⟨t,r.h,u,rd,wr⟩
   |none=>none
theorem iz{E E':ESX}{o:Oper}{r:Rx}(h:E.step o.dst r=some E'):E'.st=sg o r.rc E.st/\E'.h=r.h/\E'.u=r.u/\E'.rd=E.rd|||r.F/\E'.wr=E.wr|||r.W:=by
 unfold ESX.step at h;rw[iu,iu,iu]at h;cases e2:o.dst with
 |none=>
  rw[e2]at h
  simp only[agv]at h
  subst h
  exact⟨by simp only[ESX.st,sg,e2,kj,Rx.rc],rfl,rfl,rfl,rfl⟩
 |some d=>
  rw[e2]at h
  simp only[Ca]at h
  cases e3:Tri.set 24 E.t d r.v with
  |none=>rw[e3]at h;cases h
  |some t1=>
   rw[e3]at h
   simp only[agv]at h
   subst h
   exact⟨by simp only[ESX.st,sg,e2,kj,Rx.rc,vd e3],rfl,rfl,rfl,rfl⟩
structure Mono(E E':ESX):Prop where
 rd:∀id,E.rd.testBit id=true->E'.rd.testBit id=true
 wr:∀id,E.wr.testBit id=true->E'.wr.testBit id=true
 u:E.u<=E'.u
 h:∀id,id<E.u->E'.wr.testBit id=false->be E'.h id=be E.h id
 low:At E.h E.u->At E'.h E'.u
 sub:(∀id,E.wr.testBit id=true->E.rd.testBit id=true)->∀id,E'.wr.testBit id=true->E'.rd.testBit id=true
 lrd:(∀id,E.rd.testBit id=true->id<E.u)->∀id,E'.rd.testBit id=true->id<E'.u
theorem Mono.refl(E:ESX):Mono E E:=⟨fun _ h=>h,fun _ h=>h,ag7 _,fun _ _ _=>rfl,fun h=>h,fun h=>h,fun h=>h⟩
theorem Mono.trans{A B C:ESX}(h:Mono A B)(k:Mono B C):Mono A C where
 rd:=fun id ha=>k.rd id (h.rd id ha)
 wr:=fun id ha=>k.wr id (h.wr id ha)
 u:=aha h.u k.u
 h:=fun id ha hw=>by
  have:B.wr.testBit id=false:=by
   cases hb:B.wr.testBit id with
   |false=>rfl
   |true=>rw[k.wr id hb]at hw;cases hw
  rw[k.h id (Nat.lt_of_lt_of_le ha h.u) hw,h.h id ha this]
 low:=fun hl=>k.low (h.low hl)
 sub:=fun hs=>k.sub (h.sub hs)
 lrd:=fun hs=>k.lrd (h.lrd hs)
theorem lf{E E':ESX}{r:Rx}(h1:E'.h=r.h)(h2:E'.u=r.u)(h3:E'.rd=E.rd|||r.F)(h4:E'.wr=E.wr|||r.W)(hu:r.u0=E.u)(hf:Fits (be E.h) r.rc):Mono E E':=by
 have hu0:r.rc.u0=E.u:=hu
 have hle:r.rc.u0<=r.rc.u:=hf.le
 have hru:r.rc.u=r.u:=rfl
 refine⟨fun id ha=>by rw[h3,Nat.testBit_or,ha];rfl,fun id ha=>by rw[h4,Nat.testBit_or,ha];rfl,by omega,fun id ha hw=>?_,fun hl id ha=>?_,fun hs id ha=>?_,fun hs id ha=>?_⟩
 ·rw[h1]
  refine hf.same id ?_
  cases hd:r.rc.D id with
  |false=>rfl
  |true=>
   rcases Rc.D_iff.1 hd with h5|h5
   ·rw[h4,Nat.testBit_or,show r.W.testBit id=true from h5]at hw
    simp at hw
   ·omega
 ·rw[h1]
  have:r.rc.D id=false:=by
   cases hd:r.rc.D id with
   |false=>rfl
   |true=>
    rcases Rc.D_iff.1 hd with h5|h5
    ·have:=hf.low id (hf.sub id h5);omega
    ·omega
  exact(hf.same id this).trans (hl id (by omega))
 ·rw[h4,Nat.testBit_or,Bool.or_eq_true]at ha
  rw[h3,Nat.testBit_or,Bool.or_eq_true]
  exact ha.imp (hs id) (hf.sub id)
 ·rw[h3,Nat.testBit_or,Bool.or_eq_true]at ha
  rcases ha with h5|h5
  ·have:=hs id h5;omega
  ·have:=hf.low id h5;omega
def kg(f:ct)(ops:Array Oper):List Oper->ESX->Option (List Rx×ESX)
 |[],E=>some ([],E)
 |o::l,E=>
  match m8 ops (bf E.t) o with
  |none=>none
  |some false=>
   match E.step o.dst ⟨0,0,E.u,E.u,E.h,.v undef⟩with
   |none=>none
   |some E'=>match kg f ops l E' with
    |none=>none
    |some (rs,E'')=>some (⟨0,0,E.u,E.u,E.h,.v undef⟩::rs,E'')
  |some true=>
   match f o E with
   |none=>none
   |some r=>
    match E.step o.dst r with
    |none=>none
    |some E'=>match kg f ops l E' with
     |none=>none
     |some (rs,E'')=>some (r::rs,E'')
structure RunOk(E E':ESX)(r:Rx):Prop where
 F:∀id,r.F.testBit id=true->E'.rd.testBit id=true
 W:∀id,r.W.testBit id=true->E'.wr.testBit id=true
 u0:E.u<=r.u0
 u:r.u<=E'.u
theorem Cb{η:bi}{u:Nat}{h:Tri (Option Blk)}{v:AV}(hη:be h=η):Fits η (Rx.rc ⟨0,0,u,u,h,v⟩):=⟨ag7 _,fun id _=>by rw[<-hη];rfl,fun id ha=>ha,fun id ha=>by have:(0:Nat).testBit id=true:=ha;simp at this⟩
theorem x8{P:Program}{N:Nat}{f:ct}(hf:f.Ok P){ops:Array Oper}:∀(l:List Oper) (E E':ESX) (rs:List Rx),(∀o∈l,jh N ops o=true)->At E.h E.u->kg f ops l E=some (rs,E')->
 SeqX P N ops l E.st (rs.map Rx.rc) E'.st/\Mono E E'/\∀r∈rs,RunOk E E' r:=by
 intro l
 induction l with
 |nil=>
  intro E E' rs hd hl h
  simp only[kg,agv,Prod.mk.injEq]at h
  obtain⟨rfl,rfl⟩:=h
  exact⟨.nil,Mono.refl _,fun r hr=>by cases hr⟩
 |cons o l ih=>
  intro E E' rs hd hl h
  simp only[kg]at h
  have hg:=hd o (by simp)
  have hh:∀o∈l,jh N ops o=true:=fun o ho=>hd o (by simp[ho])
  have main:∀(r:Rx) (E1:ESX) (rs1:List Rx),r.u0=E.u->Fits (be E.h) r.rc->((m8 ops E.st.τ o=some true/\rq P o E.st.τ E.st.η r.rc)\/(m8 ops E.st.τ o=some false/\r.rc.v=.v undef/\r.rc.F=0/\r.rc.u=E.st.u))->E.step o.dst r=some E1->kg f ops l E1=some (rs1,E')->
   SeqX P N ops (o::l) E.st ((r::rs1).map Rx.rc) E'.st/\Mono E E'/\∀r'∈r::rs1,RunOk E E' r':=by
   intro r E1 rs1 hu ha hb hs hr
   obtain⟨s1,s2,s3,s4,s5⟩:=iz hs
   have m1:Mono E E1:=lf s2 s3 s4 s5 hu ha
   obtain⟨i1,i2,i3⟩:=ih E1 E' rs1 hh (m1.low hl) hr
   refine⟨.cons ⟨hg,hu,ha,hb⟩ (by rw[<-s1];exact i1),m1.trans i2,fun r' hc=>?_⟩
   rcases ahi.1 hc with rfl|hc
   ·refine⟨fun id he=>i2.rd id (by rw[s4,Nat.testBit_or,he];simp),fun id he=>i2.wr id (by rw[s5,Nat.testBit_or,he];simp),by omega,?_⟩
    have:=i2.u
    omega
   ·have:=i3 r' hc
    exact⟨this.F,this.W,aha m1.u this.u0,this.u⟩
  split at h
  ·cases h
  ·rename_i hw
   split at h
   ·cases h
   ·rename_i E1 hs
    split at h
    ·cases h
    ·rename_i rs1 E2 hr
     simp only[agv,Prod.mk.injEq]at h
     obtain⟨rfl,rfl⟩:=h
     exact main _ _ _ rfl (Cb rfl) (.inr ⟨hw,rfl,rfl,rfl⟩) hs hr
  ·rename_i hw
   split at h
   ·cases h
   ·rename_i r ho
    obtain⟨q1,q2,q3⟩:=hf o E r hl ho
    split at h
    ·cases h
    ·rename_i E1 hs
     split at h
     ·cases h
     ·rename_i rs1 E2 hr
      simp only[agv,Prod.mk.injEq]at h
      obtain⟨rfl,rfl⟩:=h
      exact main _ _ _ q1 q2 (.inl ⟨hw,q3⟩) hs hr
def N4(m i:Nat):Bool:=Nat.beq (Nat.land (Nat.shiftRight m i) 1) 1
theorem Hl{m i:Nat}(h:N4 m i=true):m.testBit i=true:=by have h1:=agu h;have h2:(m>>>i)&&& 1=1:=h1;unfold Nat.testBit;rw[Nat.and_comm]at h2;rw[h2];rfl
def qx(ops:Array Oper)(ok:Oper)(m:Nat):List Oper->Nat->Bool
 |[],_=>true
 |oi::l,i=>(N4 m i||Oper.apart ops oi ok)&&qx ops ok m l (i+1)
def Fw(ops:Array Oper):List Oper->List Nat->Nat->Bool
 |[],_,_=>true
 |ok::l,ms,k=>(bv ok).all (fun i=>Nat.ble (i+1) k)&&(match ok.op with|.select _ _=>false|_=>true)&&
  (match ms with
  |[]=>false
  |m::ms=>qx ops ok m (ops.toList.take k) 0&&Fw ops l ms (k+1))
def O0(ops:Array Oper):Bool:=Fw ops ops.toList (uf ops.toList []) 0
theorem vf{ops:Array Oper}{ok:Oper}{m:Nat}:∀(l:List Oper) (i0:Nat),qx ops ok m l i0=true->∀(i:Nat) (oi:Oper),l[i]? =some oi->m.testBit (i0+i)=true\/Oper.apart ops oi ok=true
 |[],_,_,i,oi,h=>by simp at h
 |o::l,i0,h,i,oi,hi=>by
  simp only[qx,ahq,Bool.or_eq_true]at h;cases i with
  |zero=>
   simp only[List.getElem?_cons_zero,agv]at hi
   subst hi
   exact h.1.imp Hl (fun h=>h)
  |succ i=>
   have:=vf l (i0+1) h.2 i oi (by simpa using hi)
   rwa [show i0+1+i=i0+(i+1)by omega]at this
theorem Bg{ops:Array Oper}:∀(l:List Oper) (ms:List Nat) (k0:Nat),Fw ops l ms k0=true->∀(j:Nat) (ok:Oper),l[j]? =some ok->(∀i∈bv ok,i<k0+j)/\(∀cs b,ok.op≠.select cs b)/\∃m:Nat,ms[j]? =some m/\qx ops ok m (ops.toList.take (k0+j)) 0=true
 |[],_,_,_,j,ok,h=>by simp at h
 |o::l,ms,k0,h,j,ok,hj=>by
  simp only[Fw,ahq]at h
  obtain⟨⟨h1,h2⟩,h3⟩:=h
  cases ms with
  |nil=>cases h3
  |cons m ms=>
   simp only[ahq]at h3
   cases j with
   |zero=>
    simp only[List.getElem?_cons_zero,agv]at hj
    subst hj
    refine⟨fun i hi=>ag9 (List.all_eq_true.1 h1 i hi),fun cs b e=>(by rw[e]at h2;cases h2),m,rfl,h3.1⟩
   |succ j=>
    obtain⟨g1,g2,m',g3,g4⟩:=Bg l ms (k0+1) h3.2 j ok (by simpa using hj)
    rw[show k0+1+j=k0+(j+1)by omega]at g1 g4
    exact⟨g1,g2,m',by simpa using g3,g4⟩
theorem Fv{l:List Oper}(h:O0 l.toArray=true):(∀(k:Nat) (ok:Oper),l[k]? =some ok->(∀i∈bv ok,i<k)/\∀cs b,ok.op≠.select cs b)/\
 ∀(i k:Nat) (oi ok:Oper),i<k->l[i]? =some oi->l[k]? =some ok->Anc l.toArray k i\/Oper.apart l.toArray oi ok=true:=by
 have h1:=Bg _ _ _ h
 refine⟨fun k ok hk=>?_,fun i k oi ok hik hi hk=>?_⟩
 ·obtain⟨g1,g2,_⟩:=h1 k ok (by simpa using hk)
  exact⟨by simpa using g1,g2⟩
 ·obtain⟨_,_,m,hm,hp⟩:=h1 k ok (by simpa using hk)
  have ha:(l.take (0+k))[i]? =some oi:=by rw[List.getElem?_take_of_lt (by omega)];exact hi
  rcases vf _ _ hp i oi (by simpa using ha)with h2|h2
  ·left
   refine n9 l [] (fun j o hj=>by simpa using hj) (fun k i h=>by simp at h) k i ?_
   have:((uf l []).getD k 0)=m:=by simp only[List.getD];have:(uf l [])[k]? =some m:=(by simpa using hm);rw[this];rfl
   rw[this]
   simpa using h2
  ·exact .inr h2
def x9(a b:Nat):Nat:=Nat.shiftLeft (Nat.sub (Nat.shiftLeft 1 (Nat.sub b a)) 1) a
theorem H6{a b id:Nat}:(x9 a b).testBit id=true↔(a<=id/\id<b):=by have h:x9 a b=(2^(b-a)-1)<<<a:=(by unfold x9;have h1:Nat.shiftLeft 1 (Nat.sub b a)=2^(b-a):=(by show 1<<<(b-a)=_;rw[Nat.one_shiftLeft]);rw[h1];rfl);rw[h,Nat.testBit_shiftLeft,Nat.testBit_two_pow_sub_one];simp only[ahq,decide_eq_true_eq];omega
def Rx.dm(r:Rx):Nat:=bif Nat.beq r.u0 r.u then r.W else Nat.lor r.W (x9 r.u0 r.u)
theorem Rx.dm_iff{r:Rx}{id:Nat}:r.dm.testBit id=true↔r.rc.D id=true:=by
 unfold Rx.dm;rw[Rc.D_iff];cases hb:Nat.beq r.u0 r.u with
 |true=>
  have:=agu hb
  simp only[cond_true,Rx.rc]
  constructor
  ·exact .inl
  ·rintro(h|h)
   ·exact h
   ·omega
 |false=>
  simp only[cond_false,Rx.rc]
  rw[show Nat.lor r.W (x9 r.u0 r.u)=r.W|||x9 r.u0 r.u from rfl,Nat.testBit_or,Bool.or_eq_true,H6]
def Bv(f d f' d':Nat):Bool:=Nat.beq (Nat.land d (Nat.lor f' d')) 0&&Nat.beq (Nat.land d' f) 0
theorem rb{a b:Nat}(h:Nat.beq (Nat.land a b) 0=true){x:Nat}(hx:a.testBit x=true):b.testBit x=false:=by have h1:=agu h;have h2:a&&& b=0:=h1;have h3:(a&&& b).testBit x=false:=(by rw[h2];simp);rw[Nat.testBit_and,hx]at h3;simpa using h3
def Ea:List Nat->List Rx->Nat->List (Nat×Nat×Nat)->Bool
 |m::ms,r::rs,k,acc=>bif Nat.beq r.F 0&&Nat.beq r.dm 0 then Ea ms rs (k+1) acc else
  acc.all (fun q=>N4 m q.1||Bv q.2.1 q.2.2 r.F r.dm)&&Ea ms rs (k+1) ((k,r.F,r.dm)::acc)
 |_,[],_,_=>true
 |[],_::_,_,_=>false
theorem uy:∀(ms:List Nat) (rs:List Rx) (k0:Nat) (acc:List (Nat×Nat×Nat)),Ea ms rs k0 acc=true->∀(j:Nat) (r:Rx),rs[j]? =some r->∃m:Nat,ms[j]? =some m/\
 ((r.F=0/\r.dm=0)\/((∀q∈acc,m.testBit q.1=true\/Bv q.2.1 q.2.2 r.F r.dm=true)/\∀(i:Nat) (ri:Rx),i<j->rs[i]? =some ri->(ri.F=0/\ri.dm=0)\/m.testBit (k0+i)=true\/Bv ri.F ri.dm r.F r.dm=true))
 |[],[],_,_,_,j,r,hj=>by simp at hj
 |_::_,[],_,_,_,j,r,hj=>by simp at hj
 |[],_::_,_,_,h,_,_,_=>by simp[Ea]at h
 |m::ms,r0::rs,k0,acc,h,j,r,hj=>by
  simp only[Ea]at h;cases hz:(Nat.beq r0.F 0&&Nat.beq r0.dm 0)with
  |true=>
   rw[hz]at h
   simp only[cond_true]at h
   rw[ahq]at hz
   have z1:=agu hz.1
   have z2:=agu hz.2
   cases j with
   |zero=>
    simp only[List.getElem?_cons_zero,agv]at hj
    subst hj
    exact⟨m,rfl,.inl ⟨z1,z2⟩⟩
   |succ j=>
    obtain⟨m',g1,g2⟩:=uy ms rs (k0+1) acc h j r (by simpa using hj)
    refine⟨m',by simpa using g1,g2.imp (fun h=>h) (fun⟨g3,g4⟩=>⟨g3,fun i ri ha hi=>?_⟩)⟩
    cases i with
    |zero=>
     simp only[List.getElem?_cons_zero,agv]at hi
     subst hi
     exact .inl ⟨z1,z2⟩
    |succ i=>
     have:=g4 i ri (by omega) (by simpa using hi)
     rwa [show k0+1+i=k0+(i+1)by omega]at this
  |false=>
   rw[hz]at h
   simp only[cond_false,ahq]at h
   obtain⟨h1,h2⟩:=h
   cases j with
   |zero=>
    simp only[List.getElem?_cons_zero,agv]at hj
    subst hj
    refine⟨m,rfl,.inr ⟨fun q hq=>?_,fun i ri ha=>by omega⟩⟩
    have:=List.all_eq_true.1 h1 q hq
    rw[Bool.or_eq_true]at this
    exact this.imp Hl (fun h=>h)
   |succ j=>
    obtain⟨m',g1,g2⟩:=uy ms rs (k0+1) _ h2 j r (by simpa using hj)
    refine⟨m',by simpa using g1,g2.imp (fun h=>h) (fun⟨g3,g4⟩=>⟨fun q hq=>g3 q (by simp[hq]),fun i ri ha hi=>?_⟩)⟩
    cases i with
    |zero=>
     simp only[List.getElem?_cons_zero,agv]at hi
     subst hi
     exact .inr (by simpa using g3 (k0,r0.F,r0.dm) (by simp))
    |succ i=>
     have:=g4 i ri (by omega) (by simpa using hi)
     rwa [show k0+1+i=k0+(i+1)by omega]at this
def Aj(ops:Array Oper)(u0:Nat)(rs:List Rx)(E':ESX):Bool:=
 O0 ops&&((Nat.beq E'.wr 0&&Nat.beq (Nat.shiftRight E'.rd u0) 0)||Ea (uf ops.toList []) rs 0 [])
theorem Is{P:Program}{N:Nat}{l:List Oper}{E E':ESX}{rs:List Rx}(hq:SeqX P N l.toArray l E.st (rs.map Rx.rc) E'.st)(hn:∀r∈rs,RunOk E E' r)(hc:Aj l.toArray E.u rs E'=true):DrawOk l (rs.map Rx.rc):=by
 unfold Aj at hc
 rw[ahq,Bool.or_eq_true]at hc
 obtain⟨hu,hr⟩:=hc
 obtain⟨s1,s2⟩:=Fv hu
 obtain⟨hs,hend,ha⟩:=hq.facts
 refine⟨fun i k oi ok ri rk ht hi hk hf hg=>?_,s1⟩
 by_cases hA:Anc l.toArray k i
 ·exact .inl hA
 right
 have hv:=(s2 i k oi ok ht hi hk).resolve_left hA
 obtain⟨a1,a2,a3⟩:=Oper.apart_spec hv
 rw[List.getElem?_map]at hf hg
 cases hl:rs[i]? with
 |none=>rw[hl]at hf;cases hf
 |some xi=>
  cases ho:rs[k]? with
  |none=>rw[ho]at hg;cases hg
  |some xk=>
   rw[hl]at hf
   rw[ho]at hg
   simp only[ahn,agv]at hf hg
   subst hf hg
   have oi':=hn xi (List.mem_of_getElem? hl)
   have ok':=hn xk (List.mem_of_getElem? ho)
   have fi:=ha i oi xi.rc hi (by rw[List.getElem?_map,hl];rfl)
   have fk:=ha k ok xk.rc hk (by rw[List.getElem?_map,ho];rfl)
   rcases hr with he|hp
   ·rw[ahq]at he
    have w0:=agu he.1
    have r0:E'.rd>>>E.u=0:=agu he.2
    have noW:∀(x:Rx),RunOk E E' x->∀id,x.rc.D id=true->x.u0<=id/\id<x.u:=fun x hx id hd=>by
     rcases Rc.D_iff.1 hd with h|h
     ·have:=hx.W id h
      rw[w0]at this
      simp at this
     ·exact h
    have noF:∀(x:Rx),RunOk E E' x->∀id,E.u<=id->x.F.testBit id=false:=fun x hx id hle=>by
     cases hb:x.F.testBit id with
     |false=>rfl
     |true=>
      have h1:=hx.F id hb
      have h2:(E'.rd>>>E.u).testBit (id-E.u)=true:=by
       rw[Nat.testBit_shiftRight,show E.u+(id-E.u)=id by omega];exact h1
      rw[r0]at h2
      simp at h2
    have hmu:xi.u<=xk.u0:=by
     have h1:=Fz ha hs (k-(i+1)) (i+1) (by have:=(ahl.1 hk).1;omega)
     rw[show i+1+(k-(i+1))=k by omega,ly l (rs.map Rx.rc) i E.st oi xi.rc hi (by rw[List.getElem?_map,hl];rfl)]at h1
     have h2:xk.rc.u0=_:=fk.u
     have h3:xi.rc.u<=xk.rc.u0:=by rw[h2];exact h1
     exact h3
    refine⟨a1,a2,a3,fun x hx=>?_,fun x hx=>?_,fun x hx=>?_⟩
    ·have:=noW xi oi' x hx
     exact noF xk ok' x (by have:=oi'.u0;omega)
    ·have:=noW xk ok' x hx
     exact noF xi oi' x (by have:=ok'.u0;omega)
    ·cases hy:xk.rc.D x with
     |false=>rfl
     |true=>
      have h1:=noW xi oi' x hx
      have h2:=noW xk ok' x hy
      omega
   ·obtain⟨m,hm,hh⟩:=uy _ _ _ _ hp k xk ho
    have triv:∀(x:Rx),x.F=0/\x.dm=0->(∀id,x.rc.D id=false)/\∀id,x.rc.F.testBit id=false:=fun x ⟨h1,h2⟩=>by
     refine⟨fun id=>?_,fun id=>?_⟩
     ·cases hd:x.rc.D id with
      |false=>rfl
      |true=>
       have:=Rx.dm_iff.2 hd
       rw[h2]at this
       simp at this
     ·show x.F.testBit id=false
      rw[h1];simp
    rcases hh with hh|⟨_,hh⟩
    ·obtain⟨t1,t2⟩:=triv xk hh
     exact⟨a1,a2,a3,fun x _=>t2 x,fun x hx=>(by rw[t1 x]at hx;cases hx),fun x _=>t1 x⟩
    ·rcases hh i xi ht hl with hh|hh|hh
     ·obtain⟨t1,t2⟩:=triv xi hh
      exact⟨a1,a2,a3,fun x hx=>(by rw[t1 x]at hx;cases hx),fun x _=>t2 x,fun x hx=>(by rw[t1 x]at hx;cases hx)⟩
     ·exfalso
      refine hA (n9 l [] (fun j o hj=>by simpa using hj) (fun k i h=>by simp at h) k i ?_)
      have:((uf l []).getD k 0)=m:=by
       simp only[List.getD]
       have:(uf l [])[k]? =some m:=by simpa using hm
       rw[this];rfl
      rw[this]
      simpa using hh
     ·unfold Bv at hh
      rw[ahq]at hh
      have q1:∀x,xi.rc.D x=true->xk.F.testBit x=false/\xk.dm.testBit x=false:=fun x hx=>by
       have:=rb hh.1 (Rx.dm_iff.2 hx)
       rw[show Nat.lor xk.F xk.dm=xk.F|||xk.dm from rfl,Nat.testBit_or,Bool.or_eq_false_iff]at this
       exact this
      refine⟨a1,a2,a3,fun x hx=>(q1 x hx).1,fun x hx=>rb hh.2 (Rx.dm_iff.2 hx),fun x hx=>?_⟩
      cases hy:xk.rc.D x with
      |false=>rfl
      |true=>
       have:=(q1 x hx).2
       rw[Rx.dm_iff.2 hy]at this
       cases this
def G7(N:Nat)(ops:Array Oper):Bool:=ops.toList.all (jh N ops)
structure Under(RD WD:Nat->Prop)(M:Nat)(ub:Nat)(E':ESX):Prop where
 rd:∀id,E'.rd.testBit id=true->RD id
 wd:∀id,E'.wr.testBit id=true->WD id
 u:E'.u<=M
 new:∀id,ub<=id->id<M->RD id/\WD id
theorem Under.back{RD WD:Nat->Prop}{M u:Nat}{E1 E':ESX}(h:Under RD WD M u E')(m:Mono E1 E'):Under RD WD M u E1:=
 ⟨fun id ha=>h.rd id (m.rd id ha),fun id ha=>h.wd id (m.wr id ha),aha m.u h.u,h.new⟩
theorem Under.up{RD WD:Nat->Prop}{M u u1:Nat}{E':ESX}(h:Under RD WD M u E')(hu:u<=u1):Under RD WD M u1 E':=
 ⟨h.rd,h.wd,h.u,fun id h1 h2=>h.new id (aha hu h1) h2⟩
def eqS:AV->AV->Bool
 |.v (.int k i),.v (.int k' i')=>decide (k=k')&&decide (i=i')
 |.v (.bool b),.v (.bool b')=>b==b'
 |.v (.slice none a c),.v (.slice none a' c')=>Nat.beq a a'&&Nat.beq c c'
 |.v (.pointer none),.v (.pointer none)=>true
 |.v (.map none),.v (.map none)=>true
 |.ptr a b c,.ptr a' b' c'=>Nat.beq a a'&&(Nat.beq b b'&&Nat.beq c c')
 |.sl a b c d,.sl a' b' c' d'=>Nat.beq a a'&&(Nat.beq b b'&&(Nat.beq c c'&&Nat.beq d d'))
 |.mp a b,.mp a' b'=>Nat.beq a a'&&Nat.beq b b'
 |.tree n [],.tree n' []=>Nat.beq n n'
 |_,_=>false
theorem aaf{x y:AV}(h:eqS x y=true):x=y:=by
 unfold eqS at h;split at h<;>try simp only[ahq,decide_eq_true_eq,beq_iff_eq]at h
 all_goals first
  |(obtain⟨rfl,rfl⟩:=h;rfl)
  |(subst h;rfl)
  |(obtain⟨h1,h2⟩:=h;have:=agu h1;have:=agu h2;subst_vars;rfl)
  |(obtain⟨h1,h2,h3⟩:=h;have:=agu h1;have:=agu h2;have:=agu h3;subst_vars;rfl)
  |(obtain⟨h1,h2,h3,h4⟩:=h;have:=agu h1;have:=agu h2;have:=agu h3;have:=agu h4;subst_vars;rfl)
  |(have:=agu h;subst_vars;rfl)
  |rfl
  |cases h
def sh(a:Nat)(r:Rx):Rx:=bif Nat.beq r.dm 0&&N4 r.F a then⟨Nat.xor r.F (Nat.shiftLeft 1 a),r.W,r.u0,r.u,r.h,r.v⟩else r
theorem yy(a:Nat)(r:Rx):(sh a r).dm=r.dm:=by unfold sh;cases(Nat.beq r.dm 0&&N4 r.F a)<;>rfl
theorem Dj{a:Nat}{r:Rx}{x:Nat}(h:(sh a r).F.testBit x=false):r.F.testBit x=false\/(x=a/\r.dm=0):=by
 unfold sh at h
 cases hc:(Nat.beq r.dm 0&&N4 r.F a)with
 |false=>rw[hc]at h;exact .inl h
 |true=>
  rw[hc]at h
  rw[ahq]at hc
  have h1:(r.F ^^^(1<<<a)).testBit x=false:=h
  rw[Nat.testBit_xor,Nat.one_shiftLeft,Nat.testBit_two_pow]at h1
  by_cases e:a=x
  ·exact .inr ⟨e.symm,agu hc.1⟩
  ·rw[decide_eq_false e,Bool.xor_false]at h1;exact .inl h1
theorem x5{a:Nat}{r:Rx}(h:(sh a r).F=0/\(sh a r).dm=0):(∀id,r.rc.D id=false)/\∀id,r.rc.F.testBit id=false\/(id=a/\∀y,r.rc.D y=false):=by
 have h2:r.dm=0:=by rw[<-yy a r];exact h.2
 have hD:∀id,r.rc.D id=false:=fun id=>by
  cases hd:r.rc.D id with
  |false=>rfl
  |true=>have:=Rx.dm_iff.2 hd;rw[h2]at this;simp at this
 refine⟨hD,fun id=>?_⟩
 have:(sh a r).F.testBit id=false:=by rw[h.1];simp
 exact(Dj this).imp (fun h=>h) (fun h=>⟨h.1,hD⟩)
def Ws(E:ESX)(a:Nat)(rs:List Rx):List (Option Blk):=be E.h a::rs.map fun r=>be r.h a
def Sc(x r:Rx):Bool:=eqS x.v r.v&&(Nat.beq x.F r.F&&Nat.beq x.dm 0)
def yx(f:ct)(a:Nat)(cs:List (Option Blk)):List Oper->List Rx->ESX->Bool
 |o::l,r::rs,E=>(bif Nat.beq r.dm 0&&N4 r.F a then cs.all (fun c=>match Tri.set 24 E.h a c with
  |none=>false
  |some h'=>match f o ⟨E.t,h',E.u,E.rd,E.wr⟩with
   |none=>false
   |some x=>Sc x r)else true)&&(match E.step o.dst r with
  |none=>false
  |some E1=>yx f a cs l rs E1)
 |_,_,_=>true
def Jx(f:ct)(ops:Array Oper)(E:ESX)(rs:List Rx)(a:Nat):Bool:=Ea (uf ops.toList []) (rs.map (sh a)) 0 []&&yx f a (Ws E a rs) ops.toList rs E
def X5(E:ESX)(rs:List Rx):List Nat:=(List.range E.u).filter fun i=>rs.any fun r=>N4 r.W i
def yz(f:ct)(ops:Array Oper)(E:ESX)(rs:List Rx):Bool:=O0 ops&&(X5 E rs).any (Jx f ops E rs)
theorem rq.same{P:Program}{o:Oper}{τ:Nat->AV}{η:bi}{r x:Rc}(h:rq P o τ η x)(hv:x.v=r.v)(hF:x.F=r.F)(hx:∀id,x.D id=false)(hr:∀id,r.D id=false):rq P o τ η r:=by intro C a hg hb hc hnew K Q hK;exact h C a hg hb (fun id ha=>hc id (by rw[<-hF];exact ha)) (fun id h1 h2=>by have:=Rc.D_iff.2 (.inr ⟨h1,h2⟩);rw[hx id]at this;cases this) K Q fun y C' h1 h2 h3 h4 h5=>hK y C' (fun id=>by rw[h1 id,hx id,hr id];simp) (fun id ha=>(h2 id ha).elim .inl (fun h=>by rw[hx id]at h;cases h)) h3 h4 (by rw[<-hv];exact h5)
theorem W7{m i:Nat}(h:m.testBit i=true):N4 m i=true:=by unfold N4;have h1:(m>>>i)&&& 1=1:=(by have:m.testBit i=((m>>>i)&&& 1==1):=(by unfold Nat.testBit;rw[Nat.and_comm];have:(m>>>i)&&& 1=(m>>>i)%2:=Nat.and_one_is_mod _;rw[this];rcases Nat.mod_two_eq_zero_or_one (m>>>i)with e|e<;>rw[e]<;>rfl);rw[this]at h;simpa using h);show Nat.beq ((m>>>i)&&& 1) 1=true;rw[h1];rfl
theorem x4{P:Program}{N:Nat}{f:ct}(hf:f.Ok P){ops:Array Oper}{a:Nat}{cs:List (Option Blk)}:∀(l:List Oper) (rs:List Rx) (E:ESX) (s':St),SeqX P N ops l E.st (rs.map Rx.rc) s'->At E.h E.u->yx f a cs l rs E=true->
 ∀(i:Nat) (oi:Oper) (ri:Rx),l[i]? =some oi->rs[i]? =some ri->(∀y,ri.rc.D y=false)->ri.F.testBit a=true->∀c∈cs,rq P oi (kw l (rs.map Rx.rc) i E.st).τ ((kw l (rs.map Rx.rc) i E.st).η.set a c) ri.rc
 |[],rs,E,s',_,_,_,i,oi,ri,hi,_,_,_,c,_=>by simp at hi
 |o::l,[],E,s',_,_,_,i,oi,ri,_,hr,_,_,c,_=>by simp at hr
 |o::l,r::rs,E,s',hj,hg,hs,i,oi,ri,hi,hr,hD,hF,c,hc=>by
  simp only[yx]at hs
  rw[ahq]at hs
  obtain⟨h1,h2⟩:=hs
  cases hj with
  |cons hb hh=>
  cases i with
  |zero=>
   simp only[List.getElem?_cons_zero,agv]at hi hr
   subst hi hr
   rw[fu]
   have hn:Nat.beq r.dm 0=true:=by
    have:r.dm=0:=by
     apply Nat.eq_of_testBit_eq
     intro y
     cases hy:r.dm.testBit y with
     |false=>simp
     |true=>have:=Rx.dm_iff.1 hy;rw[hD y]at this;cases this
    rw[this];rfl
   rw[hn,W7 hF]at h1
   simp only[Bool.and_self,cond_true]at h1
   have h3:=List.all_eq_true.1 h1 c hc
   cases he:Tri.set 24 E.h a c with
   |none=>rw[he]at h3;cases h3
   |some h'=>
    rw[he]at h3
    simp only at h3
    have ha:a<E.u:=by
     have:=hb.fits.low a hF
     have hu:r.rc.u0=E.st.u:=hb.u
     have:a<E.st.u:=by omega
     exact this
    cases hk:f o ⟨E.t,h',E.u,E.rd,E.wr⟩with
    |none=>rw[hk]at h3;cases h3
    |some x=>
     rw[hk]at h3
     simp only[Sc,ahq]at h3
     obtain⟨e1,e2,e3⟩:=h3
     have hη':be h'=(be E.h).set a c:=lx he
     obtain⟨_,_,q3⟩:=hf o ⟨E.t,h',E.u,E.rd,E.wr⟩ x (fun id hm=>by
      show be h' id=none
      rw[hη',am _ _ (by have:E.u<=id:=hm;omega)]
      exact hg id hm) hk
     have ho:∀id,x.rc.D id=false:=fun id=>by
      cases hd:x.rc.D id with
      |false=>rfl
      |true=>have:=Rx.dm_iff.2 hd;rw[agu e3]at this;simp at this
     have q4:rq P o (bf E.t) (be h') x.rc:=q3
     rw[hη']at q4
     exact q4.same (aaf e1) (agu e2) ho hD
  |succ i=>
   cases hl:E.step o.dst r with
   |none=>rw[hl]at h2;cases h2
   |some E1=>
    rw[hl]at h2
    simp only at h2
    obtain⟨s1,s2,s3,s4,s5⟩:=iz hl
    have m1:Mono E E1:=lf s2 s3 s4 s5 hb.u hb.fits
    have:=x4 hf l rs E1 s' (by rw[s1];exact hh) (m1.low hg) h2 i oi ri (by simpa using hi) (by simpa using hr) hD hF c hc
    rw[s1]at this
    exact this
theorem Bo{a:Nat}:∀(rs:List Rx) (l:List Oper) (s:St) (m:Nat),m<=l.length->rs.length=l.length->(kw l (rs.map Rx.rc) m s).η a=s.η a\/∃r∈rs,(kw l (rs.map Rx.rc) m s).η a=be r.h a
 |_,l,s,0,_,_=>by rw[fu];exact .inl rfl
 |[],[],s,m+1,h,_=>by simp at h
 |[],o::l,s,m+1,_,h=>by simp at h
 |r::rs,[],s,m+1,h,_=>by simp at h
 |r::rs,o::l,s,m+1,h,hl=>by have:=Bo (a:=a) rs l (sg o r.rc s) m (by simpa using h) (by simpa using hl);right;rcases this with e|⟨r',h1,h2⟩;exact⟨r,by simp,e⟩;exact⟨r',by simp[h1],h2⟩
theorem Jw{P:Program}{N:Nat}{f:ct}(hf:f.Ok P){l:List Oper}{E E':ESX}{rs:List Rx}{a:Nat}(hn:At E.h E.u)(hg:SeqX P N l.toArray l E.st (rs.map Rx.rc) E'.st)(hr:O0 l.toArray=true)(hc:Jx f l.toArray E rs a=true):DrawA P E.st a l (rs.map Rx.rc):=by
 unfold Jx at hc
 rw[ahq]at hc
 obtain⟨ho,hs⟩:=hc
 obtain⟨s1,s2⟩:=Fv hr
 obtain⟨hl,hend,hfact⟩:=hg.facts
 rw[agz]at hl
 refine⟨fun i k oi ok ri rk hq hi hk ha he=>?_,s1,fun i oi ri hi ha hD hF m hm=>?_⟩
 ·by_cases hA:Anc l.toArray k i
  ·exact .inl hA
  right
  have ht:=(s2 i k oi ok hq hi hk).resolve_left hA
  obtain⟨a1,a2,a3⟩:=Oper.apart_spec ht
  rw[List.getElem?_map]at ha he
  cases hb:rs[i]? with
  |none=>rw[hb]at ha;cases ha
  |some xi=>
   cases hp:rs[k]? with
   |none=>rw[hp]at he;cases he
   |some xk=>
    rw[hb]at ha
    rw[hp]at he
    simp only[ahn,agv]at ha he
    subst ha he
    obtain⟨m,hm,hh⟩:=uy _ _ _ _ ho k (sh a xk) (by rw[List.getElem?_map,hp];rfl)
    rcases hh with hh|⟨_,hh⟩
    ·obtain⟨t1,t2⟩:=x5 hh
     exact⟨a1,a2,a3,fun x _=>t2 x,fun x hx=>(by rw[t1 x]at hx;cases hx),fun x _=>t1 x⟩
    ·rcases hh i (sh a xi) hq (by rw[List.getElem?_map,hb];rfl)with hh|hh|hh
     ·obtain⟨t1,t2⟩:=x5 hh
      exact⟨a1,a2,a3,fun x hx=>(by rw[t1 x]at hx;cases hx),fun x _=>t2 x,fun x hx=>(by rw[t1 x]at hx;cases hx)⟩
     ·exfalso
      refine hA (n9 l [] (fun j o hj=>by simpa using hj) (fun k i h=>by simp at h) k i ?_)
      have:((uf l []).getD k 0)=m:=by
       simp only[List.getD]
       have:(uf l [])[k]? =some m:=by simpa using hm
       rw[this];rfl
      rw[this]
      simpa using hh
     ·unfold Bv at hh
      rw[ahq,yy,yy]at hh
      have em:∀{r:Rx},r.dm=0->∀y,r.rc.D y=false:=fun{r} h2 y=>by
       cases hd:r.rc.D y with
       |false=>rfl
       |true=>have:=Rx.dm_iff.2 hd;rw[h2]at this;simp at this
      have q1:∀x,xi.rc.D x=true->(sh a xk).F.testBit x=false/\xk.dm.testBit x=false:=fun x hx=>by
       have:=rb hh.1 (Rx.dm_iff.2 hx)
       rw[show Nat.lor (sh a xk).F xk.dm=(sh a xk).F|||xk.dm from rfl,Nat.testBit_or,Bool.or_eq_false_iff]at this
       exact this
      refine⟨a1,a2,a3,fun x hx=>(Dj (q1 x hx).1).imp (fun h=>h) (fun h=>⟨h.1,em h.2⟩),fun x hx=>(Dj (rb hh.2 (Rx.dm_iff.2 hx))).imp (fun h=>h) (fun h=>⟨h.1,em h.2⟩),fun x hx=>?_⟩
      cases hy:xk.rc.D x with
      |false=>rfl
      |true=>
       have:=(q1 x hx).2
       rw[Rx.dm_iff.2 hy]at this
       cases this
 ·rw[List.getElem?_map]at ha
  cases hb:rs[i]? with
  |none=>rw[hb]at ha;cases ha
  |some xi=>
   rw[hb]at ha
   simp only[ahn,agv]at ha
   subst ha
   refine x4 hf (N:=N) (ops:=l.toArray) (cs:=Ws E a rs) l rs E E'.st hg hn (by simpa using hs) i oi xi hi hb hD hF _ ?_
   unfold Ws
   rcases Bo (a:=a) rs l E.st m hm hl with e|⟨r,h1,h2⟩
   ·rw[e];exact List.mem_cons_self
   ·rw[h2];exact List.mem_cons_of_mem _ (ahh.2 ⟨r,h1,rfl⟩)
theorem H2{P:Program}{N:Nat}{f:ct}(hf:f.Ok P){l:List Oper}{E E':ESX}{rs:List Rx}(hb:At E.h E.u)(hd:SeqX P N l.toArray l E.st (rs.map Rx.rc) E'.st)(hc:yz f l.toArray E rs=true):∃a,DrawA P E.st a l (rs.map Rx.rc):=by unfold yz at hc;rw[ahq]at hc;obtain⟨a,_,ha⟩:=List.any_eq_true.1 hc.2;exact⟨a,Jw hf hb hd hc.1 ha⟩
def zl(E:ESX)(r:Rec):Option Rx:=
 bif r.fp.all (fun id=>Nat.ble (id+1) E.u)then match r.δ with
  |[]=>bif Nat.beq r.u E.u then some ⟨fv r.fp,0,E.u,E.u,E.h,r.v⟩else none
  |[p]=>bif Nat.beq p.1 E.u then(bif Nat.beq r.u (E.u+1)then(match Tri.set 24 E.h E.u p.2 with
   |some h=>some ⟨fv r.fp,0,E.u,E.u+1,h,r.v⟩
   |none=>none)else none)
   else bif r.fp.contains p.1&&Nat.beq r.u E.u then(match Tri.set 24 E.h p.1 p.2 with
    |some h=>some ⟨fv r.fp,Nat.shiftLeft 1 p.1,E.u,E.u,h,r.v⟩
    |none=>none)else none
  |_=>none
 else none
theorem o0{P:Program}{E:ESX}{o:Oper}{r:Rec}{x:Rx}(h:zl E r=some x)(hL:LOp P o (bf E.t) (be E.h) r.fp r.δ r.v):x.u0=E.u/\Fits (be E.h) x.rc/\rq P o (bf E.t) (be E.h) x.rc:=by
 unfold zl at h
 cases ha:r.fp.all (fun id=>Nat.ble (id+1) E.u)with
 |false=>rw[ha]at h;simp at h
 |true=>
  rw[ha]at h
  simp only[cond_true]at h
  have he:∀id,(fv r.fp).testBit id=true->id<E.u:=fun id hd=>ag9 (List.all_eq_true.1 ha id (B0.1 hd))
  split at h
  ·rename_i hδ
   cases hb:Nat.beq r.u E.u with
   |false=>rw[hb]at h;simp at h
   |true=>
    rw[hb]at h
    simp only[cond_true,agv]at h
    subst h
    rw[hδ]at hL
    refine⟨rfl,⟨ag7 _,fun id _=>rfl,fun id hd=>?_,he⟩,hL.toX⟩
    have:(0:Nat).testBit id=true:=hd
    simp at this
  ·rename_i p hδ
   obtain⟨pid,pb⟩:=p
   rw[hδ]at hL
   simp only at h
   cases hb:Nat.beq pid E.u with
   |true=>
    rw[hb]at h
    simp only[cond_true]at h
    obtain rfl:=agu hb
    cases hu:Nat.beq r.u (E.u+1)with
    |false=>rw[hu]at h;simp at h
    |true=>
     rw[hu]at h
     simp only[cond_true]at h
     split at h
     ·rename_i h' hs
      simp only[agv]at h
      subst h
      refine⟨rfl,⟨Nat.le_succ _,fun id hd=>?_,fun id hd=>?_,he⟩,?_⟩
      ·show be h' id=_
       rw[lx hs]
       have:id≠E.u:=fun e=>by
        have h2:=hd
        rw[show Rc.D (Rx.rc ⟨fv r.fp,0,E.u,E.u+1,h',r.v⟩) id=true from Rc.D_iff.2 (.inr ⟨by show E.u<=id;omega,by show id<E.u+1;omega⟩)]at h2
        cases h2
       rw[am _ _ this]
      ·have:(0:Nat).testBit id=true:=hd
       simp at this
      ·have:=hL.toX_new
       have e:be h'=(be E.h).set E.u pb:=lx hs
       show rq P o (bf E.t) (be E.h) ⟨fv r.fp,0,E.u,E.u+1,be h',r.v⟩
       rw[e]
       exact this
     ·cases h
   |false=>
    rw[hb]at h
    simp only[cond_false]at h
    cases hc:(r.fp.contains pid&&Nat.beq r.u E.u)with
    |false=>rw[hc]at h;simp at h
    |true=>
     rw[hc]at h
     simp only[cond_true]at h
     rw[ahq,List.contains_iff_mem]at hc
     split at h
     ·rename_i h' hs
      simp only[agv]at h
      subst h
      have e:be h'=(be E.h).set pid pb:=lx hs
      refine⟨rfl,⟨ag7 _,fun id hd=>?_,fun id hd=>?_,he⟩,?_⟩
      ·show be h' id=_
       rw[e]
       have:id≠pid:=fun e=>by
        subst e
        have h2:=hd
        rw[show Rc.D (Rx.rc ⟨fv r.fp,Nat.shiftLeft 1 id,E.u,E.u,h',r.v⟩) id=true from Rc.D_iff.2 (.inl (wt.2 rfl))]at h2
        cases h2
       rw[am _ _ this]
      ·have:(Nat.shiftLeft 1 pid).testBit id=true:=hd
       rw[wt]at this
       subst this
       exact B0.2 hc.1
      ·have:=hL.toX_old (u:=E.u) hc.1
       show rq P o (bf E.t) (be E.h) ⟨fv r.fp,Nat.shiftLeft 1 pid,E.u,E.u,be h',r.v⟩
       rw[e]
       exact this
     ·cases h
  ·cases h
theorem uo{η:bi}:∀{l:List Nat} {i:Nat},(η.put (l.map fun id=>(id,none))) i=if i∈l then none else η i
 |[],i=>by simp[bi.put]
 |k::l,i=>by show((η.set k none).put (l.map fun id=>(id,none))) i=_;rw[uo];by_cases h:i∈l;rw[ag1 h,ag1 (List.mem_cons_of_mem _ h)];rw[ag0 h];by_cases e:i=k;subst e;rw[ak,ag1 (by simp)];rw[am _ _ e,ag0 (by simp[e,h])]
theorem LOp.toX_gone{P:Program}{o:Oper}{τ:Nat->AV}{η:bi}{fp:List Nat}{u:Nat}{v:AV}(h:LOp P o τ η fp (fp.map fun id=>(id,none)) v):rq P o τ η ⟨fv fp,fv fp,u,u,η.put (fp.map fun id=>(id,none)),v⟩:=by
 intro C a hg hx hF hN K Q hK
 have hD:∀i,(⟨fv fp,fv fp,u,u,η.put (fp.map fun id=>(id,none)),v⟩:Rc).D i=true↔i∈fp:=fun i=>by
  rw[Rc.D_iff];simp only[B0];constructor;rintro(h1|⟨h1,h2⟩);exact h1;omega;exact .inl
 refine h C a hg hx (fun id ha=>hF id (B0.2 ha)) (fun p hp hb=>by obtain⟨id,ha,rfl⟩:=ahh.1 hp;exact absurd ha hb) K Q (fun x C' hη hU hc he hv=>hK x C' (fun i=>?_) (fun i hi=>?_) hc he hv);rw[hη,uo];by_cases e:i∈fp;rw[ag1 e,ag1 ((hD i).2 e)];show _=(η.put (fp.map fun id=>(id,none))) i
 rw[uo,ag1 e];rw[ag0 e,ag0 (fun h=>e ((hD i).1 h))];rcases(hU i).1 hi with h1|h1;exact .inl h1;obtain⟨q,hq,rfl⟩:=ahh.1 h1;obtain⟨id,ha,rfl⟩:=ahh.1 hq;exact .inr ((hD id).2 ha)
def Qm:List Nat->Tri (Option Blk)->Option (Tri (Option Blk))
 |[],t=>some t
 |id::r,t=>match Tri.set 24 t id none with
  |some t'=>Qm r t'
  |none=>none
theorem G8:∀{l:List Nat} {t t':Tri (Option Blk)},Qm l t=some t'->be t'=(be t).put (l.map fun id=>(id,none))
 |[],t,t',h=>by cases h;rfl
 |id::l,t,t',h=>by unfold Qm at h;split at h;rename_i t1 h1;rw[G8 h,lx h1];rfl;cases h
def B7:List (Nat×Option Blk)->List Nat->Bool
 |[],[]=>true
 |(i,none)::r,j::s=>Nat.beq i j&&B7 r s
 |_,_=>false
theorem B6:∀{δ:List (Nat×Option Blk)} {fp:List Nat},B7 δ fp=true->δ=fp.map fun id=>(id,none)
 |[],[],_=>rfl
 |[],_::_,h=>by cases h
 |(_,none)::_,[],h=>by cases h
 |(_,some _)::_,[],h=>by cases h
 |(_,some _)::_,_::_,h=>by cases h
 |(i,none)::r,j::s,h=>by simp only[B7,ahq]at h;rw[agu h.1,B6 h.2];rfl
def V3(E:ESX)(r:Rec):Option Rx:=bif r.fp.all (fun id=>Nat.ble (id+1) E.u)&&(B7 r.δ r.fp&&Nat.beq r.u E.u)then(match Qm r.fp E.h with
 |some h=>some ⟨fv r.fp,fv r.fp,E.u,E.u,h,r.v⟩
 |none=>none)else none
theorem Qf{P:Program}{E:ESX}{o:Oper}{r:Rec}{x:Rx}(h:V3 E r=some x)(hL:LOp P o (bf E.t) (be E.h) r.fp r.δ r.v):x.u0=E.u/\Fits (be E.h) x.rc/\rq P o (bf E.t) (be E.h) x.rc:=by
 unfold V3 at h
 cases hc:(r.fp.all (fun id=>Nat.ble (id+1) E.u)&&(B7 r.δ r.fp&&Nat.beq r.u E.u))with
 |false=>rw[hc]at h;cases h
 |true=>
  rw[hc]at h
  simp only[cond_true]at h
  simp only[ahq]at hc
  obtain⟨ha,hg,_⟩:=hc
  have hd:∀id,(fv r.fp).testBit id=true->id<E.u:=fun id hb=>ag9 (List.all_eq_true.1 ha id (B0.1 hb))
  split at h
  ·rename_i h' hs
   simp only[agv]at h
   subst h
   have e:be h'=(be E.h).put (r.fp.map fun id=>(id,none)):=G8 hs
   rw[B6 hg]at hL
   refine⟨rfl,⟨ag7 _,fun id hb=>?_,fun id hb=>hb,hd⟩,?_⟩
   ·show be h' id=_
    rw[e,uo]
    have:id∉r.fp:=fun e=>by
     have h2:=hb
     rw[show Rc.D (Rx.rc ⟨fv r.fp,fv r.fp,E.u,E.u,h',r.v⟩) id=true from Rc.D_iff.2 (.inl (B0.2 e))]at h2
     cases h2
    rw[ag0 this]
   ·show rq P o (bf E.t) (be E.h) ⟨fv r.fp,fv r.fp,E.u,E.u,be h',r.v⟩
    rw[e]
    exact hL.toX_gone
  ·cases h
def Kl(E:ESX)(r:Rec):Option Rx:=match zl E r with
 |some x=>some x
 |none=>V3 E r
theorem Kk{P:Program}{E:ESX}{o:Oper}{r:Rec}{x:Rx}(h:Kl E r=some x)(hL:LOp P o (bf E.t) (be E.h) r.fp r.δ r.v):x.u0=E.u/\Fits (be E.h) x.rc/\rq P o (bf E.t) (be E.h) x.rc:=by grind[Kl,agv,o0,Qf]
abbrev Fe:=FuncId->List AV->Tri (Option Blk)->Nat->Option Rx
def Fe.Ok(P:Program)(call:Fe):Prop:=∀f ys h u r,At h u->call f ys h u=some r->r.u0=u/\Fits (be h) r.rc/\Ew P f ys (be h) r.rc
def js(E:ESX)(v:AV):Rx:=⟨0,0,E.u,E.u,E.h,v⟩
theorem dh{P:Program}{E:ESX}{o:Oper}{v:AV}(hL:LOp P o (bf E.t) (be E.h) [] [] v):(js E v).u0=E.u/\Fits (be E.h) (js E v).rc/\rq P o (bf E.t) (be E.h) (js E v).rc:=⟨rfl,⟨ag7 _,fun id _=>rfl,fun id ha=>ha,fun id ha=>by have:(0:Nat).testBit id=true:=ha;simp at this⟩,hL.toX⟩
section
variable{P:Program}{τ:Nat->AV}{η:bi}{d:Option Tmp}{ty:TypeId}{pos:String}{af:Array Edge}{g:Option (Nat×Bool)}
theorem LOp.makeFunc{f:FuncId}{caps:Array Operand}:LOp P ⟨d,.makeFunc (.func f) #[] caps,ty,pos,af,g⟩ τ η [] [] (.clo f (caps.toList.map (aev τ))):=
 .look [] fun C a hg hx _=>by refine⟨.func (.func f) #[] (caps.map a.eval),by simp[execOp,Instr.makeFunc],.clo (by simp) (fun i h h'=>?_)⟩;simp only[List.getElem_map,Array.getElem_toList,Array.getElem_map];exact hx _ (by simp[Op.operands])
end
def Li(n:Int):Bool:=match n with
 |.ofNat m=>Nat.ble m 9223372036854775807
 |.negSucc m=>Nat.ble m 9223372036854775807
theorem Gr{n:Int}(h:Li n=true):IntKind.i64.wrap n=n:=by
 apply IntWalk.i64_in;cases n with
 |ofNat m=>
  have:=ag9 h
  simp only[Int.ofNat_eq_natCast]
  omega
 |negSucc m=>
  have:=ag9 h
  omega
def ltI:Int->Int->Bool
 |.ofNat a,.ofNat b=>Nat.blt a b
 |.ofNat _,.negSucc _=>false
 |.negSucc _,.ofNat _=>true
 |.negSucc a,.negSucc b=>Nat.blt b a
theorem K1(a b:Int):ltI a b=decide (a<b):=by rw[Bool.eq_iff_iff,decide_eq_true_eq];cases a<;>cases b<;>simp[ltI]<;>omega
theorem Sv(a b:Int):(!ltI b a)=decide (a<=b):=by grind[K1]
def eqI:Int->Int->Bool
 |.ofNat a,.ofNat b=>Nat.beq a b
 |.negSucc a,.negSucc b=>Nat.beq a b
 |_,_=>false
theorem L0(a b:Int):eqI a b=(a==b):=by rw[Bool.eq_iff_iff,beq_iff_eq];cases a<;>cases b<;>simp[eqI]<;>omega
def Wg(op:BinOp)(a b:Int):Option Value:=match op with
 |.add=>bif Li (a+b)then some (.int .i64 (a+b))else none
 |.sub=>bif Li (a-b)then some (.int .i64 (a-b))else none
 |.eql=>some (.bool (eqI a b))
 |.neq=>some (.bool (!eqI a b))
 |.lss=>some (.bool (ltI a b))
 |.gtr=>some (.bool (ltI b a))
 |.leq=>some (.bool (!ltI b a))
 |.geq=>some (.bool (!ltI a b))
 |_=>none
def Ip(τ:Nat->AV)(op:Op):Option Value:=match op with
 |.binOp bop _ x y _=>match aev τ x with
  |.v (.int .i64 a)=>match aev τ y with
   |.v (.int .i64 b)=>Wg bop a b
   |_=>none
  |_=>none
 |.unOp .not _ x=>match aev τ x with
  |.v (.bool b)=>some (.bool !b)
  |_=>none
 |_=>none
theorem Ah{P:Program}{τ:Nat->AV}{η:bi}{o:Oper}{y:Value}(h:Ip τ o.op=some y):LOp P o τ η [] [] (.v y):=by
 obtain⟨d,op,ty,pos,af,g⟩:=o
 refine .look [] fun C a hg ha _=>⟨y,?_,VR.v C y⟩
 unfold Ip at h
 simp only at h ha
 split at h
 ·rename_i bop t x z t'
  split at h
  ·rename_i m hx
   split at h
   ·rename_i n hz
    have e1:=ha x (by simp[Op.operands])
    have e2:=ha z (by simp[Op.operands])
    rw[hx]at e1
    rw[hz]at e2
    have e1':=e1.v_inv
    have e2':=e2.v_inv
    have hb:∀w:World,(eqGuard bop t x z (.int .i64 m) (.int .i64 n)).run P w=.ok () w:=by
     intro w
     unfold eqGuard
     split<;>rfl
    unfold Wg at h
    split at h
    ·cases hc:Li (m+n)with
     |false=>rw[hc]at h;simp at h
     |true=>
      rw[hc]at h
      simp only[cond_true,agv]at h
      subst h
      simp only[execOp,e1',e2',Sem.run_bind,hb,ahb]
      simp[binOp,Op.intArith,Gr hc,Sem.run_bind]
    ·cases hc:Li (m-n)with
     |false=>rw[hc]at h;simp at h
     |true=>
      rw[hc]at h
      simp only[cond_true,agv]at h
      subst h
      simp only[execOp,e1',e2',Sem.run_bind,hb,ahb]
      simp[binOp,Op.intArith,Gr hc,Sem.run_bind]
    all_goals first
     |(cases h;done)
     |(
      have h':=Option.some.inj h
      subst h'
      simp only[execOp,e1',e2',Sem.run_bind,hb,ahb]
      first
       |(rw[Sv];rfl)
       |(rw[K1];rfl)
       |(rw[L0];rfl))
   ·cases h
  ·cases h
 ·rename_i t x
  split at h
  ·rename_i b hx
   have e1:=ha x (by simp[Op.operands])
   rw[hx]at e1
   have e1':=e1.v_inv
   simp only[agv]at h
   subst h
   simp[execOp,e1',Op.unary,Sem.run_bind]
  ·cases h
 ·cases h
def opX(P:Program)(ov:FuncId->Bool)(ovr:d7)(call:Fe)(ext:ct):ct:=fun o E=>
 match o.op with
 |.call ⟨.value g,xs,ats⟩=>match aev (bf E.t) g with
  |.clo f caps=>bif bw P f then
   (bif ov f then(match g with
    |.func f'=>match Qw P ovr (bf E.t) (be E.h) E.u f' xs with
     |some r=>Kl E r
     |none=>none
    |_=>none)
   else call f (xs.toList.map (aev (bf E.t))++caps) E.h E.u)
   else ext o E
  |_=>none
 |.makeFunc (.func f) ⟨[]⟩ caps=>some (js E (.clo f (caps.toList.map (aev (bf E.t)))))
 |_=>match Ip (bf E.t) o.op with
  |some y=>some (js E (.v y))
  |none=>match opE P (fun _ _=>none) o ⟨E.t,E.h,E.u⟩with
   |some r=>zl E r
   |none=>ext o E
theorem Zb{P:Program}{ov:FuncId->Bool}{ovr:d7}{call:Fe}{ext:ct}(ho:∀f ys ret,ovr f ys=some ret->b8 P f ys ret)(hc:call.Ok P)(he:ext.Ok P):(opX P ov ovr call ext).Ok P:=by
 intro o E r hl h;obtain⟨d,op,ty,pos,af,g⟩:=o
 have rest:∀(r:Rx),(match Ip (bf E.t) op with
  |some y=>some (js E (.v y))
  |none=>match opE P (fun _ _=>none) ⟨d,op,ty,pos,af,g⟩ ⟨E.t,E.h,E.u⟩with
   |some r=>zl E r
   |none=>ext ⟨d,op,ty,pos,af,g⟩ E)=some r->r.u0=E.u/\Fits (be E.h) r.rc/\rq P ⟨d,op,ty,pos,af,g⟩ (bf E.t) (be E.h) r.rc:=by
  intro r h
  split at h
  ·rename_i y hy
   simp only[agv]at h
   subst h
   exact dh (Ah (o:=⟨d,op,ty,pos,af,g⟩) hy)
  ·split at h
   ·rename_i r' hr
    exact o0 h (Zd (fun _ _ _ h=>by cases h) _ _ _ hr)
   ·exact he _ _ _ hl h
 unfold opX at h;simp only at h;split at h;rename_i g0 xs ats;split at h;rename_i f caps hg;cases hb:bw P f with
 |false=>
  rw[hb]at h
  simp only[cond_false]at h
  exact he _ _ _ hl h
 |true=>
  rw[hb]at h
  simp only[cond_true]at h
  cases ha:ov f with
  |true=>
   rw[ha]at h
   simp only[cond_true]at h
   split at h
   ·split at h
    ·rename_i r' hr
     exact Kk h (He ho hr)
    ·cases h
   ·cases h
  |false=>
   rw[ha]at h
   simp only[cond_false]at h
   obtain⟨q1,q2,q3⟩:=hc _ _ _ _ _ hl h
   exact⟨q1,q2,rq.call hb hg q3⟩
 cases h;rename_i f caps;simp only[agv]at h;subst h;exact dh LOp.makeFunc;exact rest r h
def adv(P:Program)(E:ESX):ResultVar->Option (Nat×AV)
 |.tmp t=>some (0,bf E.t t)
 |.cell t ty=>match bf E.t t with
  |.ptr id ver o=>match ii (be E.h) id ver with
   |none=>none
   |some b=>match ej P ty with
    |none=>none
    |some none=>match b.cs[o]? with
     |some v=>some (Nat.shiftLeft 1 id,v)
     |none=>none
    |some (some n)=>match cy o n b.cs with
     |some ds=>some (Nat.shiftLeft 1 id,.agg ds)
     |none=>none
  |_=>none
def Kg(P:Program)(E:ESX):List ResultVar->Option (Nat×List AV)
 |[]=>some (0,[])
 |r::l=>match adv P E r with
  |none=>none
  |some (m,v)=>match Kg P E l with
   |none=>none
   |some (m',vs)=>some (Nat.lor m m',v::vs)
theorem U7{P:Program}{RD:Nat->Prop}{M N:Nat}{E:ESX}{r:ResultVar}{m:Nat}{v:AV}(hR:∀id b,be E.h id=some b->m.testBit id=true->RD id)(h:adv P E r=some (m,v)):abn P RD M N E.st r v:=by unfold adv at h;split at h;simp only[agv,Prod.mk.injEq]at h;obtain⟨rfl,rfl⟩:=h;exact abn.tmp rfl;rename_i t ty;split at h;rename_i id ver o hx;split at h;cases h;rename_i b hb;obtain⟨h1,h2,h3⟩:=ca hb;split at h;cases h;rename_i hr;split at h;rename_i v' hv;simp only[agv,Prod.mk.injEq]at h;obtain⟨rfl,rfl⟩:=h;exact Iy hr hx h1 (hR id b h1 (wt.2 rfl)) h2 h3 hv;cases h;rename_i n hr;split at h;rename_i ds hv;simp only[agv,Prod.mk.injEq]at h;obtain⟨rfl,rfl⟩:=h;exact abn.cellN hr hx h1 (hR id b h1 (wt.2 rfl)) h2 h3 hv;cases h;cases h
theorem zj{P:Program}{RD:Nat->Prop}{M N:Nat}{E:ESX}:∀(l:List ResultVar) (m:Nat) (vs:List AV),(∀id b,be E.h id=some b->m.testBit id=true->RD id)->Kg P E l=some (m,vs)->AllX P RD M N E.st l vs
 |[],m,vs,_,h=>by simp only[Kg,agv,Prod.mk.injEq]at h;obtain⟨rfl,rfl⟩:=h;exact .nil
 |r::l,m,vs,hR,h=>by simp only[Kg]at h;split at h;cases h;rename_i m1 v h1;split at h;cases h;rename_i m2 vs2 h2;simp only[agv,Prod.mk.injEq]at h;obtain⟨rfl,rfl⟩:=h;have ha:∀id,(Nat.lor m1 m2).testBit id=(m1.testBit id||m2.testBit id):=fun id=>Nat.testBit_or ..;exact .cons (U7 (fun id b hb hm=>hR id b hb (by rw[ha,hm];rfl)) h1) (zj l m2 vs2 (fun id b hb hm=>hR id b hb (by rw[ha,hm];simp)) h2)
def A1(m u:Nat):Nat:=Nat.mod m (Nat.shiftLeft 1 u)
theorem uu{m u id:Nat}:(A1 m u).testBit id=true↔(id<u/\m.testBit id=true):=by have h:A1 m u=m%2^u:=(by show m%(1<<<u)=_;rw[Nat.one_shiftLeft]);rw[h,Nat.testBit_mod_two_pow,ahq,decide_eq_true_eq]
def N2(P:Program)(fn:Func)(E:ESX)(u:Nat):Option Rx:=match Kg P E fn.results.toList with
 |none=>none
 |some (m,vs)=>l9 (A1 (Nat.lor E.rd m) u) fun F=>l9 (A1 E.wr u) fun W=>some ⟨F,W,u,E.u,E.h,Sp vs⟩
theorem my{ys:List AV}{t:Tri AV}(ht:ll 0 ys .nil=some t):bf t=cq ys:=by funext i;rw[H8 _ _ _ _ ht i];simp only[cq,List.getD];by_cases hi:i<ys.length;rw[dif_pos (by omega)];simp[hi];rw[dif_neg (by omega),List.getElem?_eq_none (Nat.le_of_not_lt hi),Jk];rfl
def Ctx.allocO(C:Ctx)(u:Nat)(o:Obj)(b:Blk):Ctx:=
 {ρ:=fun i=>if i=u then(C.w.heap.size,0)else C.ρ i,sz:=C.sz,η:=C.η.set u (some b),U:=fun i=>C.U i\/i=u,T:=C.T,w:=C.w.alloc o}
section
variable{C:Ctx}{u:Nat}{o:Obj}{b:Blk}
theorem m7(hg:Good C)(hu:¬C.U u):Ev C (C.allocO u o b) where
 os:=rfl
 tape:=rfl
 output:=rfl
 size:=by simp[Ctx.allocO]
 keep:=fun k hk _=>Below.heap_alloc _ _ _ hk
 mine:=fun k ⟨id,⟨b',hb',ha⟩,hk⟩=>by by_cases e:id=u;right;subst e;simp only[Ctx.allocO,if_true]at hk;omega;left;simp only[Ctx.allocO]at hb' hk;rw[am _ _ e]at hb';simp only[e,if_false]at hk;exact⟨id,⟨b',hb',ha⟩,hk⟩
 T:=fun _ h=>h
 Tnew:=fun _ h=>.inl h
 U:=fun _ h=>.inl h
 old:=fun id b' hb hb'=>by have e:id≠u:=fun e=>hu (e▸hb);simp only[Ctx.allocO]at hb';rw[am _ _ e]at hb';exact⟨b',hb',ag7 _,fun _=>⟨by simp[Ctx.allocO,e],rfl,rfl,rfl⟩⟩
theorem ou(hg:Good C)(hu:¬C.U u)(hk:b.kind=2)(ho:ObjR C b.cs o):Good (C.allocO u o b):=by
 have he:=m7 (C:=C) (u:=u) (o:=o) (b:=b) hg hu
 have ha:∀{id b'},(C.allocO u o b).η id=some b'->(id=u/\b'=b)\/(id≠u/\C.η id=some b'):=by
  intro id b' hb';simp only[Ctx.allocO]at hb';by_cases e:id=u;subst e;rw[ak]at hb';cases hb';exact .inl ⟨rfl,rfl⟩;rw[am _ _ e]at hb';exact .inr ⟨e,hb'⟩
 have hd:∀{id b'},C.η id=some b'->b'.kind≠1->(C.ρ id).1<C.w.heap.size:=fun hb' hk=>hg.lt ⟨_,hb',hk⟩;refine⟨?_,?_,?_,?_,?_,?_,?_⟩;intro id b' hb';rcases ha hb' with⟨rfl,rfl⟩|⟨e,hb'⟩;exact .inr rfl;exact .inl (hg.used hb');intro id b' hb' hc;rcases ha hb' with⟨rfl,rfl⟩|⟨e,hb'⟩;refine⟨o,?_,ho.mono hg he⟩;simp only[Ctx.allocO,if_true];exact heap_alloc_new C.w _;obtain⟨ob,h1,h2⟩:=hg.obj hb' hc;have e1:(C.allocO u o b).ρ id=C.ρ id:=by simp[Ctx.allocO,e]
 rw[e1];exact⟨ob,(Below.heap_alloc _ _ _ (hd hb' (by rw[hc];decide))).trans h1,h2.mono hg he⟩;intro id b' hb' hc;rcases ha hb' with⟨rfl,rfl⟩|⟨e,hb'⟩;rw[dl hc]at hk;cases hk;obtain⟨c,t',h1,h2,h3,h4⟩:=hg.blk hb' hc;have e1:(C.allocO u o b).ρ id=C.ρ id:=by simp[Ctx.allocO,e]
 rw[e1];exact⟨c,t',(Below.heap_alloc _ _ _ (hd hb' (dj hc))).trans h1,h2,h3,fun j h h'=>(h4 j h h').mono hg he⟩;rintro id id' ⟨b1,hl,hf⟩ ⟨b2,hm,hh⟩ h;rcases ha hl with⟨h1,_⟩|⟨e1,hi⟩<;>rcases ha hm with⟨h2,_⟩|⟨e2,hj⟩;exact h1.trans h2.symm;have:=hd hj hh
 simp only[Ctx.allocO,h1,if_true,e2,if_false]at h;omega;have:=hd hi hf
 simp only[Ctx.allocO,h2,if_true,e1,if_false]at h;omega;simp only[Ctx.allocO,e1,e2,if_false]at h;exact hg.inj ⟨b1,hi,hf⟩ ⟨b2,hj,hh⟩ h;refine hg.tokE he.toFr0 fun k hk=>have:=hg.tlt (k:=k) hk;?_
 simp[Ctx.allocO];omega;rintro k ⟨id,⟨b',hb',hc⟩,hk⟩ hT;rcases ha hb' with⟨rfl,rfl⟩|⟨e,hb'⟩;have:=hg.tlt (k:=k) hT
 simp only[Ctx.allocO,if_true]at hk;omega;simp only[Ctx.allocO,e,if_false]at hk;exact hg.apart ⟨id,⟨b',hb',hc⟩,hk⟩ hT;intro id b' hb' hn hc;rcases ha hb' with⟨rfl,rfl⟩|⟨e,hb'⟩;rw[dl hc]at hk;cases hk;have e1:(C.allocO u o b).ρ id=C.ρ id:=by simp[Ctx.allocO,e]
 rw[e1];exact hg.tight hb' hn hc
def Ctx.setO(C:Ctx)(id:Nat)(b:Blk)(o:Obj):Ctx:=
 {C with η:=C.η.set id (some b),w:={C.w with heap:=C.w.heap.setIfInBounds (C.ρ id).1 o}}
variable{id:Nat}{b0:Blk}
theorem J1{w:World}{k:Nat}(h:k<w.heap.size):(w.heap.setIfInBounds k o)[k]? =some o:=by rw[Array.getElem?_setIfInBounds,ag1 rfl,ag1 h]
theorem sj{w:World}{k j:Nat}(h:j≠k):(w.heap.setIfInBounds k o)[j]? =w.heap[j]?:=by rw[Array.getElem?_setIfInBounds,ag0 (fun e=>h e.symm)]
theorem qs(hg:Good C)(hb:C.η id=some b0)(ha:b0.kind=2)(hk:b.kind=2)(hv:b.ver=b0.ver)(hz:b.esz=b0.esz):Ev C (C.setO id b o) where
 os:=rfl
 tape:=rfl
 output:=rfl
 size:=by simp[Ctx.setO]
 keep:=fun k _ hm=>sj (fun e=>hm ⟨id,⟨b0,hb,by rw[ha];decide⟩,e.symm⟩)
 mine:=fun k ⟨id',⟨b',hb',hd⟩,hc⟩=>by left;by_cases e:id'=id;subst e;exact⟨id',⟨b0,hb,by rw[ha];decide⟩,hc⟩;simp only[Ctx.setO]at hb';rw[am _ _ e]at hb';exact⟨id',⟨b',hb',hd⟩,hc⟩
 T:=fun _ h=>h
 Tnew:=fun _ h=>.inl h
 U:=fun _ h=>h
 old:=fun id' b' hid hb'=>by simp only[Ctx.setO]at hb';by_cases e:id'=id;subst e;rw[ak]at hb';cases hb';exact⟨b0,hb,by omega,fun _=>⟨rfl,rfl,hk.trans ha.symm,hz⟩⟩;rw[am _ _ e]at hb';exact⟨b',hb',ag7 _,fun _=>⟨rfl,rfl,rfl,rfl⟩⟩
theorem rx(hg:Good C)(hb:C.η id=some b0)(hj:b0.kind=2)(hk:b.kind=2)(hv:b.ver=b0.ver)(hz:b.esz=b0.esz)(ho:ObjR C b.cs o):Good (C.setO id b o):=by
 have he:=qs (C:=C) (o:=o) hg hb hj hk hv hz;have hc:C.live id:=⟨b0,hb,by rw[hj];decide⟩
 have hh:=hg.lt hc
 have ha:∀{id' b'},(C.setO id b o).η id'=some b'->(id'=id/\b'=b)\/(id'≠id/\C.η id'=some b'):=by
  intro id' b' hb';simp only[Ctx.setO]at hb';by_cases e:id'=id;subst e;rw[ak]at hb';cases hb';exact .inl ⟨rfl,rfl⟩;rw[am _ _ e]at hb';exact .inr ⟨e,hb'⟩
 have hf:∀{id' b'},(C.setO id b o).η id'=some b'->b'.kind≠1->C.live id':=by
  intro id' b' hb' hd;rcases ha hb' with⟨rfl,rfl⟩|⟨_,h⟩;exact hc;exact⟨b',h,hd⟩
 have hl:∀{id' b'},id'≠id->C.η id'=some b'->b'.kind≠1->(C.ρ id').1≠(C.ρ id).1:=fun hi hb' hd e=>hi (hg.inj ⟨_,hb',hd⟩ hc e);refine⟨?_,?_,?_,?_,?_,?_,?_⟩;intro id' b' hb';rcases ha hb' with⟨rfl,rfl⟩|⟨e,hb'⟩;exact hg.used hb;exact hg.used hb';intro id' b' hb' hd;rcases ha hb' with⟨rfl,rfl⟩|⟨e,hb'⟩;exact⟨o,J1 hh,ho.mono hg he⟩;obtain⟨ob,h1,h2⟩:=hg.obj hb' hd;exact⟨ob,(sj (hl e hb' (by rw[hd];decide))).trans h1,h2.mono hg he⟩;intro id' b' hb' hd;rcases ha hb' with⟨rfl,rfl⟩|⟨e,hb'⟩;rw[dl hd]at hk;cases hk;obtain⟨c,t',h1,h2,h3,h4⟩:=hg.blk hb' hd;exact⟨c,t',(sj (hl e hb' (dj hd))).trans h1,h2,h3,fun j h h'=>(h4 j h h').mono hg he⟩;rintro i i' ⟨b1,hm,hn⟩ ⟨b2,hp,hq⟩ h;exact hg.inj (hf hm hn) (hf hp hq) h;refine hg.tokE he.toFr0 fun k hk=>?_
 have:=hg.tlt (k:=k) hk;simpa[Ctx.setO]using this;rintro k ⟨i,⟨b',hb',hd⟩,hk⟩ hT;exact hg.apart ⟨i,hf hb' hd,hk⟩ hT;intro id' b' hb' hr hd;rcases ha hb' with⟨rfl,rfl⟩|⟨e,hb'⟩;rw[dl hd]at hk;cases hk;exact hg.tight hb' hr hd
end
def Rv:List AV->Option (List (Value×AV×Nat))
 |[]=>some []
 |.agg [.v k,a,.v (.int .i64 (.ofNat n))]::l=>match Rv l with
  |some r=>some ((k,a,n)::r)
  |none=>none
 |_=>none
theorem Um:∀(l:List AV) (es:List (Value×AV×Nat)),Rv l=some es->l=es.map fun e=>.agg [.v e.1,e.2.1,.v (.int .i64 (Int.ofNat e.2.2))]:=by
 intro l
 induction l with
 |nil=>intro es h;simp only[Rv,agv]at h;subst h;rfl
 |cons x l ih=>
  intro es h
  unfold Rv at h
  split at h
  ·rename_i e;cases e
  ·rename_i k a n l' e
   obtain⟨rfl,rfl⟩:=List.cons.inj e
   split at h
   ·rename_i r hr
    simp only[agv]at h
    subst h
    rw[ahg,<-ih _ hr]
   ·cases h
  ·cases h
def Jh:List AV->Option (Nat×List (Value×AV×Nat))
 |.v (.int .i64 (.ofNat 0))::.v (.int .i64 (.ofNat clock))::l=>match Rv l with
  |some es=>some (clock,es)
  |none=>none
 |_=>none
theorem On{cs:List AV}{clock:Nat}{es:List (Value×AV×Nat)}(h:Jh cs=some (clock,es)):cs=ki clock es:=by unfold Jh at h;split at h;rename_i clock' l;split at h;rename_i es' he;simp only[agv,Prod.mk.injEq]at h;obtain⟨rfl,rfl⟩:=h;unfold ki;rw[<-Um _ _ he];rfl;cases h;cases h
def cn(ver esz clock:Nat)(es:List (Value×AV×Nat)):Blk:=⟨ver,ki clock es,esz,true⟩
theorem B2:∀{es es':List (Value×AV×Nat)},(es.map fun e=>AV.agg [.v e.1,e.2.1,.v (.int .i64 (Int.ofNat e.2.2))])=(es'.map fun e=>.agg [.v e.1,e.2.1,.v (.int .i64 (Int.ofNat e.2.2))])->es=es'
 |[],[],_=>rfl
 |[],_::_,h=>by cases h
 |_::_,[],h=>by cases h
 |(k,a,n)::l,(k',a',n')::l',h=>by simp only[ahg,List.cons.injEq,AV.agg.injEq,AV.v.injEq,Value.int.injEq,Int.ofNat.injEq,and_true,true_and]at h;obtain⟨⟨rfl,rfl,h3⟩,h4⟩:=h;have ha:n=n':=(by first|exact h3|exact Int.ofNat.inj h3|simpa using h3);subst ha;rw[B2 h4]
theorem ObjR.map_inv{C:Ctx}{clock:Nat}{es:List (Value×AV×Nat)}{o:Obj}(h:ObjR C (ki clock es) o):∃entries,o=.map entries clock/\es.length=entries.size/\∀i (h:i<es.length) (h':i<entries.size),entries[i].key=es[i].1/\VR C es[i].2.1 entries[i].val/\entries[i].born=es[i].2.2:=by
 generalize hc:ki clock es=cs at h;cases h with
 |map hl hi=>
  rename_i es' entries clock'
  unfold ki at hc
  simp only[List.cons.injEq,AV.v.injEq,Value.int.injEq,true_and]at hc
  obtain⟨h1,h2⟩:=hc
  have ha:clock=clock':=Int.ofNat.inj h1
  subst ha
  obtain rfl:=B2 h2
  exact⟨entries,rfl,hl,hi⟩
 |siter=>exact absurd (List.cons.inj hc).1 (by simp)
 |miter0=>exact absurd (List.cons.inj hc).1 (by simp)
 |miter _=>exact absurd (List.cons.inj hc).1 (by simp)
def qj(η:bi)(id ver:Nat):Option (Blk×Nat×List (Value×AV×Nat)):=match η id with
 |some b=>bif Nat.beq b.ver ver&&b.nilp then(match Jh b.cs with
  |some (clock,es)=>some (b,clock,es)
  |none=>none)else none
 |none=>none
theorem j3{η:bi}{id ver clock:Nat}{b:Blk}{es:List (Value×AV×Nat)}(h:qj η id ver=some (b,clock,es)):η id=some b/\b=cn ver b.esz clock es:=by
 unfold qj at h
 cases hb:η id with
 |none=>rw[hb]at h;cases h
 |some b'=>
  rw[hb]at h
  simp only at h
  cases hc:(Nat.beq b'.ver ver&&b'.nilp)with
  |false=>rw[hc]at h;simp at h
  |true=>
   rw[hc]at h
   simp only[cond_true]at h
   rw[ahq]at hc
   split at h
   ·rename_i cl es' hm
    simp only[agv,Prod.mk.injEq]at h
    obtain⟨rfl,rfl,rfl⟩:=h
    refine⟨rfl,?_⟩
    obtain⟨v,cs,z,n⟩:=b'
    have e1:=agu hc.1
    have e2:=hc.2
    have e3:=On hm
    simp only at e1 e2 e3
    subst e1 e2 e3
    rfl
   ·cases h
theorem VR.mp_inv{C:Ctx}{id ver:Nat}{b:Blk}{x:Value}(h:VR C (.mp id ver) x)(hb:C.η id=some b)(hv:b.ver=ver):x=.map (some (C.ρ id).1):=by
 cases h with
 |imm h=>cases h
 |mp _ _ _=>rfl
 |stalem _ _ hs=>have:=hs b hb;omega
theorem VR.it_inv{C:Ctx}{id ver:Nat}{b:Blk}{x:Value}(h:VR C (.it id ver) x)(hb:C.η id=some b)(hv:b.ver=ver):x=.pointer (some ⟨(C.ρ id).1,0,none⟩):=by
 cases h with
 |imm h=>cases h
 |it _ _ _=>rfl
 |stalei _ _ hs=>have:=hs b hb;omega
theorem yb{α β:Type}{P:Program}:∀(s:Sem α) (f:α->Sem β) (b:β),du P (s.bind f)=some b->∃a,du P s=some a/\du P (f a)=some b:=by
 intro s
 induction s with
 |pure a=>intro f b h;exact⟨a,rfl,h⟩
 |program k ih=>intro f b h;exact ih P f b h
 |mark m k ih=>intro f b h;exact ih f b h
 |choose q k ih=>
  intro f b h
  simp only[Sem.bind,du]at h
  cases hq:q.forced with
  |false=>rw[hq]at h;simp at h
  |true=>
   rw[hq]at h
   simp only[cond_true]at h
   obtain⟨a,h1,h2⟩:=ih 0 f b h
   exact⟨a,by simp only[du,hq,cond_true];exact h1,h2⟩
 |_=>intro f b h;simp[Sem.bind,du]at h
def sv(es:List MapEntry)(i0:Nat)(r0 r1:Option (Nat×Value)):Prop:=match r0 with
 |none=>r1=none
 |some (i,_)=>∃j e,i=i0+j/\es[j]? =some e/\r1=some (i,e.val)
theorem tq{e:MapEntry}{es:List MapEntry}{i0:Nat}{r0 r1:Option (Nat×Value)}(h:sv es (i0+1) r0 r1):sv (e::es) i0 r0 r1:=by
 unfold sv at h ⊢
 cases r0 with
 |none=>exact h
 |some q=>
  obtain⟨j,e',h1,h2,h3⟩:=h
  exact⟨j+1,e',by omega,by simpa using h2,h3⟩
theorem tu{kd:TypeDesc}{k:Value}:∀(es es':List MapEntry) (i:Nat) (r0:Option (Nat×Value)),es.map (·.key)=es'.map (·.key)->Instr.findNow kd k es i=some r0->∃r1,Instr.findNow kd k es' i=some r1/\sv es' i r0 r1
 |[],[],i,r0,_,h=>by
  simp only[Instr.findNow,agv]at h
  subst h
  exact⟨none,rfl,rfl⟩
 |[],_::_,_,_,hk,_=>by simp at hk
 |_::_,[],_,_,hk,_=>by simp at hk
 |e::es,e'::es',i,r0,hk,h=>by
  simp only[ahg,List.cons.injEq]at hk
  simp only[Instr.findNow,hk.1]at h ⊢
  cases hs:Instr.sameNow kd k e'.key with
  |none=>rw[hs]at h;cases h
  |some b=>
   rw[hs]at h
   cases b with
   |true=>
    simp only[agv]at h
    subst h
    exact⟨_,rfl,0,e',rfl,rfl,rfl⟩
   |false=>
    obtain⟨r1,h1,h2⟩:=tu es es' (i+1) r0 hk.2 h
    exact⟨r1,h1,tq h2⟩
theorem tt{kd:TypeDesc}{k:Value}:∀(es es':List MapEntry) (i:Nat),es.map (·.key)=es'.map (·.key)->Instr.findNow kd k es i=none->Instr.findNow kd k es' i=none
 |[],[],i,_,h=>by simp[Instr.findNow]at h
 |[],_::_,_,hk,_=>by simp at hk
 |_::_,[],_,hk,_=>by simp at hk
 |e::es,e'::es',i,hk,h=>by
  simp only[ahg,List.cons.injEq]at hk
  simp only[Instr.findNow,hk.1]at h ⊢
  cases hs:Instr.sameNow kd k e'.key with
  |none=>rfl
  |some b=>
   rw[hs]at h
   cases b with
   |true=>cases h
   |false=>exact tt es es' (i+1) hk.2 h
theorem oe{P:Program}{kt:TypeId}{k:Value}:∀(es es':List MapEntry) (i:Nat) (r0:Option (Nat×Value)),es.map (·.key)=es'.map (·.key)->du P (Instr.findAsking kt k es i)=some r0->∃r1,du P (Instr.findAsking kt k es' i)=some r1/\sv es' i r0 r1
 |[],[],i,r0,_,h=>by
  have h':some (none:Option (Nat×Value))=some r0:=h
  simp only[agv]at h'
  subst h'
  exact⟨none,rfl,rfl⟩
 |[],_::_,_,_,hk,_=>by simp at hk
 |_::_,[],_,_,hk,_=>by simp at hk
 |e::es,e'::es',i,r0,hk,h=>by
  simp only[ahg,List.cons.injEq]at hk
  simp only[Instr.findAsking]at h ⊢
  rw[hk.1]at h
  obtain⟨b,h1,h2⟩:=yb _ _ _ h
  have up:∀(f g:Bool->Sem (Option (Nat×Value))) r1,du P (g b)=some r1->du P ((Op.equal kt k e'.key).bind g)=some r1:=by
   intro f g r1 hg
   have key:∀(s:Sem Bool) (b:Bool),du P s=some b->du P (g b)=some r1->du P (s.bind g)=some r1:=by
    intro s
    induction s with
    |pure a=>intro b h hg;simp only[du,agv]at h;subst h;exact hg
    |program k ih=>intro b h hg;exact ih P b h hg
    |mark m k ih=>intro b h hg;exact ih b h hg
    |choose q k ih=>
     intro b h hg
     simp only[Sem.bind,du]at h ⊢
     cases hq:q.forced with
     |false=>rw[hq]at h;simp at h
     |true=>
      rw[hq]at h
      simp only[cond_true]at h ⊢
      exact ih 0 b h hg
    |_=>intro b h hg;simp[du]at h
   exact key _ b h1 hg
  cases b with
  |true=>
   have ha:some (some (i,e.val))=some r0:=h2
   simp only[agv]at ha
   subst ha
   exact⟨some (i,e'.val),up (fun _=>.pure none) _ _ rfl,0,e',rfl,rfl,rfl⟩
  |false=>
   obtain⟨r1,g1,g2⟩:=oe es es' (i+1) r0 hk.2 h2
   exact⟨r1,up (fun _=>.pure none) _ _ g1,tq g2⟩
theorem ud{P:Program}{t:TypeId}{d:TypeDesc}(h:du P (underlying t)=some d):P.underlying t=some d:=by
 have h':du P (match P.underlying t with|some d=>(pure d:Sem TypeDesc)|none=>stuck "no such type")=some d:=h
 cases hu:P.underlying t with
 |none=>rw[hu]at h';cases h'
 |some d'=>
  rw[hu]at h'
  have h'':some d'=some d:=h'
  exact h''
theorem tv{P:Program}{kt:TypeId}{k:Value}{es es':List MapEntry}{r0:Option (Nat×Value)}(hk:es.map (·.key)=es'.map (·.key))(h:du P (Instr.findKey kt k es)=some r0)(w:World):∃r1,(Instr.findKey kt k es').run P w=.ok r1 w/\sv es' 0 r0 r1:=by
 unfold Instr.findKey at h ⊢;obtain⟨d,h1,h2⟩:=yb _ _ _ h;have hu:=ud h1
 rw[Sem.run_bind,run_underlying hu];simp only[ahb];cases hn:Instr.findNow d k es 0 with
 |some r=>
  rw[hn]at h2
  have ha:some r=some r0:=h2
  simp only[agv]at ha
  subst ha
  obtain⟨r1,g1,g2⟩:=tu es es' 0 r hk hn
  rw[g1]
  exact⟨r1,rfl,g2⟩
 |none=>
  rw[hn]at h2
  rw[tt es es' 0 hk hn]
  obtain⟨r1,g1,g2⟩:=oe es es' 0 r0 hk h2
  exact⟨r1,je _ _ g1 w,g2⟩
def ju(es:List (Value×AV×Nat)):List MapEntry:=es.map fun e=>⟨e.1,undef,e.2.2⟩
def ui(P:Program)(kt:TypeId)(k:Value)(es:List (Value×AV×Nat)):Option (Option Nat):=
 match du P (Instr.checkKey es.isEmpty 10000 kt k)with
 |none=>none
 |some _=>match du P (Instr.findKey kt k (ju es))with
  |none=>none
  |some none=>some none
  |some (some (i,_))=>some (some i)
theorem lc{P:Program}{kt:TypeId}{k:Value}{C:Ctx}{es:List (Value×AV×Nat)}{entries:Array MapEntry}{r:Option Nat}(hl:es.length=entries.size)(hi:∀i (h:i<es.length) (h':i<entries.size),entries[i].key=es[i].1/\VR C es[i].2.1 entries[i].val/\entries[i].born=es[i].2.2)
 (h:ui P kt k es=some r)(w:World):(∀e,(Instr.checkKey e 10000 kt k).run P w=.ok () w\/e≠es.isEmpty)/\(r=none/\(Instr.findKey kt k entries.toList).run P w=.ok none w\/∃i,r=some i/\∃(h1:i<entries.size),(Instr.findKey kt k entries.toList).run P w=.ok (some (i,entries[i].val)) w):=by
 unfold ui at h
 split at h
 ·cases h
 ·rename_i q hq
  have hb:=je _ _ hq w
  have ha:(ju es).map (·.key)=entries.toList.map (·.key):=by apply List.ext_getElem;simp[ju,hl];intro i h1 h2;simp only[ju,agz]at h1;simp only[agz,Array.length_toList]at h2;simp[ju,(hi i h1 h2).1]
  refine⟨fun e=>?_,?_⟩
  ·by_cases he:e=es.isEmpty
   ·subst he;exact .inl hb
   ·exact .inr he
  ·split at h
   ·cases h
   ·rename_i hf
    simp only[agv]at h
    subst h
    obtain⟨r1,g1,g2⟩:=tv ha hf w
    have g2':r1=none:=g2
    subst g2'
    exact .inl ⟨rfl,g1⟩
   ·rename_i i v hf
    simp only[agv]at h
    subst h
    obtain⟨r1,g1,j,e,e1,e2,e3⟩:=tv ha hf w
    subst e3
    have e1':i=j:=by omega
    subst e1'
    rw[Array.getElem?_toList]at e2
    obtain⟨hc,he⟩:=Array.getElem?_eq_some_iff.1 e2
    subst he
    exact .inr ⟨i,rfl,hc,g1⟩
end Go.Proofs.YtbhhmbchdponjaaGreatDoor
