/- Texts of the claim. -/
import Derived.RangeFuncCalls
import Derived.RangeFuncLeaves
import Derived.TacticsIn
import Derived.OrdersIn
import Derived.Test.YthpangmpihkniaaGreatDoorA2
namespace Go.Proofs.YthpangmpihkniaaGreatDoor
open Go.RowKit
/-- The fences of which the steps are said: none, or a round of a range over a function. -/
def FOk (F:Fence):Prop:=F=Fence.wide\/∃ l,F=Fence.wide.inRound l
theorem FOk.wide:FOk Fence.wide:=.inl rfl
theorem FOk.fn {F:Fence} (h:FOk F) (f:FuncId):F.fn f:=by
 rcases h with rfl | ⟨l,rfl⟩ <;> trivial
theorem FOk.depth {F:Fence} (h:FOk F):F.depth=none:=by
 rcases h with rfl | ⟨l,rfl⟩ <;> rfl
theorem FOk.calls {F:Fence} (h:FOk F) {n:Nat} {P:Program} {f:FuncId} {args:Array Value} {w:World} {R:Ending->World->Prop} (hc:Calls P f args w R):CallsIn F n P f args w R:=by
 rcases h with rfl | ⟨l,rfl⟩
 ·exact callsIn_wide.2 hc
 ·exact CallsIn.inRound l (callsIn_wide.2 hc)
/-- A step that is right anywhere is right inside a round. -/
theorem Xl {F:Fence} {P:Program} {o:Oper} {a:Act} {w:World} {K:Act->World->Prop} {Q:Exit->Act->World->Prop} {n:Nat} (hF:FOk F) (hd:∀ c,o.op≠.defer c) (h:o.wp P a w K Q):o.wpIn F n P a w K Q:=by
 refine ⟨fun _ _=>hF.fn _,?_⟩
 rw [Oper.semAt_eq _ _ _ hd]
 unfold Oper.wp at h
 revert h
 generalize (execOp a.eval o).run P w=r
 intro h
 unfold Oper.upon at h
 unfold Oper.uponIn
 split at h
 ·exact h
 ·exact h
 ·exact h
 ·exact ⟨fun e=>(by rw [hF.depth] at e; cases e),hF.calls h⟩
 ·exact ⟨fun e=>(by rw [hF.depth] at e; cases e),fun c cs _=>by
   obtain ⟨v,w1,r,s⟩:=h c cs
   rcases hF with rfl | ⟨l,rfl⟩
   ·exact ⟨v,w1,r,(stepsIn_wide (P:=P)).2 s⟩
   ·exact ⟨v,w1,r,(stepsIn_wide (P:=P)).2 s⟩⟩
 ·exact h
 ·cases h
theorem Ea {F:Fence} {q:Nat} {P:Program} {c:Code} {Q:Exit->Act->World->Prop} (I:Nat->Act->World->Prop) (round:∀ n a w,I n a w->c.wpIn F q P (Exit.then (fun a' w'=>∃ m,m < n/\I m a' w') Q) a w) {n:Nat} {a:Act} {w:World} (h0:I n a w):(Code.loop c).wpIn F q P Q a w:=by
 intro b k cs hro hb hr
 have key:∀ n a w,I n a w->∃ e a' w',Q e a' w'/\ArrivesIn (Machine.fenced P F) P (lone (b.atR a (.code c :: .inLoop c :: k)) cs w) b k cs e a' w':=by
  intro n
  induction n using Nat.strongRecOn with
  | _ n ih=>
   intro a w hI
   obtain ⟨e,a₁,w₁,hq,harr⟩:=round n a w hI b (.inLoop c :: k) cs hro hb hr
   cases e with
   | normal=>
    obtain ⟨m,hlt,hI₁⟩:=hq
    obtain ⟨e₂,a₂,w₂,hq₂,harr₂⟩:=ih m hlt a₁ w₁ hI₁
    exact ⟨e₂,a₂,w₂,hq₂,.of_steps (StepsIn.trans harr (.one (fenced_calm hb hr rfl) stepR_inLoop)) harr₂⟩
   | exit id=>exact ⟨_,a₁,w₁,hq,.pass (x:=.inLoop c) rfl (fun _ _=>.inl (by simp)) harr⟩
   | goto l=>exact ⟨_,a₁,w₁,hq,.pass (x:=.inLoop c) rfl (fun _ _=>.inl (by simp)) harr⟩
   | ret=>exact ⟨_,a₁,w₁,hq,.pass (x:=.inLoop c) rfl (fun _ _=>.inl (by simp)) harr⟩
   | panic ch=>exact ⟨_,a₁,w₁,hq,.pass (x:=.inLoop c) rfl (fun _ _=>.inl (by simp)) harr⟩
   | outgrown=>exact ⟨_,a₁,w₁,hq,.pass (x:=.inLoop c) rfl (fun _ _=>.inl (by simp)) harr⟩
 obtain ⟨e,a',w',hq,harr⟩:=key n a w h0
 exact ⟨e,a',w',hq,.of_steps (.one (fenced_calm hb hr rfl) stepR_loop) harr⟩
set_option linter.unusedVariables false
set_option linter.unusedSimpArgs false
structure Rc where
 F:Nat
 W:Nat
 u0:Nat
 u:Nat
 η:au
 v:AV
/-- What it leaves other than it was. -/
def Rc.D (r:Rc) (id:Nat):Bool:=r.W.testBit id||(Nat.ble r.u0 id&&Nat.ble (id+1) r.u)
theorem Rc.D_iff {r:Rc} {id:Nat}:r.D id=true↔(r.W.testBit id=true\/(r.u0<=id/\id < r.u)):=by
 unfold Rc.D
 rw [Bool.or_eq_true,Bool.and_eq_true,Nat.ble_eq,Nat.ble_eq]
 rfl
structure Fits (η:au) (r:Rc):Prop where
 le:r.u0<=r.u
 same:∀ id,r.D id=false->r.η id=η id
 sub:∀ id,r.W.testBit id=true->r.F.testBit id=true
 low:∀ id,r.F.testBit id=true->id < r.u0
def va (P:Program) (o:Oper) (τ:Nat->AV) (η:au) (r:Rc):Prop :=
 ∀ (C:Ctx) (a:Act),Good C->(∀ x∈o.op.operands,VR C (aev τ x) (a.eval x))->(∀ id,r.F.testBit id=true->C.η id=η id)->(∀ id,r.u0<=id->id < r.u->¬ C.U id) ->
  ∀ (K:Act->World->Prop) (Q:Exit->Act->World->Prop),
   (∀ x C',(∀ id,C'.η id=if r.D id=true then r.η id else C.η id)->(∀ id,C'.U id->C.U id\/r.D id=true)->Good C'->Ev C C'->VR C' r.v x->K (a.put o.dst x) C'.w)->o.wp P a C.w K Q
def jb:List Nat->Nat
 | []=>0
 | i :: l=>Nat.lor (Nat.shiftLeft 1 i) (jb l)
theorem ut {i j:Nat}:(Nat.shiftLeft 1 i).testBit j=true↔j=i:=by
 have h:Nat.shiftLeft 1 i=1 <<< i:=rfl
 rw [h,Nat.one_shiftLeft,Nat.testBit_two_pow]
 simp [eq_comm]
theorem Hz:∀ {l:List Nat} {i:Nat},(jb l).testBit i=true↔i∈l
 | [],i=>by simp [jb]
 | j :: l,i=>by
  have h:jb (j :: l)=Nat.shiftLeft 1 j ||| jb l:=rfl
  rw [h,Nat.testBit_or,Bool.or_eq_true,ut,Hz,List.mem_cons]
section
variable {P:Program} {o:Oper} {τ:Nat->AV} {η:au} {fp:List Nat} {v:AV} {u:Nat}
theorem LOp.toX (h:LOp P o τ η fp [] v):va P o τ η ⟨jb fp,0,u,u,η,v⟩:=by
 intro C a hg hx hF hN K Q hK
 have hD:∀ id,(⟨jb fp,0,u,u,η,v⟩:Rc).D id=false:=fun id=>by
  cases hd:(⟨jb fp,0,u,u,η,v⟩:Rc).D id with
  | false=>rfl
  | true=>
   rcases Rc.D_iff.1 hd with h1 | ⟨h1,h2⟩
   ·simp at h1
   ·simp only at h1 h2; omega
 refine h C a hg hx (fun id hid=>hF id (Hz.2 hid)) (fun p hp=>by cases hp) K Q (fun x C' hη hU hg' he hv=>hK x C' (fun id=>?_) (fun id hid=>?_) hg' he hv)
 ·rw [hD id,hη]; rfl
 ·rcases (hU id).1 hid with h1 | h1
  ·exact .inl h1
  ·cases h1
theorem LOp.toX_old {id:Nat} {b:Option Blk} (h:LOp P o τ η fp [(id,b)] v) (hid:id∈fp):va P o τ η ⟨jb fp,Nat.shiftLeft 1 id,u,u,η.set id b,v⟩:=by
 intro C a hg hx hF hN K Q hK
 have hD:∀ i,(⟨jb fp,Nat.shiftLeft 1 id,u,u,η.set id b,v⟩:Rc).D i=true↔i=id:=fun i=>by
  rw [Rc.D_iff]
  simp only [ut]
  constructor
  ·rintro (h1 | ⟨h1,h2⟩)
   ·exact h1
   ·omega
  ·exact .inl
 refine h C a hg hx (fun id hid=>hF id (Hz.2 hid)) (fun p hp hnp=>?_) K Q (fun x C' hη hU hg' he hv=>hK x C' (fun i=>?_) (fun i hi=>?_) hg' he hv)
 ·simp only [Zj] at hp
  subst hp
  exact absurd hid hnp
 ·rw [hη]
  by_cases e:i=id
  ·subst e
   rw [if_pos ((hD i).2 rfl)]
   show (C.η.set i b) i=(η.set i b) i
   rw [ae,ae]
  ·rw [if_neg (fun h=>e ((hD i).1 h))]
   show (C.η.set id b) i=_
   rw [am _ _ e]
 ·rcases (hU i).1 hi with h1 | h1
  ·exact .inl h1
  ·simp only [List.map_cons,List.map_nil,Zj] at h1
   exact .inr ((hD i).2 h1)
theorem LOp.toX_new {b:Option Blk} (h:LOp P o τ η fp [(u,b)] v):va P o τ η ⟨jb fp,0,u,u+1,η.set u b,v⟩:=by
 intro C a hg hx hF hN K Q hK
 have hD:∀ i,(⟨jb fp,0,u,u+1,η.set u b,v⟩:Rc).D i=true↔i=u:=fun i=>by
  rw [Rc.D_iff]
  simp only [Nat.zero_testBit,Bool.false_eq_true,false_or]
  omega
 refine h C a hg hx (fun id hid=>hF id (Hz.2 hid)) (fun p hp hnp=>?_) K Q (fun x C' hη hU hg' he hv=>hK x C' (fun i=>?_) (fun i hi=>?_) hg' he hv)
 ·simp only [Zj] at hp
  subst hp
  exact hN u (Nat.le_refl _) (Nat.lt_succ_self _)
 ·rw [hη]
  by_cases e:i=u
  ·subst e
   rw [if_pos ((hD i).2 rfl)]
   show (C.η.set i b) i=(η.set i b) i
   rw [ae,ae]
  ·rw [if_neg (fun h=>e ((hD i).1 h))]
   show (C.η.set u b) i=_
   rw [am _ _ e]
 ·rcases (hU i).1 hi with h1 | h1
  ·exact .inl h1
  ·simp only [List.map_cons,List.map_nil,Zj] at h1
   exact .inr ((hD i).2 h1)
end
/-- s says of the world what is needed: the blocks of RD; the numbers from s.u up to M are free. -/
structure SRelX (DS:List Deferred) (RD:Nat->Prop) (M N:Nat) (C:Ctx) (s:St) (a:Act):Prop where
 good:Good C
 η:∀ id,RD id->C.η id=s.η id
 free:∀ id,s.u<=id->id < M->¬ C.U id
 defers:a.defers=DS
 size:a.tmps.size=N
 τ:∀ t,VR C (s.τ t) (a.eval (.tmp t))
/-- What is left as it was. -/
structure FrX (WD:Nat->Prop) (C C':Ctx):Prop where
 ev:Ev C C'
 η:∀ id,¬ WD id->C'.η id=C.η id
 U:∀ id,C'.U id->C.U id\/WD id
theorem FrX.refl {WD:Nat->Prop} (C:Ctx):FrX WD C C:=⟨Ev.refl C,fun _ _=>rfl,fun _ h=>.inl h⟩
theorem FrX.trans {WD:Nat->Prop} {A B C:Ctx} (h:FrX WD A B) (k:FrX WD B C):FrX WD A C :=
 ⟨h.ev.trans k.ev,fun id hid=>(k.η id hid).trans (h.η id hid),fun id hid=>(k.U id hid).elim (fun h1=>h.U id h1) .inr⟩
section
variable {DS:List Deferred} {P:Program} {RD WD:Nat->Prop} {M N:Nat} {C C':Ctx} {s:St} {a:Act}
theorem SRelX.eval (h:SRelX DS RD M N C s a) (x:Operand):VR C (aev s.τ x) (a.eval x):=by
 cases x with
 | tmp t=>exact h.τ t
 | const c=>exact VR.v C c
 | global g=>exact VR.v C _
 | func f=>exact .imm (.clo (by simp) (fun i hi=>by simp at hi))
theorem SRelX.put (h:SRelX DS RD M N C s a) (he:Ev C C') (hg:Good C') {η':au} {u':Nat} (hη:∀ id,RD id->C'.η id=η' id) (hu:∀ id,u'<=id->id < M->¬ C'.U id) {dst:Option Tmp} (hd:∀ d,dst=some d->d < N) {v:AV} {x:Value} (hv:VR C' v x) :
  SRelX DS RD M N C' ⟨kr s.τ dst v,η',u'⟩ (a.put dst x):=by
 refine ⟨hg,hη,hu,?_,?_,fun t=>?_⟩
 ·cases dst <;> simp [Act.put,h.defers]
 ·cases dst <;> simp [Act.put,h.size]
 ·cases dst with
  | none=>exact (h.τ t).mono h.good he
  | some d=>
   have hdN:d < a.tmps.size:=by rw [h.size]; exact hd d rfl
   by_cases e:t=d
   ·subst e
    have e1:kr s.τ (some t) v t=v:=by simp [kr,upd,cond]
    have e2:(a.put (some t) x).eval (.tmp t)=x:=by simp [Act.eval,Act.put,hdN]
    rw [e2]; show VR C' (kr s.τ (some t) v t) x; rw [e1]; exact hv
   ·have e1:kr s.τ (some d) v t=s.τ t:=by
     have:Nat.beq t d=false:=by
      cases hb:Nat.beq t d with
      | false=>rfl
      | true=>exact absurd (Zg hb) e
     simp [kr,upd,cond,this]
    have e2:(a.put (some d) x).eval (.tmp t)=a.eval (.tmp t):=Act.eval_put (fun q hq=>by cases hq; simp; exact e)
    rw [e2]; show VR C' (kr s.τ (some d) v t) _; rw [e1]; exact (h.τ t).mono h.good he
theorem jg {ops:Array Oper} {o:Oper} {b:Bool} (h:ly ops s.τ o=some b) (hr:SRelX DS RD M N C s a) (hd:∀ j c,o.guard=some (j,c)->∀ d,(ops[j]?).bind (·.dst)=some d->d < N) :
  Region.wanted o (yielded ops a.tmps)=b:=by
 unfold ly at h
 unfold Region.wanted
 cases hg:o.guard with
 | none=>rw [hg] at h; simpa using h
 | some p=>
  obtain ⟨j,c⟩:=p
  rw [hg] at h
  simp only at h ⊢
  cases hj:(ops[j]?).bind (·.dst) with
  | none=>rw [hj] at h; cases h
  | some d=>
   rw [hj] at h
   simp only at h
   have hlt:=hd j c hg d hj
   rw [<- hr.size] at hlt
   have h2:=hr.τ d
   cases e:s.τ d with
   | v x=>
    rw [e] at h h2
    cases x with
    | bool t=>
     have h3:=h2.v_inv
     have h4:a.tmps[d]? = some (.bool t):=by
      simp only [Act.eval] at h3
      rw [Array.getD_eq_getD_getElem?] at h3
      rw [Array.getElem?_eq_getElem hlt] at h3 ⊢
      simpa using h3
     simp only [yielded,hj,Option.bind_some,h4]
     simp only [Zh] at h
     rw [<- h]
     cases t <;> cases c <;> rfl
    | tuple l=>
     have h3:=h2.v_inv
     have h4:a.tmps[d]? = some (.tuple l):=by
      simp only [Act.eval] at h3
      rw [Array.getD_eq_getD_getElem?] at h3
      rw [Array.getElem?_eq_getElem hlt] at h3 ⊢
      simpa using h3
     simp only [yielded,hj,Option.bind_some,h4]
     simp only [Zh] at h
     rw [<- h]
     rfl
    | _=>simp at h
   | _=>rw [e] at h; simp at h
end
/-- Code, said of plain values, in any surroundings. -/
def ry (P:Program) (RD WD:Nat->Prop) (M N:Nat) (c:Code) (Q:Exit->St->Prop) (s:St):Prop :=
 ∀ (F:Fence),FOk F->∀ (n:Nat) (DS:List Deferred) C a,SRelX DS RD M N C s a->c.wpIn F n P (fun e a' w'=>∃ s' C',Q e s'/\C'.w=w'/\SRelX DS RD M N C' s' a'/\FrX WD C C') a C.w
def rz (o:Oper) (r:Rc) (s:St):St:=⟨kr s.τ o.dst r.v,r.η,r.u⟩
structure FactX (P:Program) (N:Nat) (ops:Array Oper) (o:Oper) (r:Rc) (s:St):Prop where
 dst:ic N ops o=true
 u:r.u0=s.u
 fits:Fits s.η r
 how:(ly ops s.τ o=some true/\va P o s.τ s.η r)\/(ly ops s.τ o=some false/\r.v=.v undef/\r.F=0/\r.u=s.u)
inductive SeqX (P:Program) (N:Nat) (ops:Array Oper):List Oper->St->List Rc->St->Prop where
 | nil {s:St}:SeqX P N ops [] s [] s
 | cons {o:Oper} {l:List Oper} {s s':St} {r:Rc} {rs:List Rc}:FactX P N ops o r s->SeqX P N ops l (rz o r s) rs s'->SeqX P N ops (o :: l) s (r :: rs) s'
/-- What the records look at and write lies in RD and WD. -/
structure Inn (RD WD:Nat->Prop) (M:Nat) (r:Rc):Prop where
 rd:∀ id,r.F.testBit id=true->RD id
 rn:∀ id,r.u0<=id->id < r.u->RD id
 wd:∀ id,r.D id=true->WD id
 u:r.u<=M
section
variable {DS:List Deferred} {P:Program} {RD WD:Nat->Prop} {M N:Nat} {s s':St} {Q:Exit->St->Prop}
theorem FactX.skip_D {ops:Array Oper} {o:Oper} {r:Rc} (hf:FactX P N ops o r s) (h:r.F=0/\r.u=s.u):∀ id,r.D id=false:=by
 intro id
 cases hd:r.D id with
 | false=>rfl
 | true=>
  rcases Rc.D_iff.1 hd with h1 | ⟨h1,h2⟩
  ·have:=hf.fits.sub id h1
   rw [h.1] at this
   simp at this
  ·have:=hf.u
   have:=h.2
   omega
/-- One operation, in any surroundings. -/
theorem SRelX.step {C C':Ctx} {a:Act} {o:Oper} {r:Rc} {x:Value} {ops:Array Oper} (hr:SRelX DS RD M N C s a) (hf:FactX P N ops o r s) (hi:Inn RD WD M r) (h1:∀ id,C'.η id=if r.D id=true then r.η id else C.η id) (h2:∀ id,C'.U id->C.U id\/r.D id=true) (hg:Good C') (he:Ev C C') (hv:VR C' r.v x) :
  SRelX DS RD M N C' (rz o r s) (a.put o.dst x)/\FrX WD C C':=by
 refine ⟨hr.put he hg (fun id hid=>?_) (fun id hle hlt hu=>?_) (ic.dst hf.dst) hv,he,fun id hid=>?_,fun id hid=>(h2 id hid).imp (fun h=>h) (hi.wd id)⟩
 ·rw [h1 id]
  cases hd:r.D id with
  | true=>rw [if_pos rfl]
  | false=>rw [if_neg (by simp),hr.η id hid,hf.fits.same id hd]
 ·rcases h2 id hu with h | h
  ·exact hr.free id (by have:=hf.u; have:=hf.fits.le; omega) hlt h
  ·rcases Rc.D_iff.1 h with h3 | h3
   ·have:=hf.fits.low id (hf.fits.sub id h3)
    have:=hf.fits.le
    omega
   ·omega
 ·rw [h1 id,if_neg (fun hd=>hid (hi.wd id hd))]
theorem SeqX.run {ops:Array Oper}:∀ {l:List Oper} {s s':St} {rs:List Rc},SeqX P N ops l s rs s'->(∀ r∈rs,Inn RD WD M r)->∀ (F:Fence),FOk F->∀ (n:Nat) (C:Ctx) (a:Act) (Q:Exit->Act->World->Prop),SRelX DS RD M N C s a ->
  (∀ C' a',SRelX DS RD M N C' s' a'->FrX WD C C'->Q .normal a' C'.w)->wpListIn F n P ops Q l a C.w:=by
 intro l s s' rs h
 induction h with
 | nil=>intro _ F hF n C a Q hr hK; exact hK C a hr (FrX.refl C)
 | cons hf _ ih=>
  rename_i o l s s' r rs _
  intro hi F hF n C a Q hr hK
  have hi0:=hi r (by simp)
  unfold wpListIn
  rcases hf.how with ⟨hw,hL⟩ | ⟨hw,hv,hF0,hu⟩
  ·rw [jg hw hr (ic.guard hf.dst)]
   simp only [if_true]
   refine Xl hF (ya hf.dst) (hL C a hr.good (fun x _=>hr.eval x) (fun id hid=>hr.η id (hi0.rd id hid)) (fun id h1 h2=>hr.free id (by have:=hf.u; omega) (by have:=hi0.u; omega)) _ _ fun x C' h1 h2 hg he hv=>?_)
   obtain ⟨hr',hf'⟩:=hr.step hf hi0 h1 h2 hg he hv
   exact ih (fun r hr=>hi r (by simp [hr])) F hF n C' _ Q hr' (fun C'' a'' h3 h4=>hK C'' a'' h3 (hf'.trans h4))
  ·rw [jg hw hr (ic.guard hf.dst)]
   simp only [Bool.false_eq_true,if_false]
   have hD:=hf.skip_D ⟨hF0,hu⟩
   obtain ⟨hr',hf'⟩:=hr.step (C':=C) (x:=undef) hf hi0 (fun id=>by rw [hD id]; rfl) (fun id h=>.inl h) hr.good (Ev.refl C) (by rw [hv]; exact VR.v C _)
   exact ⟨fun _ _=>hF.fn _,ih (fun r hr=>hi r (by simp [hr])) F hF n C _ Q hr' (fun C'' a'' h3 h4=>hK C'' a'' h3 (hf'.trans h4))⟩
theorem ry.region {id:Nat} {l:List Oper} {rs:List Rc} (h:SeqX P N l.toArray l s rs s') (hi:∀ r∈rs,Inn RD WD M r) (hq:Q .normal s'):ry P RD WD M N (.region id l.toArray false) Q s:=by
 intro F hF n DS C a hr
 exact wpIn_region_lit (h.run hi F hF n C a _ hr (fun C' a' hr' he'=>⟨s',C',hq,rfl,hr',he'⟩))
theorem ry.mono {Q':Exit->St->Prop} {c:Code} (h:ry P RD WD M N c Q s) (hq:∀ e s',Q e s'->Q' e s'):ry P RD WD M N c Q' s :=
 fun F hF n DS C a hr=>Code.wpIn_mono (fun e a' w' ⟨s',C',h1,h2⟩=>⟨s',C',hq _ _ h1,h2⟩) (h F hF n DS C a hr)
theorem ry.skip (h:Q .normal s):ry P RD WD M N .skip Q s:=fun F hF n DS C a hr=>wpIn_skip ⟨s,C,h,rfl,hr,FrX.refl C⟩
theorem ry.exit {id:Nat} (h:Q (.exit id) s):ry P RD WD M N (.exit id) Q s:=fun F hF n DS C a hr=>wpIn_exit ⟨s,C,h,rfl,hr,FrX.refl C⟩
theorem ry.ret (h:Q .ret s):ry P RD WD M N .ret Q s:=fun F hF n DS C a hr=>wpIn_ret ⟨s,C,h,rfl,hr,FrX.refl C⟩
theorem ry.seq {x y:Code} (h:ry P RD WD M N x (andThen (ry P RD WD M N y Q) Q) s):ry P RD WD M N (.seq x y) Q s:=by
 intro F hF n DS C a hr
 refine wpIn_seq (Code.wpIn_mono ?_ (h F hF n DS C a hr))
 rintro e a' w' ⟨s',C',hq,rfl,hr',he⟩
 cases e with
 | normal=>exact Code.wpIn_mono (fun e a'' w'' ⟨s'',C'',h1,h2,h3,h4⟩=>⟨s'',C'',h1,h2,h3,he.trans h4⟩) (hq F hF n DS C' a' hr')
 | _=>exact ⟨s',C',hq,rfl,hr',he⟩
theorem ry.cond {c:Operand} {x y:Code} {t:Bool} (hc:aev s.τ c=.v (.bool t)) (ht:t=true->ry P RD WD M N x Q s) (hf:t=false->ry P RD WD M N y Q s):ry P RD WD M N (.cond c x y) Q s:=by
 intro F hF n DS C a hr
 have h1:=hr.eval c
 rw [hc] at h1
 exact wpIn_cond_split h1.v_inv (fun e=>ht e F hF n DS C a hr) (fun e=>hf e F hF n DS C a hr)
theorem ry.condT {c:Operand} {x y:Code} (hc:aev s.τ c=.v (.bool true)) (h:ry P RD WD M N x Q s):ry P RD WD M N (.cond c x y) Q s:=ry.cond hc (fun _=>h) (fun e=>by cases e)
theorem ry.condF {c:Operand} {x y:Code} (hc:aev s.τ c=.v (.bool false)) (h:ry P RD WD M N y Q s):ry P RD WD M N (.cond c x y) Q s:=ry.cond hc (fun e=>by cases e) (fun _=>h)
theorem ry.block {id:Nat} {c:Code} (h:ry P RD WD M N c (ou id Q) s):ry P RD WD M N (.block id c) Q s:=by
 intro F hF n DS C a hr
 refine wpIn_block (Code.wpIn_mono ?_ (h F hF n DS C a hr))
 rintro e a' w' ⟨s',C',hq,h2⟩
 cases e with
 | exit id'=>
  simp only [Exit.inBlock]
  simp only [ou] at hq
  by_cases e:id'=id
  ·subst e
   rw [Nat.beq_refl] at hq
   simp only [cond_true] at hq
   simp only [if_true]
   exact ⟨s',C',hq,h2⟩
  ·have:Nat.beq id' id=false:=by
    cases hb:Nat.beq id' id with
    | false=>rfl
    | true=>exact absurd (Zg hb) e
   rw [this] at hq
   simp only [cond_false] at hq
   simp only [e,if_false]
   exact ⟨s',C',hq,h2⟩
 | _=>exact ⟨s',C',hq,h2⟩
theorem ry.loop {c:Code} (I:Nat->St->Prop) (hI:∀ n s,I n s->ry P RD WD M N c (andThen (fun s'=>∃ m,m < n/\I m s') Q) s) {n:Nat} (h0:I n s):ry P RD WD M N (.loop c) Q s:=by
 intro F hF q DS C a hr
 refine Ea (fun n a w=>∃ s' C',I n s'/\C'.w=w/\SRelX DS RD M N C' s' a/\FrX WD C C') ?_ ⟨s,C,h0,rfl,hr,FrX.refl C⟩
 rintro n a w ⟨s',C',hi,rfl,hr',he⟩
 refine Code.wpIn_mono ?_ (hI n s' hi F hF q DS C' a hr')
 rintro e a'' w'' ⟨s'',C'',hq,rfl,hr'',he''⟩
 cases e with
 | normal=>
  obtain ⟨m,hm,hi'⟩:=hq
  exact ⟨m,hm,s'',C'',hi',rfl,hr'',he.trans he''⟩
 | _=>exact ⟨s'',C'',hq,rfl,hr'',he.trans he''⟩
end
def jk:List Oper->List Rc->Nat->St->St
 | o :: l,r :: rs,k+1,s=>jk l rs k (rz o r s)
 | _,_,_,s=>s
theorem fc (l:List Oper) (rs:List Rc) (s:St):jk l rs 0 s=s:=by cases l <;> cases rs <;> rfl
theorem tj (o:Oper) (l:List Oper) (r:Rc) (rs:List Rc) (k:Nat) (s:St):jk (o :: l) (r :: rs) (k+1) s=jk l rs k (rz o r s):=rfl
theorem kb (l:List Oper):∀ (rs:List Rc) (k:Nat) (s:St) (o:Oper) (r:Rc),l[k]? = some o->rs[k]? = some r->jk l rs (k+1) s=rz o r (jk l rs k s):=by
 induction l with
 | nil=>intro rs k s o r h1; simp at h1
 | cons o' l ih=>
  intro rs k s o r h1 h2
  cases rs with
  | nil=>simp at h2
  | cons r' rs=>
   cases k with
   | zero=>
    simp only [List.getElem?_cons_zero,Zh] at h1 h2
    rw [tj,fc,fc,h1,h2]
   | succ k=>
    rw [tj,tj]
    exact ih rs k _ o r (by simpa using h1) (by simpa using h2)
theorem SeqX.facts {P:Program} {N:Nat} {ops:Array Oper} {l:List Oper} {s s':St} {rs:List Rc} (h:SeqX P N ops l s rs s') :
  rs.length=l.length/\s'=jk l rs l.length s/\∀ (k:Nat) (o:Oper) (r:Rc),l[k]? = some o->rs[k]? = some r->FactX P N ops o r (jk l rs k s):=by
 induction h with
 | nil=>exact ⟨rfl,rfl,fun k o r h=>by simp at h⟩
 | cons hf _ ih=>
  obtain ⟨h1,h2,h3⟩:=ih
  refine ⟨by simp [h1],h2,fun k o r ho hr=>?_⟩
  cases k with
  | zero=>
   simp at ho hr
   subst ho; subst hr
   rw [fc]; exact hf
  | succ k=>exact h3 k o r (by simpa using ho) (by simpa using hr)
structure PairX (oi oj:Oper) (ri rj:Rc) (ops:Array Oper):Prop where
 d1:∀ d,oi.dst=some d->d∉oj.looksAt ops
 d2:∀ d,oi.dst=some d->oj.dst≠some d
 d3:∀ d,oj.dst=some d->d∉oi.looksAt ops
 h1:∀ x,ri.D x=true->rj.F.testBit x=false
 h2:∀ x,rj.D x=true->ri.F.testBit x=false
 h3:∀ x,ri.D x=true->rj.D x=false
theorem PairX.symm {oi oj:Oper} {ri rj:Rc} {ops:Array Oper} (h:PairX oi oj ri rj ops):PairX oj oi rj ri ops :=
 ⟨h.d3,fun d hd he=>h.d2 d he hd,h.d1,h.h2,h.h1,fun x hx=>by
  cases hy:ri.D x with
  | false=>rfl
  | true=>rw [h.h3 x hy] at hx; cases hx⟩
structure DrawOk (l:List Oper) (rs:List Rc):Prop where
 pair:∀ (i k:Nat) (oi ok:Oper) (ri rk:Rc),i < k->l[i]? = some oi->l[k]? = some ok->rs[i]? = some ri->rs[k]? = some rk->Anc l.toArray k i\/PairX oi ok ri rk l.toArray
 op:∀ (k:Nat) (ok:Oper),l[k]? = some ok->(∀ i∈bv ok,i < k)/\∀ cs b,ok.op≠.select cs b
section
variable (ops:List Oper) (rs:List Rc)
def vX (k:Nat):AV:=((rs[k]?).map (·.v)).getD .unk
def DX (k id:Nat):Bool:=((rs[k]?).map (·.D id)).getD false
def ηX (k id:Nat):Option Blk:=((rs[k]?).map (·.η id)).getD none
def tvX (s0:St) (S:Nat->Bool):Nat->Nat->AV
 | 0,t=>s0.τ t
 | m+1,t=>if S m=true/\Au ops m=some t then vX rs m else tvX s0 S m t
def hvX (s0:St) (S:Nat->Bool):Nat->au
 | 0,id=>s0.η id
 | m+1,id=>if S m=true/\DX rs m id=true then ηX rs m id else hvX s0 S m id
variable {ops rs}
theorem Pd {k:Nat} {r:Rc} (h:rs[k]? = some r):vX rs k=r.v:=by simp [vX,h]
theorem o5 {k:Nat} {r:Rc} (h:rs[k]? = some r) (id:Nat):DX rs k id=r.D id:=by simp [DX,h]
theorem Cd {k:Nat} {r:Rc} (h:rs[k]? = some r) (id:Nat):ηX rs k id=r.η id:=by simp [ηX,h]
theorem i8 {P:Program} {N:Nat} {opsA:Array Oper} {s0:St} (hf:∀ (k:Nat) (o:Oper) (r:Rc),ops[k]? = some o->rs[k]? = some r->FactX P N opsA o r (jk ops rs k s0)) :
  ∀ (k:Nat),k<=ops.length->rs.length=ops.length->(jk ops rs k s0).τ=tvX ops rs s0 (fun _=>true) k/\(jk ops rs k s0).η=hvX rs s0 (fun _=>true) k
 | 0,_,_=>by rw [fc]; exact ⟨rfl,rfl⟩
 | k+1,hk,hl=>by
  obtain ⟨h1,h2⟩:=i8 (s0:=s0) hf k (by omega) hl
  have ho:ops[k]? = some (ops[k]'(by omega)):=Zf (by omega)
  have hr:rs[k]? = some (rs[k]'(by omega)):=Zf (by omega)
  have hfk:=hf k _ _ ho hr
  rw [kb ops rs k s0 _ _ ho hr]
  constructor
  ·funext t
   have hd:Au ops k=(ops[k]'(by omega)).dst:=by simp [Au,ho]
   simp only [rz,tvX,hd,Pd hr,true_and]
   rw [h1]
   cases hdd:(ops[k]'(by omega)).dst with
   | none=>simp [kr]
   | some d=>
    simp only [kr,upd,Zh]
    by_cases e:d=t
    ·subst e; simp
    ·have:Nat.beq t d=false:=by
      cases hb:Nat.beq t d with
      | false=>rfl
      | true=>exact absurd (Zg hb).symm e
     simp [this,e]
  ·funext id
   simp only [rz,hvX,true_and,o5 hr,Cd hr]
   cases hD:(rs[k]'(by omega)).D id with
   | true=>simp
   | false=>
    simp only [Bool.false_eq_true,if_false]
    rw [hfk.fits.same id hD,h2]
theorem l5 {s0:St} {S:Nat->Bool} {t k:Nat}:∀ m,(∀ j,k<=j->j < k+m->¬ (S j=true/\Au ops j=some t))->tvX ops rs s0 S (k+m) t=tvX ops rs s0 S k t
 | 0,_=>rfl
 | m+1,h=>by
  show (if S (k+m)=true/\Au ops (k+m)=some t then vX rs (k+m) else tvX ops rs s0 S (k+m) t)=_
  rw [if_neg (h (k+m) (by omega) (by omega)),l5 m (fun j h1 h2=>h j h1 (by omega))]
theorem ku {s0:St} {S S':Nat->Bool} {t:Nat}:∀ k,(∀ j,j < k->Au ops j=some t->S j=S' j)->tvX ops rs s0 S k t=tvX ops rs s0 S' k t
 | 0,_=>rfl
 | k+1,h=>by
  simp only [tvX]
  rw [ku k (fun j hj=>h j (by omega))]
  by_cases e:Au ops k=some t
  ·rw [h k (by omega) e]
  ·simp [e]
theorem mq {s0:St} {S:Nat->Bool} {id k:Nat}:∀ m,(∀ j,k<=j->j < k+m->¬ (S j=true/\DX rs j id=true))->hvX rs s0 S (k+m) id=hvX rs s0 S k id
 | 0,_=>rfl
 | m+1,h=>by
  show (if S (k+m)=true/\DX rs (k+m) id=true then ηX rs (k+m) id else hvX rs s0 S (k+m) id)=_
  rw [if_neg (h (k+m) (by omega) (by omega)),mq m (fun j h1 h2=>h j h1 (by omega))]
theorem lb {s0:St} {S S':Nat->Bool} {id:Nat}:∀ k,(∀ j,j < k->DX rs j id=true->S j=S' j)->hvX rs s0 S k id=hvX rs s0 S' k id
 | 0,_=>rfl
 | k+1,h=>by
  simp only [hvX]
  rw [lb k (fun j hj=>h j (by omega))]
  by_cases e:DX rs k id=true
  ·rw [h k (by omega) e]
  ·simp [e]
end
section
variable {P:Program} {N:Nat} {l:List Oper} {rs:List Rc} {s s':St} {ri:Rc} {oi:Oper} {i:Nat} {S:Nat->Bool}
theorem s8 (hc:DrawOk l rs) (hS:dw l.toArray S) (hi:i < l.length) (hoi:l[i]? = some oi) (hri:rs[i]? = some ri) (hSi:S i=false) (hready:∀ j∈bv oi,S j=true)
  {j:Nat} (hne:j≠i) {oj:Oper} {rj:Rc} (hoj:l[j]? = some oj) (hrj:rs[j]? = some rj):(j < i/\S j=true)\/(i < j/\S j=false)\/PairX oi oj ri rj l.toArray:=by
 rcases Nat.lt_or_gt_of_ne hne with hlt | hgt
 ·rcases hc.pair j i oj oi rj ri hlt hoj hoi hrj hri with h | h
  ·left
   refine ⟨hlt,hS.anc h (fun o ho k hk=>?_)⟩
   simp only [List.getElem?_toArray] at ho
   rw [hoi] at ho
   cases ho
   exact hready k hk
  ·exact .inr (.inr h.symm)
 ·rcases hc.pair i j oi oj ri rj hgt hoi hoj hri hrj with h | h
  ·right; left
   refine ⟨hgt,?_⟩
   cases hSj:S j with
   | false=>rfl
   | true=>
    have:=hS.anc h (fun o ho k hk=>hS j o ho hSj k hk)
    rw [hSi] at this; cases this
  ·exact .inr (.inr h)
section
theorem Jt (hc:DrawOk l rs) (hlen:rs.length=l.length) (hfact:∀ (k:Nat) (o:Oper) (r:Rc),l[k]? = some o->rs[k]? = some r->FactX P N l.toArray o r (jk l rs k s)) (hS:dw l.toArray S) (hi:i < l.length) (hoi:l[i]? = some oi) (hri:rs[i]? = some ri) (hSi:S i=false) (hready:∀ j∈bv oi,S j=true) {t:Nat} (ht:t∈oi.looksAt l.toArray):tvX l rs s S l.length t=(jk l rs i s).τ t:=by
 have hst:=fun j (hj:j < l.length) (hne:j≠i)=>s8 hc hS hi hoi hri hSi hready hne (Zf hj) (Zf (show j < rs.length by omega))
 rw [(i8 hfact i (by omega) hlen).1]
 have e1:=l5 (ops:=l) (rs:=rs) (s0:=s) (S:=S) (t:=t) (k:=i) (l.length - i) (fun j h1 h2 ⟨h3,h4⟩=>by
  have hj:j < l.length:=by omega
  by_cases e:j=i
  ·subst e; rw [hSi] at h3; cases h3
  ·rcases hst j hj e with ⟨h,_⟩ | ⟨_,h⟩ | h
   ·omega
   ·rw [h] at h3; cases h3
   ·rw [gc (Zf hj)] at h4
    exact h.d3 t h4 ht)
 rw [show i+(l.length - i)=l.length by omega] at e1
 rw [e1]
 refine ku i (fun j hj hd=>?_)
 have hj':j < l.length:=by omega
 rcases hst j hj' (by omega) with ⟨_,h⟩ | ⟨h,_⟩ | h
 ·exact h
 ·omega
 ·rw [gc (Zf hj')] at hd
  exact absurd ht (h.d3 t hd)
theorem Vv (hc:DrawOk l rs) (hlen:rs.length=l.length) (hfact:∀ (k:Nat) (o:Oper) (r:Rc),l[k]? = some o->rs[k]? = some r->FactX P N l.toArray o r (jk l rs k s)) (hS:dw l.toArray S) (hi:i < l.length) (hoi:l[i]? = some oi) (hri:rs[i]? = some ri) (hSi:S i=false) (hready:∀ j∈bv oi,S j=true) {id:Nat} (ht:ri.F.testBit id=true):hvX rs s S l.length id=(jk l rs i s).η id:=by
 have hst:=fun j (hj:j < l.length) (hne:j≠i)=>s8 hc hS hi hoi hri hSi hready hne (Zf hj) (Zf (show j < rs.length by omega))
 rw [(i8 hfact i (by omega) hlen).2]
 have e1:=mq (rs:=rs) (s0:=s) (S:=S) (id:=id) (k:=i) (l.length - i) (fun j h1 h2 ⟨h3,h4⟩=>by
  have hj:j < l.length:=by omega
  by_cases e:j=i
  ·subst e; rw [hSi] at h3; cases h3
  ·rcases hst j hj e with ⟨h,_⟩ | ⟨_,h⟩ | h
   ·omega
   ·rw [h] at h3; cases h3
   ·rw [o5 (Zf (show j < rs.length by omega))] at h4
    rw [h.h2 id h4] at ht; cases ht)
 rw [show i+(l.length - i)=l.length by omega] at e1
 rw [e1]
 refine lb i (fun j hj hd=>?_)
 have hj':j < l.length:=by omega
 rcases hst j hj' (by omega) with ⟨_,h⟩ | ⟨h,_⟩ | h
 ·exact h
 ·omega
 ·rw [o5 (Zf (show j < rs.length by omega))] at hd
  rw [h.h2 id hd] at ht; cases ht
theorem Lj (hc:DrawOk l rs) (hlen:rs.length=l.length) (hfact:∀ (k:Nat) (o:Oper) (r:Rc),l[k]? = some o->rs[k]? = some r->FactX P N l.toArray o r (jk l rs k s)) (hS:dw l.toArray S) (hi:i < l.length) (hoi:l[i]? = some oi) (hri:rs[i]? = some ri) (hSi:S i=false) (hready:∀ j∈bv oi,S j=true):kr (tvX l rs s S l.length) oi.dst ri.v=tvX l rs s (ce S i) l.length:=by
 have hst:=fun j (hj:j < l.length) (hne:j≠i)=>s8 hc hS hi hoi hri hSi hready hne (Zf hj) (Zf (show j < rs.length by omega))
 funext t
 by_cases hd:oi.dst=some t
 ·have e1:=l5 (ops:=l) (rs:=rs) (s0:=s) (S:=ce S i) (t:=t) (k:=i+1) (l.length - (i+1)) (fun j h1 h2 ⟨h3,h4⟩=>by
   have hj:j < l.length:=by omega
   have hne:j≠i:=by omega
   simp only [ce,hne,if_false] at h3
   rcases hst j hj hne with ⟨h,_⟩ | ⟨_,h⟩ | h
   ·omega
   ·rw [h] at h3; cases h3
   ·rw [gc (Zf hj)] at h4
    exact h.d2 t hd h4)
  rw [show i+1+(l.length - (i+1))=l.length by omega] at e1
  rw [e1]
  have e2:tvX l rs s (ce S i) (i+1) t=ri.v:=by
   simp only [tvX,gc hoi,Pd hri,ce,if_true,hd,and_self]
  rw [e2,hd]
  simp [kr,upd]
 ·have e1:kr (tvX l rs s S l.length) oi.dst ri.v t=tvX l rs s S l.length t:=by
   cases hdd:oi.dst with
   | none=>rfl
   | some d=>
    rw [hdd] at hd
    have:Nat.beq t d=false:=by
     cases hb:Nat.beq t d with
     | false=>rfl
     | true=>exact absurd (by rw [Zg hb]) hd
    simp [kr,upd,this]
  rw [e1]
  refine ku _ (fun j hj hdj=>?_)
  by_cases e:j=i
  ·subst e; rw [gc hoi] at hdj; exact absurd hdj hd
  ·simp [ce,e]
theorem Ll (hc:DrawOk l rs) (hlen:rs.length=l.length) (hfact:∀ (k:Nat) (o:Oper) (r:Rc),l[k]? = some o->rs[k]? = some r->FactX P N l.toArray o r (jk l rs k s)) (hS:dw l.toArray S) (hi:i < l.length) (hoi:l[i]? = some oi) (hri:rs[i]? = some ri) (hSi:S i=false) (hready:∀ j∈bv oi,S j=true) (id:Nat):(if ri.D id=true then ri.η id else hvX rs s S l.length id)=hvX rs s (ce S i) l.length id:=by
 have hst:=fun j (hj:j < l.length) (hne:j≠i)=>s8 hc hS hi hoi hri hSi hready hne (Zf hj) (Zf (show j < rs.length by omega))
 by_cases hd:ri.D id=true
 ·rw [if_pos hd]
  have e1:=mq (rs:=rs) (s0:=s) (S:=ce S i) (id:=id) (k:=i+1) (l.length - (i+1)) (fun j h1 h2 ⟨h3,h4⟩=>by
   have hj:j < l.length:=by omega
   have hne:j≠i:=by omega
   simp only [ce,hne,if_false] at h3
   rcases hst j hj hne with ⟨h,_⟩ | ⟨_,h⟩ | h
   ·omega
   ·rw [h] at h3; cases h3
   ·rw [o5 (Zf (show j < rs.length by omega)),h.h3 id hd] at h4
    cases h4)
  rw [show i+1+(l.length - (i+1))=l.length by omega] at e1
  rw [e1]
  simp only [hvX,o5 hri,Cd hri,ce,if_true,hd,and_self]
 ·rw [if_neg hd]
  refine lb _ (fun j hj hdj=>?_)
  by_cases e:j=i
  ·subst e; rw [o5 hri] at hdj; exact absurd hdj hd
  ·simp [ce,e]
end
theorem Ct (hf:∀ (k:Nat) (o:Oper) (r:Rc),l[k]? = some o->rs[k]? = some r->FactX P N l.toArray o r (jk l rs k s)) (hlen:rs.length=l.length):∀ m k,k+m<=l.length->(jk l rs k s).u<=(jk l rs (k+m) s).u
 | 0,_,_=>Nat.le_refl _
 | m+1,k,h=>by
  have ih:=Ct hf hlen m k (by omega)
  have ho:l[k+m]? = some (l[k+m]'(by omega)):=Zf (by omega)
  have hr:rs[k+m]? = some (rs[k+m]'(by omega)):=Zf (by omega)
  have e:jk l rs (k+(m+1)) s=rz (l[k+m]'(by omega)) (rs[k+m]'(by omega)) (jk l rs (k+m) s):=kb l rs (k+m) s _ _ ho hr
  rw [e]
  have h1:=hf _ _ _ ho hr
  have h2:=h1.u
  have h3:=h1.fits.le
  show _<=(rs[k+m]'(by omega)).u
  omega
/-- The state in which just the operations of S have run. -/
structure InX (DS:List Deferred) (RD WD:Nat->Prop) (N:Nat) (l:List Oper) (rs:List Rc) (s:St) (M u':Nat) (C1:Ctx) (S:Nat->Bool) (C:Ctx) (a:Act):Prop where
 rel:SRelX DS RD M N C ⟨tvX l rs s S l.length,hvX rs s S l.length,u'⟩ a
 closed:dw l.toArray S
 used:∀ id,C.U id->C1.U id\/∃ k,k < l.length/\S k=true/\DX rs k id=true
 fr:FrX WD C1 C
theorem ry.regionD {RD WD:Nat->Prop} {M:Nat} {Q:Exit->St->Prop} {id:Nat} (hm:P.follows .mixedOrders=true) (hseq:SeqX P N l.toArray l s rs s') (hc:DrawOk l rs) (hinn:∀ r∈rs,Inn RD WD M r) (h:Q .normal s'):ry P RD WD M N (.region id l.toArray true) Q s:=by
 obtain ⟨hlen,hend,hfact⟩:=hseq.facts
 intro F hF q DS C0 a0 hr0
 obtain ⟨hg1,he1⟩:=gz hr0.good
 have hf1:FrX WD C0 { C0 with w:=C0.w.drew }:=⟨he1,fun _ _=>rfl,fun _ h=>.inl h⟩
 have hη1:({ C0 with w:=C0.w.drew }:Ctx).η=C0.η:=rfl
 have hU1:({ C0 with w:=C0.w.drew }:Ctx).U=C0.U:=rfl
 have hw:({ C0 with w:=C0.w.drew }:Ctx).w={ C0.w with drawn:=C0.w.drawn+1 }:=rfl
 generalize ({ C0 with w:=C0.w.drew }:Ctx)=C1 at hg1 he1 hf1 hη1 hU1 hw
 have hmono:∀ k k',k<=k'->k'<=l.length->(jk l rs k s).u<=(jk l rs k' s).u:=fun k k' h1 h2=>by
  have:=Ct hfact hlen (k' - k) k (by omega)
  rwa [show k+(k' - k)=k' by omega] at this
 have hge:∀ k,k < l.length->l[k]? = some (l[k]!)/\∃ r,rs[k]? = some r:=fun k hk=>by
  have:k < rs.length:=by omega
  exact ⟨by simp [hk],rs[k],Zf this⟩
 have hnext:∀ k o r,l[k]? = some o->rs[k]? = some r->(jk l rs (k+1) s).u=r.u:=fun k o r ho hr=>by
  rw [kb l rs k s o r ho hr]; rfl
 have hDlt:∀ k o r,k < l.length->l[k]? = some o->rs[k]? = some r->∀ id,r.D id=true->id < (jk l rs (k+1) s).u:=by
  intro k o r hk ho hr id hid
  rw [hnext k o r ho hr]
  have hf:=hfact k o r ho hr
  have:=hf.fits.le
  rcases Rc.D_iff.1 hid with h1 | h1
  ·have:=hf.fits.low id (hf.fits.sub id h1); omega
  ·exact h1.2
 have hfin:∀ (li:Array Bool) (C:Ctx) (a:Act),li.size=l.length->InX DS RD WD N l rs s M s'.u C1 (fun k=>li.getD k false) C a->Region.ready .any l.toArray li=[] ->
   ∃ s'' C',Q .normal s''/\C'.w=C.w/\SRelX DS RD M N C' s'' a/\FrX WD C0 C':=by
  intro li C a hl hin hr
  have hall:∀ k,k < l.length->li.getD k false=true:=by
   intro k
   induction k using Nat.strongRecOn with
   | ind k ih=>
    intro hk
    cases hck:li.getD k false with
    | true=>rfl
    | false=>
     exfalso
     obtain ⟨ho,hrk⟩:=hge k hk
     have:k∈Region.ready .any l.toArray li:=by
      rw [mem_ready]
      have hkl:k < li.size:=by omega
      refine ⟨by simpa [Array.getD,hkl] using hck,l[k]!,by simpa using ho,fun e he hb=>?_⟩
      have hmem:e.on∈bv (l[k]!):=List.mem_map.2 ⟨e,List.mem_filter.2 ⟨by simpa using he,hb⟩,rfl⟩
      have hlt:=(hc.op k _ ho).1 e.on hmem
      exact ih e.on hlt (by omega)
     rw [hr] at this
     simp at this
  have e1:tvX l rs s (fun k=>li.getD k false) l.length=s'.τ:=by
   rw [hend,(i8 hfact l.length (Nat.le_refl _) hlen).1]
   funext t
   exact ku _ (fun j hj _=>hall j hj)
  have e2:hvX rs s (fun k=>li.getD k false) l.length=s'.η:=by
   rw [hend,(i8 hfact l.length (Nat.le_refl _) hlen).2]
   funext id
   exact lb _ (fun j hj _=>hall j hj)
  have hrel:=hin.rel
  rw [e1,e2] at hrel
  exact ⟨s',C,h,rfl,hrel,hf1.trans hin.fr⟩
 have key:∀ (fuel:Nat) (li:Array Bool) (C:Ctx) (a:Act),li.size=l.length->(List.range l.length).countP (fun k=>!li.getD k false)<=fuel->InX DS RD WD N l rs s M s'.u C1 (fun k=>li.getD k false) C a ->
   wpAnyIn F q P .any l.toArray (fun e a' w'=>∃ s'' C',Q e s''/\C'.w=w'/\SRelX DS RD M N C' s'' a'/\FrX WD C0 C') fuel li a C.w:=by
  intro fuel
  induction fuel with
  | zero=>
   intro li C a hl hcnt hin
   have hr:Region.ready .any l.toArray li=[]:=by
    rw [List.eq_nil_iff_forall_not_mem]
    intro k hk
    rw [mem_ready] at hk
    obtain ⟨h1,o,ho,_⟩:=hk
    have hkl:k < l.length:=by have:=(Array.getElem?_eq_some_iff.1 ho).1; simpa using this
    have:=List.countP_eq_zero.1 (Nat.le_zero.1 hcnt) k (List.mem_range.2 hkl)
    have hkl':k < li.size:=by omega
    simp [Array.getD,hkl'] at this h1
    rw [this] at h1; cases h1
   exact ⟨hr,hfin li C a hl hin hr⟩
  | succ fuel ih=>
   intro li C a hl hcnt hin
   refine ⟨hfin li C a hl hin,fun i hi=>?_⟩
   rw [mem_ready] at hi
   obtain ⟨h1,oi,ho,hdeps⟩:=hi
   have hil:i < l.length:=by have:=(Array.getElem?_eq_some_iff.1 ho).1; simpa using this
   have hill:i < li.size:=by omega
   have hSi:li.getD i false=false:=by simpa [Array.getD,hill] using h1
   have hoi:l[i]? = some oi:=by simpa using ho
   obtain ⟨_,ri,hri⟩:=hge i hil
   have hready:∀ j∈bv oi,li.getD j false=true:=by
    intro j hj
    obtain ⟨e,he,rfl⟩:=List.mem_map.1 hj
    obtain ⟨he1,he2⟩:=List.mem_filter.1 he
    exact hdeps e (by simpa using he1) he2
   have hset:(fun k=>(li.setIfInBounds i true).getD k false)=ce (fun k=>li.getD k false) i:=by
    funext k
    unfold ce
    by_cases e:k=i
    ·subst e; simp [Array.getD,hill]
    ·rw [if_neg e]; exact getD_set_ne false (fun h=>e h.symm)
   have hcount:(List.range l.length).countP (fun k=>!(li.setIfInBounds i true).getD k false)<=fuel:=by
    have hlt:(List.range l.length).countP (fun k=>!(li.setIfInBounds i true).getD k false) < (List.range l.length).countP (fun k=>!li.getD k false):=by
     have e1:∀ k,(li.setIfInBounds i true).getD k false=ce (fun k=>li.getD k false) i k:=fun k=>congrFun hset k
     simp only [e1]
     refine ni (List.mem_range.2 hil) (by simp [hSi]) (by simp [ce]) (fun k hk=>?_)
     simp only [ce]
     split <;> simp
    omega
   have hlooks:∀ t∈oi.looksAt l.toArray,tvX l rs s (fun k=>li.getD k false) l.length t=(jk l rs i s).τ t:=fun t ht=>Jt hc hlen hfact hin.closed hil hoi hri hSi hready ht
   have hclosed:dw l.toArray (ce (fun k=>li.getD k false) i):=by
    intro k o hk hs j hj
    unfold ce at hs ⊢
    by_cases e:j=i
    ·simp [e]
    ·rw [if_neg e]
     by_cases e1:k=i
     ·subst e1
      rw [ho] at hk
      cases hk
      exact hready j hj
     ·rw [if_neg e1] at hs
      exact hin.closed k o hk hs j hj
   have hfi:=hfact i oi ri hoi hri
   have hinn_i:=hinn ri (List.mem_of_getElem? hri)
   have hτ:=Lj (s:=s) hc hlen hfact hin.closed hil hoi hri hSi hready
   have hη:=Ll (s:=s) hc hlen hfact hin.closed hil hoi hri hSi hready
   have husedN:∀ (C':Ctx),(∀ id,C'.U id->C.U id\/ri.D id=true)->∀ id,C'.U id->C1.U id\/∃ k,k < l.length/\ce (fun k=>li.getD k false) i k=true/\DX rs k id=true:=by
    intro C' hU id hid
    rcases hU id hid with h2 | h2
    ·rcases hin.used id h2 with h3 | ⟨k,hk,hSk,hk2⟩
     ·exact .inl h3
     ·exact .inr ⟨k,hk,by simp only [ce]; split <;> simp_all,hk2⟩
    ·exact .inr ⟨i,hil,by simp [ce],by rw [o5 hri]; exact h2⟩
   unfold wpOpIn
   simp only [ho]
   rcases hfi.how with ⟨hwt,hL⟩ | ⟨hwt,hv,hF0,hu0⟩
   ·rw [jg (s:=⟨tvX l rs s (fun k=>li.getD k false) l.length,hvX rs s (fun k=>li.getD k false) l.length,s'.u⟩) ((jh hlooks).trans hwt) hin.rel (ic.guard hfi.dst)]
    simp only [if_true]
    refine Xl hF (ya hfi.dst) (hL C a hin.rel.good (fun x hx=>?_) (fun id hid=>?_) (fun id hle hlt hU=>?_) _ _ fun x C' hη' hUU hg' hev hvx=>?_)
    ·rw [<- uw hlooks hx]; exact hin.rel.eval x
    ·rw [hin.rel.η id (hinn_i.rd id hid)]; exact Vv hc hlen hfact hin.closed hil hoi hri hSi hready hid
    ·have hDi:ri.D id=true:=Rc.D_iff.2 (.inr ⟨hle,hlt⟩)
     have h0i:=hmono 0 i (by omega) (by omega)
     rw [fc] at h0i
     have hui:=hfi.u
     rcases hin.used _ hU with h3 | ⟨k,hk,hSk,hidk⟩
     ·rw [hU1] at h3
      exact hr0.free id (by omega) (by have:=hinn_i.u; omega) h3
     ·by_cases e:k=i
      ·subst e; rw [hSi] at hSk; cases hSk
      ·obtain ⟨hok,rk,hrk⟩:=hge k hk
       rw [o5 hrk] at hidk
       rcases s8 hc hin.closed hil hoi hri hSi hready e hok hrk with ⟨hlt',_⟩ | ⟨_,h4⟩ | h4
       ·have:=hDlt k _ _ hk hok hrk id hidk
        have:=hmono (k+1) i (by omega) (by omega)
        omega
       ·rw [h4] at hSk; cases hSk
       ·rw [h4.h3 id hDi] at hidk; cases hidk
    ·have hnew:∀ id,s'.u<=id->id < M->¬ C'.U id:=by
      intro id hle hlt hid
      rcases hUU id hid with h2 | h2
      ·exact hin.rel.free id hle hlt h2
      ·have:=hDlt i oi ri hil hoi hri id h2
       have:=hmono (i+1) l.length (by omega) (by omega)
       rw [<- hend] at this
       omega
     have hrel:=hin.rel.put hev hg' (η':=hvX rs s (ce (fun k=>li.getD k false) i) l.length) (fun id hid=>by rw [hη' id,<- hη id,hin.rel.η id hid]) hnew (ic.dst hfi.dst) hvx
     simp only at hrel
     rw [hτ] at hrel
     refine ih _ C' _ (by simpa using hl) hcount ?_
     rw [hset]
     exact ⟨hrel,hclosed,husedN C' hUU,hin.fr.trans ⟨hev,fun id hid=>by rw [hη' id,if_neg (fun hd=>hid (hinn_i.wd id hd))],fun id hid=>(hUU id hid).imp (fun h=>h) (hinn_i.wd id)⟩⟩
   ·rw [jg (s:=⟨tvX l rs s (fun k=>li.getD k false) l.length,hvX rs s (fun k=>li.getD k false) l.length,s'.u⟩) ((jh hlooks).trans hwt) hin.rel (ic.guard hfi.dst)]
    simp only [Bool.false_eq_true,if_false]
    have hD0:=hfi.skip_D ⟨hF0,hu0⟩
    have hrel:=hin.rel.put (Ev.refl C) hin.rel.good (η':=hvX rs s (ce (fun k=>li.getD k false) i) l.length) (u':=s'.u) (fun id hid=>by rw [<- hη id,hD0 id]; exact hin.rel.η id hid) hin.rel.free (ic.dst hfi.dst) (VR.v C undef)
    simp only at hrel
    rw [<- hv,hτ] at hrel
    refine ⟨fun _ _=>hF.fn _,ih _ C _ (by simpa using hl) hcount ?_⟩
    rw [hset]
    exact ⟨hrel,hclosed,husedN C (fun id h=>.inl h),hin.fr⟩
 refine wpIn_region_any hm ?_
 have e0:(fun k=>(Array.replicate l.toArray.size false).getD k false)=fun _=>false:=by
  funext k; simp [Array.getD]
 have hstart:InX DS RD WD N l rs s M s'.u C1 (fun _=>false) C1 a0:=by
  have e1:tvX l rs s (fun _=>false) l.length=s.τ:=by
   have:∀ m,tvX l rs s (fun _=>false) m=s.τ:=by
    intro m
    induction m with
    | zero=>rfl
    | succ m ih=>funext t; simp [tvX,ih]
   exact this _
  have e2:hvX rs s (fun _=>false) l.length=s.η:=by
   have:∀ m,hvX rs s (fun _=>false) m=s.η:=by
    intro m
    induction m with
    | zero=>rfl
    | succ m ih=>funext t; simp [hvX,ih]
   exact this _
  have h0n:=hmono 0 l.length (by omega) (Nat.le_refl _)
  rw [fc,<- hend] at h0n
  refine ⟨?_,fun k o _ hk=>(by cases hk),fun id hid=>.inl hid,FrX.refl _⟩
  rw [e1,e2]
  refine ⟨hg1,fun id hid=>by rw [hη1]; exact hr0.η id hid,fun id hle hlt hU=>?_,hr0.defers,hr0.size,fun t=>(hr0.τ t).mono hr0.good he1⟩
  rw [hU1] at hU
  have hle':s'.u<=id:=hle
  exact hr0.free id (by omega) hlt hU
 have:=key l.toArray.size (Array.replicate l.toArray.size false) C1 a0 (by simp) (by
  have:=List.countP_le_length (p:=fun k=>!(Array.replicate l.toArray.size false).getD k false) (l:=List.range l.length)
  simpa using this) (by rw [e0]; exact hstart)
 rw [hw] at this
 exact this
end
structure PairA (a:Nat) (oi oj:Oper) (ri rj:Rc) (ops:Array Oper):Prop where
 d1:∀ d,oi.dst=some d->d∉oj.looksAt ops
 d2:∀ d,oi.dst=some d->oj.dst≠some d
 d3:∀ d,oj.dst=some d->d∉oi.looksAt ops
 h1:∀ x,ri.D x=true->rj.F.testBit x=false\/(x=a/\∀ y,rj.D y=false)
 h2:∀ x,rj.D x=true->ri.F.testBit x=false\/(x=a/\∀ y,ri.D y=false)
 h3:∀ x,ri.D x=true->rj.D x=false
theorem PairA.symm {a:Nat} {oi oj:Oper} {ri rj:Rc} {ops:Array Oper} (h:PairA a oi oj ri rj ops):PairA a oj oi rj ri ops :=
 ⟨h.d3,fun d hd he=>h.d2 d he hd,h.d1,h.h2,h.h1,fun x hx=>by
  cases hy:ri.D x with
  | false=>rfl
  | true=>rw [h.h3 x hy] at hx; cases hx⟩
structure DrawA (P:Program) (s:St) (a:Nat) (l:List Oper) (rs:List Rc):Prop where
 pair:∀ (i k:Nat) (oi ok:Oper) (ri rk:Rc),i < k->l[i]? = some oi->l[k]? = some ok->rs[i]? = some ri->rs[k]? = some rk->Anc l.toArray k i\/PairA a oi ok ri rk l.toArray
 op:∀ (k:Nat) (ok:Oper),l[k]? = some ok->(∀ i∈bv ok,i < k)/\∀ cs b,ok.op≠.select cs b
 soft:∀ (i:Nat) (oi:Oper) (ri:Rc),l[i]? = some oi->rs[i]? = some ri->(∀ y,ri.D y=false)->ri.F.testBit a=true->∀ m,m<=l.length->va P oi (jk l rs i s).τ ((jk l rs i s).η.set a ((jk l rs m s).η a)) ri
section
variable {P:Program} {N:Nat} {l:List Oper} {rs:List Rc} {s s':St} {ri:Rc} {oi:Oper} {i sa:Nat} {S:Nat->Bool}
theorem Dn (hlen:rs.length=l.length) (id:Nat):∀ k,k<=l.length->∃ m,m<=l.length/\hvX rs s S k id=(jk l rs m s).η id
 | 0,_=>⟨0,Nat.zero_le _,by rw [fc]; rfl⟩
 | k+1,hk=>by
  simp only [hvX]
  by_cases h:S k=true/\DX rs k id=true
  ·rw [if_pos h]
   have ho:l[k]? = some (l[k]'(by omega)):=Zf (by omega)
   have hr:rs[k]? = some (rs[k]'(by omega)):=Zf (by omega)
   refine ⟨k+1,hk,?_⟩
   rw [kb l rs k s _ _ ho hr,Cd hr]
   rfl
  ·rw [if_neg h]
   exact Dn hlen id k (by omega)
theorem s9 (hc:DrawA P s sa l rs) (hS:dw l.toArray S) (hi:i < l.length) (hoi:l[i]? = some oi) (hri:rs[i]? = some ri) (hSi:S i=false) (hready:∀ j∈bv oi,S j=true)
  {j:Nat} (hne:j≠i) {oj:Oper} {rj:Rc} (hoj:l[j]? = some oj) (hrj:rs[j]? = some rj):(j < i/\S j=true)\/(i < j/\S j=false)\/PairA sa oi oj ri rj l.toArray:=by
 rcases Nat.lt_or_gt_of_ne hne with hlt | hgt
 ·rcases hc.pair j i oj oi rj ri hlt hoj hoi hrj hri with h | h
  ·left
   refine ⟨hlt,hS.anc h (fun o ho k hk=>?_)⟩
   simp only [List.getElem?_toArray] at ho
   rw [hoi] at ho
   cases ho
   exact hready k hk
  ·exact .inr (.inr h.symm)
 ·rcases hc.pair i j oi oj ri rj hgt hoi hoj hri hrj with h | h
  ·right; left
   refine ⟨hgt,?_⟩
   cases hSj:S j with
   | false=>rfl
   | true=>
    have:=hS.anc h (fun o ho k hk=>hS j o ho hSj k hk)
    rw [hSi] at this; cases this
  ·exact .inr (.inr h)
theorem Ju (hc:DrawA P s sa l rs) (hlen:rs.length=l.length) (hfact:∀ (k:Nat) (o:Oper) (r:Rc),l[k]? = some o->rs[k]? = some r->FactX P N l.toArray o r (jk l rs k s)) (hS:dw l.toArray S) (hi:i < l.length) (hoi:l[i]? = some oi) (hri:rs[i]? = some ri) (hSi:S i=false) (hready:∀ j∈bv oi,S j=true) {t:Nat} (ht:t∈oi.looksAt l.toArray):tvX l rs s S l.length t=(jk l rs i s).τ t:=by
 have hst:=fun j (hj:j < l.length) (hne:j≠i)=>s9 hc hS hi hoi hri hSi hready hne (Zf hj) (Zf (show j < rs.length by omega))
 rw [(i8 hfact i (by omega) hlen).1]
 have e1:=l5 (ops:=l) (rs:=rs) (s0:=s) (S:=S) (t:=t) (k:=i) (l.length - i) (fun j h1 h2 ⟨h3,h4⟩=>by
  have hj:j < l.length:=by omega
  by_cases e:j=i
  ·subst e; rw [hSi] at h3; cases h3
  ·rcases hst j hj e with ⟨h,_⟩ | ⟨_,h⟩ | h
   ·omega
   ·rw [h] at h3; cases h3
   ·rw [gc (Zf hj)] at h4
    exact h.d3 t h4 ht)
 rw [show i+(l.length - i)=l.length by omega] at e1
 rw [e1]
 refine ku i (fun j hj hd=>?_)
 have hj':j < l.length:=by omega
 rcases hst j hj' (by omega) with ⟨_,h⟩ | ⟨h,_⟩ | h
 ·exact h
 ·omega
 ·rw [gc (Zf hj')] at hd
  exact absurd ht (h.d3 t hd)
theorem Oz (hc:DrawA P s sa l rs) (hlen:rs.length=l.length) (hfact:∀ (k:Nat) (o:Oper) (r:Rc),l[k]? = some o->rs[k]? = some r->FactX P N l.toArray o r (jk l rs k s)) (hS:dw l.toArray S) (hi:i < l.length) (hoi:l[i]? = some oi) (hri:rs[i]? = some ri) (hSi:S i=false) (hready:∀ j∈bv oi,S j=true) {id:Nat} (ht:ri.F.testBit id=true) (hda:id=sa->¬ ∀ y,ri.D y=false):hvX rs s S l.length id=(jk l rs i s).η id:=by
 have hst:=fun j (hj:j < l.length) (hne:j≠i)=>s9 hc hS hi hoi hri hSi hready hne (Zf hj) (Zf (show j < rs.length by omega))
 rw [(i8 hfact i (by omega) hlen).2]
 have e1:=mq (rs:=rs) (s0:=s) (S:=S) (id:=id) (k:=i) (l.length - i) (fun j h1 h2 ⟨h3,h4⟩=>by
  have hj:j < l.length:=by omega
  by_cases e:j=i
  ·subst e; rw [hSi] at h3; cases h3
  ·rcases hst j hj e with ⟨h,_⟩ | ⟨_,h⟩ | h
   ·omega
   ·rw [h] at h3; cases h3
   ·rw [o5 (Zf (show j < rs.length by omega))] at h4
    rcases h.h2 id h4 with h5 | ⟨h5,h6⟩
    ·rw [h5] at ht; cases ht
    ·exact hda h5 h6)
 rw [show i+(l.length - i)=l.length by omega] at e1
 rw [e1]
 refine lb i (fun j hj hd=>?_)
 have hj':j < l.length:=by omega
 rcases hst j hj' (by omega) with ⟨_,h⟩ | ⟨h,_⟩ | h
 ·exact h
 ·omega
 ·rw [o5 (Zf (show j < rs.length by omega))] at hd
  rcases h.h2 id hd with h5 | ⟨h5,h6⟩
  ·rw [h5] at ht; cases ht
  ·exact absurd h6 (hda h5)
theorem Lk (hc:DrawA P s sa l rs) (hlen:rs.length=l.length) (hfact:∀ (k:Nat) (o:Oper) (r:Rc),l[k]? = some o->rs[k]? = some r->FactX P N l.toArray o r (jk l rs k s)) (hS:dw l.toArray S) (hi:i < l.length) (hoi:l[i]? = some oi) (hri:rs[i]? = some ri) (hSi:S i=false) (hready:∀ j∈bv oi,S j=true):kr (tvX l rs s S l.length) oi.dst ri.v=tvX l rs s (ce S i) l.length:=by
 have hst:=fun j (hj:j < l.length) (hne:j≠i)=>s9 hc hS hi hoi hri hSi hready hne (Zf hj) (Zf (show j < rs.length by omega))
 funext t
 by_cases hd:oi.dst=some t
 ·have e1:=l5 (ops:=l) (rs:=rs) (s0:=s) (S:=ce S i) (t:=t) (k:=i+1) (l.length - (i+1)) (fun j h1 h2 ⟨h3,h4⟩=>by
   have hj:j < l.length:=by omega
   have hne:j≠i:=by omega
   simp only [ce,hne,if_false] at h3
   rcases hst j hj hne with ⟨h,_⟩ | ⟨_,h⟩ | h
   ·omega
   ·rw [h] at h3; cases h3
   ·rw [gc (Zf hj)] at h4
    exact h.d2 t hd h4)
  rw [show i+1+(l.length - (i+1))=l.length by omega] at e1
  rw [e1]
  have e2:tvX l rs s (ce S i) (i+1) t=ri.v:=by
   simp only [tvX,gc hoi,Pd hri,ce,if_true,hd,and_self]
  rw [e2,hd]
  simp [kr,upd]
 ·have e1:kr (tvX l rs s S l.length) oi.dst ri.v t=tvX l rs s S l.length t:=by
   cases hdd:oi.dst with
   | none=>rfl
   | some d=>
    rw [hdd] at hd
    have:Nat.beq t d=false:=by
     cases hb:Nat.beq t d with
     | false=>rfl
     | true=>exact absurd (by rw [Zg hb]) hd
    simp [kr,upd,this]
  rw [e1]
  refine ku _ (fun j hj hdj=>?_)
  by_cases e:j=i
  ·subst e; rw [gc hoi] at hdj; exact absurd hdj hd
  ·simp [ce,e]
theorem Lm (hc:DrawA P s sa l rs) (hlen:rs.length=l.length) (hfact:∀ (k:Nat) (o:Oper) (r:Rc),l[k]? = some o->rs[k]? = some r->FactX P N l.toArray o r (jk l rs k s)) (hS:dw l.toArray S) (hi:i < l.length) (hoi:l[i]? = some oi) (hri:rs[i]? = some ri) (hSi:S i=false) (hready:∀ j∈bv oi,S j=true) (id:Nat):(if ri.D id=true then ri.η id else hvX rs s S l.length id)=hvX rs s (ce S i) l.length id:=by
 have hst:=fun j (hj:j < l.length) (hne:j≠i)=>s9 hc hS hi hoi hri hSi hready hne (Zf hj) (Zf (show j < rs.length by omega))
 by_cases hd:ri.D id=true
 ·rw [if_pos hd]
  have e1:=mq (rs:=rs) (s0:=s) (S:=ce S i) (id:=id) (k:=i+1) (l.length - (i+1)) (fun j h1 h2 ⟨h3,h4⟩=>by
   have hj:j < l.length:=by omega
   have hne:j≠i:=by omega
   simp only [ce,hne,if_false] at h3
   rcases hst j hj hne with ⟨h,_⟩ | ⟨_,h⟩ | h
   ·omega
   ·rw [h] at h3; cases h3
   ·rw [o5 (Zf (show j < rs.length by omega)),h.h3 id hd] at h4
    cases h4)
  rw [show i+1+(l.length - (i+1))=l.length by omega] at e1
  rw [e1]
  simp only [hvX,o5 hri,Cd hri,ce,if_true,hd,and_self]
 ·rw [if_neg hd]
  refine lb _ (fun j hj hdj=>?_)
  by_cases e:j=i
  ·subst e; rw [o5 hri] at hdj; exact absurd hdj hd
  ·simp [ce,e]
theorem As {RD WD:Nat->Prop} {M:Nat} {Q:Exit->St->Prop} {id:Nat} (hm:P.follows .mixedOrders=true) (hseq:SeqX P N l.toArray l s rs s') (hc:DrawA P s sa l rs) (hinn:∀ r∈rs,Inn RD WD M r) (h:Q .normal s'):ry P RD WD M N (.region id l.toArray true) Q s:=by
 obtain ⟨hlen,hend,hfact⟩:=hseq.facts
 intro F hF q DS C0 a0 hr0
 obtain ⟨hg1,he1⟩:=gz hr0.good
 have hf1:FrX WD C0 { C0 with w:=C0.w.drew }:=⟨he1,fun _ _=>rfl,fun _ h=>.inl h⟩
 have hη1:({ C0 with w:=C0.w.drew }:Ctx).η=C0.η:=rfl
 have hU1:({ C0 with w:=C0.w.drew }:Ctx).U=C0.U:=rfl
 have hw:({ C0 with w:=C0.w.drew }:Ctx).w={ C0.w with drawn:=C0.w.drawn+1 }:=rfl
 generalize ({ C0 with w:=C0.w.drew }:Ctx)=C1 at hg1 he1 hf1 hη1 hU1 hw
 have hmono:∀ k k',k<=k'->k'<=l.length->(jk l rs k s).u<=(jk l rs k' s).u:=fun k k' h1 h2=>by
  have:=Ct hfact hlen (k' - k) k (by omega)
  rwa [show k+(k' - k)=k' by omega] at this
 have hge:∀ k,k < l.length->l[k]? = some (l[k]!)/\∃ r,rs[k]? = some r:=fun k hk=>by
  have:k < rs.length:=by omega
  exact ⟨by simp [hk],rs[k],Zf this⟩
 have hnext:∀ k o r,l[k]? = some o->rs[k]? = some r->(jk l rs (k+1) s).u=r.u:=fun k o r ho hr=>by
  rw [kb l rs k s o r ho hr]; rfl
 have hDlt:∀ k o r,k < l.length->l[k]? = some o->rs[k]? = some r->∀ id,r.D id=true->id < (jk l rs (k+1) s).u:=by
  intro k o r hk ho hr id hid
  rw [hnext k o r ho hr]
  have hf:=hfact k o r ho hr
  have:=hf.fits.le
  rcases Rc.D_iff.1 hid with h1 | h1
  ·have:=hf.fits.low id (hf.fits.sub id h1); omega
  ·exact h1.2
 have hfin:∀ (li:Array Bool) (C:Ctx) (a:Act),li.size=l.length->InX DS RD WD N l rs s M s'.u C1 (fun k=>li.getD k false) C a->Region.ready .any l.toArray li=[] ->
   ∃ s'' C',Q .normal s''/\C'.w=C.w/\SRelX DS RD M N C' s'' a/\FrX WD C0 C':=by
  intro li C a hl hin hr
  have hall:∀ k,k < l.length->li.getD k false=true:=by
   intro k
   induction k using Nat.strongRecOn with
   | ind k ih=>
    intro hk
    cases hck:li.getD k false with
    | true=>rfl
    | false=>
     exfalso
     obtain ⟨ho,hrk⟩:=hge k hk
     have:k∈Region.ready .any l.toArray li:=by
      rw [mem_ready]
      have hkl:k < li.size:=by omega
      refine ⟨by simpa [Array.getD,hkl] using hck,l[k]!,by simpa using ho,fun e he hb=>?_⟩
      have hmem:e.on∈bv (l[k]!):=List.mem_map.2 ⟨e,List.mem_filter.2 ⟨by simpa using he,hb⟩,rfl⟩
      have hlt:=(hc.op k _ ho).1 e.on hmem
      exact ih e.on hlt (by omega)
     rw [hr] at this
     simp at this
  have e1:tvX l rs s (fun k=>li.getD k false) l.length=s'.τ:=by
   rw [hend,(i8 hfact l.length (Nat.le_refl _) hlen).1]
   funext t
   exact ku _ (fun j hj _=>hall j hj)
  have e2:hvX rs s (fun k=>li.getD k false) l.length=s'.η:=by
   rw [hend,(i8 hfact l.length (Nat.le_refl _) hlen).2]
   funext id
   exact lb _ (fun j hj _=>hall j hj)
  have hrel:=hin.rel
  rw [e1,e2] at hrel
  exact ⟨s',C,h,rfl,hrel,hf1.trans hin.fr⟩
 have key:∀ (fuel:Nat) (li:Array Bool) (C:Ctx) (a:Act),li.size=l.length->(List.range l.length).countP (fun k=>!li.getD k false)<=fuel->InX DS RD WD N l rs s M s'.u C1 (fun k=>li.getD k false) C a ->
   wpAnyIn F q P .any l.toArray (fun e a' w'=>∃ s'' C',Q e s''/\C'.w=w'/\SRelX DS RD M N C' s'' a'/\FrX WD C0 C') fuel li a C.w:=by
  intro fuel
  induction fuel with
  | zero=>
   intro li C a hl hcnt hin
   have hr:Region.ready .any l.toArray li=[]:=by
    rw [List.eq_nil_iff_forall_not_mem]
    intro k hk
    rw [mem_ready] at hk
    obtain ⟨h1,o,ho,_⟩:=hk
    have hkl:k < l.length:=by have:=(Array.getElem?_eq_some_iff.1 ho).1; simpa using this
    have:=List.countP_eq_zero.1 (Nat.le_zero.1 hcnt) k (List.mem_range.2 hkl)
    have hkl':k < li.size:=by omega
    simp [Array.getD,hkl'] at this h1
    rw [this] at h1; cases h1
   exact ⟨hr,hfin li C a hl hin hr⟩
  | succ fuel ih=>
   intro li C a hl hcnt hin
   refine ⟨hfin li C a hl hin,fun i hi=>?_⟩
   rw [mem_ready] at hi
   obtain ⟨h1,oi,ho,hdeps⟩:=hi
   have hil:i < l.length:=by have:=(Array.getElem?_eq_some_iff.1 ho).1; simpa using this
   have hill:i < li.size:=by omega
   have hSi:li.getD i false=false:=by simpa [Array.getD,hill] using h1
   have hoi:l[i]? = some oi:=by simpa using ho
   obtain ⟨_,ri,hri⟩:=hge i hil
   have hready:∀ j∈bv oi,li.getD j false=true:=by
    intro j hj
    obtain ⟨e,he,rfl⟩:=List.mem_map.1 hj
    obtain ⟨he1,he2⟩:=List.mem_filter.1 he
    exact hdeps e (by simpa using he1) he2
   have hset:(fun k=>(li.setIfInBounds i true).getD k false)=ce (fun k=>li.getD k false) i:=by
    funext k
    unfold ce
    by_cases e:k=i
    ·subst e; simp [Array.getD,hill]
    ·rw [if_neg e]; exact getD_set_ne false (fun h=>e h.symm)
   have hcount:(List.range l.length).countP (fun k=>!(li.setIfInBounds i true).getD k false)<=fuel:=by
    have hlt:(List.range l.length).countP (fun k=>!(li.setIfInBounds i true).getD k false) < (List.range l.length).countP (fun k=>!li.getD k false):=by
     have e1:∀ k,(li.setIfInBounds i true).getD k false=ce (fun k=>li.getD k false) i k:=fun k=>congrFun hset k
     simp only [e1]
     refine ni (List.mem_range.2 hil) (by simp [hSi]) (by simp [ce]) (fun k hk=>?_)
     simp only [ce]
     split <;> simp
    omega
   have hlooks:∀ t∈oi.looksAt l.toArray,tvX l rs s (fun k=>li.getD k false) l.length t=(jk l rs i s).τ t:=fun t ht=>Ju hc hlen hfact hin.closed hil hoi hri hSi hready ht
   have hclosed:dw l.toArray (ce (fun k=>li.getD k false) i):=by
    intro k o hk hs j hj
    unfold ce at hs ⊢
    by_cases e:j=i
    ·simp [e]
    ·rw [if_neg e]
     by_cases e1:k=i
     ·subst e1
      rw [ho] at hk
      cases hk
      exact hready j hj
     ·rw [if_neg e1] at hs
      exact hin.closed k o hk hs j hj
   have hfi:=hfact i oi ri hoi hri
   have hinn_i:=hinn ri (List.mem_of_getElem? hri)
   have hτ:=Lk (s:=s) hc hlen hfact hin.closed hil hoi hri hSi hready
   have hη:=Lm (s:=s) hc hlen hfact hin.closed hil hoi hri hSi hready
   have husedN:∀ (C':Ctx),(∀ id,C'.U id->C.U id\/ri.D id=true)->∀ id,C'.U id->C1.U id\/∃ k,k < l.length/\ce (fun k=>li.getD k false) i k=true/\DX rs k id=true:=by
    intro C' hU id hid
    rcases hU id hid with h2 | h2
    ·rcases hin.used id h2 with h3 | ⟨k,hk,hSk,hk2⟩
     ·exact .inl h3
     ·exact .inr ⟨k,hk,by simp only [ce]; split <;> simp_all,hk2⟩
    ·exact .inr ⟨i,hil,by simp [ce],by rw [o5 hri]; exact h2⟩
   unfold wpOpIn
   simp only [ho]
   rcases hfi.how with ⟨hwt,hL⟩ | ⟨hwt,hv,hF0,hu0⟩
   ·rw [jg (s:=⟨tvX l rs s (fun k=>li.getD k false) l.length,hvX rs s (fun k=>li.getD k false) l.length,s'.u⟩) ((jh hlooks).trans hwt) hin.rel (ic.guard hfi.dst)]
    simp only [if_true]
    obtain ⟨η2,hL2,hη2⟩:∃ η2,va P oi (jk l rs i s).τ η2 ri/\∀ id,ri.F.testBit id=true->hvX rs s (fun k=>li.getD k false) l.length id=η2 id:=by
     by_cases hso:(∀ y,ri.D y=false)/\ri.F.testBit sa=true
     ·obtain ⟨m,hm1,hm2⟩:=Dn (rs:=rs) (s:=s) (S:=fun k=>li.getD k false) hlen sa l.length (Nat.le_refl _)
      refine ⟨_,hc.soft i oi ri hoi hri hso.1 hso.2 m hm1,fun id hid=>?_⟩
      by_cases e:id=sa
      ·subst e; rw [ae]; exact hm2
      ·rw [am _ _ e]
       exact Oz hc hlen hfact hin.closed hil hoi hri hSi hready hid (fun e1=>absurd e1 e)
     ·exact ⟨_,hL,fun id hid=>Oz hc hlen hfact hin.closed hil hoi hri hSi hready hid (fun e1 h1=>hso ⟨h1,by rw [<- e1]; exact hid⟩)⟩
    refine Xl hF (ya hfi.dst) (hL2 C a hin.rel.good (fun x hx=>?_) (fun id hid=>?_) (fun id hle hlt hU=>?_) _ _ fun x C' hη' hUU hg' hev hvx=>?_)
    ·rw [<- uw hlooks hx]; exact hin.rel.eval x
    ·rw [hin.rel.η id (hinn_i.rd id hid)]; exact hη2 id hid
    ·have hDi:ri.D id=true:=Rc.D_iff.2 (.inr ⟨hle,hlt⟩)
     have h0i:=hmono 0 i (by omega) (by omega)
     rw [fc] at h0i
     have hui:=hfi.u
     rcases hin.used _ hU with h3 | ⟨k,hk,hSk,hidk⟩
     ·rw [hU1] at h3
      exact hr0.free id (by omega) (by have:=hinn_i.u; omega) h3
     ·by_cases e:k=i
      ·subst e; rw [hSi] at hSk; cases hSk
      ·obtain ⟨hok,rk,hrk⟩:=hge k hk
       rw [o5 hrk] at hidk
       rcases s9 hc hin.closed hil hoi hri hSi hready e hok hrk with ⟨hlt',_⟩ | ⟨_,h4⟩ | h4
       ·have:=hDlt k _ _ hk hok hrk id hidk
        have:=hmono (k+1) i (by omega) (by omega)
        omega
       ·rw [h4] at hSk; cases hSk
       ·rw [h4.h3 id hDi] at hidk; cases hidk
    ·have hnew:∀ id,s'.u<=id->id < M->¬ C'.U id:=by
      intro id hle hlt hid
      rcases hUU id hid with h2 | h2
      ·exact hin.rel.free id hle hlt h2
      ·have:=hDlt i oi ri hil hoi hri id h2
       have:=hmono (i+1) l.length (by omega) (by omega)
       rw [<- hend] at this
       omega
     have hrel:=hin.rel.put hev hg' (η':=hvX rs s (ce (fun k=>li.getD k false) i) l.length) (fun id hid=>by rw [hη' id,<- hη id,hin.rel.η id hid]) hnew (ic.dst hfi.dst) hvx
     simp only at hrel
     rw [hτ] at hrel
     refine ih _ C' _ (by simpa using hl) hcount ?_
     rw [hset]
     exact ⟨hrel,hclosed,husedN C' hUU,hin.fr.trans ⟨hev,fun id hid=>by rw [hη' id,if_neg (fun hd=>hid (hinn_i.wd id hd))],fun id hid=>(hUU id hid).imp (fun h=>h) (hinn_i.wd id)⟩⟩
   ·rw [jg (s:=⟨tvX l rs s (fun k=>li.getD k false) l.length,hvX rs s (fun k=>li.getD k false) l.length,s'.u⟩) ((jh hlooks).trans hwt) hin.rel (ic.guard hfi.dst)]
    simp only [Bool.false_eq_true,if_false]
    have hD0:=hfi.skip_D ⟨hF0,hu0⟩
    have hrel:=hin.rel.put (Ev.refl C) hin.rel.good (η':=hvX rs s (ce (fun k=>li.getD k false) i) l.length) (u':=s'.u) (fun id hid=>by rw [<- hη id,hD0 id]; exact hin.rel.η id hid) hin.rel.free (ic.dst hfi.dst) (VR.v C undef)
    simp only at hrel
    rw [<- hv,hτ] at hrel
    refine ⟨fun _ _=>hF.fn _,ih _ C _ (by simpa using hl) hcount ?_⟩
    rw [hset]
    exact ⟨hrel,hclosed,husedN C (fun id h=>.inl h),hin.fr⟩
 refine wpIn_region_any hm ?_
 have e0:(fun k=>(Array.replicate l.toArray.size false).getD k false)=fun _=>false:=by
  funext k; simp [Array.getD]
 have hstart:InX DS RD WD N l rs s M s'.u C1 (fun _=>false) C1 a0:=by
  have e1:tvX l rs s (fun _=>false) l.length=s.τ:=by
   have:∀ m,tvX l rs s (fun _=>false) m=s.τ:=by
    intro m
    induction m with
    | zero=>rfl
    | succ m ih=>funext t; simp [tvX,ih]
   exact this _
  have e2:hvX rs s (fun _=>false) l.length=s.η:=by
   have:∀ m,hvX rs s (fun _=>false) m=s.η:=by
    intro m
    induction m with
    | zero=>rfl
    | succ m ih=>funext t; simp [hvX,ih]
   exact this _
  have h0n:=hmono 0 l.length (by omega) (Nat.le_refl _)
  rw [fc,<- hend] at h0n
  refine ⟨?_,fun k o _ hk=>(by cases hk),fun id hid=>.inl hid,FrX.refl _⟩
  rw [e1,e2]
  refine ⟨hg1,fun id hid=>by rw [hη1]; exact hr0.η id hid,fun id hle hlt hU=>?_,hr0.defers,hr0.size,fun t=>(hr0.τ t).mono hr0.good he1⟩
  rw [hU1] at hU
  have hle':s'.u<=id:=hle
  exact hr0.free id (by omega) hlt hU
 have:=key l.toArray.size (Array.replicate l.toArray.size false) C1 a0 (by simp) (by
  have:=List.countP_le_length (p:=fun k=>!(Array.replicate l.toArray.size false).getD k false) (l:=List.range l.length)
  simpa using this) (by rw [e0]; exact hstart)
 rw [hw] at this
 exact this
end
def VRs (C:Ctx) (as:List AV) (vs:Array Value):Prop:=as.length=vs.size/\∀ i (h:i < as.length) (h':i < vs.size),VR C as[i] vs[i]
/-- What a call gives, and what it leaves of the blocks. -/
def Jz (P:Program) (f:FuncId) (args:List AV) (η:au) (r:Rc):Prop :=
 ∀ (C:Ctx) (vals:Array Value),Good C->VRs C args vals->(∀ id,r.F.testBit id=true->C.η id=η id)->(∀ id,r.u0<=id->id < r.u->¬ C.U id) ->
  Calls P f vals C.w (fun e w'=>∃ x C',e=.returned x/\C'.w=w'/\(∀ id,C'.η id=if r.D id=true then r.η id else C.η id)/\(∀ id,C'.U id->C.U id\/r.D id=true)/\Good C'/\Ev C C'/\VR C' r.v x)
section
variable {P:Program} {τ:Nat->AV} {η:au} {d:Option Tmp} {ty:TypeId} {pos:String} {af:Array Edge} {g:Option (Nat×Bool)}
theorem va.call {g0:Operand} {f:FuncId} {caps:List AV} {xs:Array Operand} {ats:Array TypeId} {r:Rc} (hb:co P f=true) (hg0:aev τ g0=.clo f caps) (hc:Jz P f (xs.toList.map (aev τ)++caps) η r) :
  va P ⟨d,.call { callee:=.value g0,args:=xs,argTypes:=ats },ty,pos,af,g⟩ τ η r:=by
 intro C a hg hxs hF hN K Q hK
 have h0:=hxs g0 (by simp [Op.operands,Call.operands])
 rw [hg0] at h0
 obtain ⟨vs,hv,hl,hi⟩:=h0.clo_inv
 have hargs:VRs C (xs.toList.map (aev τ)++caps) (xs.map a.eval++vs):=by
  refine ⟨by simp [hl],fun i h h'=>?_⟩
  by_cases hlt:i < xs.size
  ·have e1:(xs.toList.map (aev τ)++caps)[i]=aev τ xs[i]:=by
    rw [List.getElem_append_left (by simpa using hlt)]; simp
   have e2:(xs.map a.eval++vs)[i]=a.eval xs[i]:=by
    rw [Array.getElem_append_left (by simpa using hlt)]; simp
   rw [e1,e2]
   exact hxs _ (by simp [Op.operands,Call.operands])
  ·have e1:(xs.toList.map (aev τ)++caps)[i]=caps[i - xs.size]'(by simp at h; omega):=by
    rw [List.getElem_append_right (by simpa using hlt)]; simp
   have e2:(xs.map a.eval++vs)[i]=vs[i - xs.size]'(by simp at h'; omega):=by
    rw [Array.getElem_append_right (by simpa using hlt)]; simp
   rw [e1,e2]
   exact hi _ _ _
 have hrun:(execOp a.eval ⟨d,.call { callee:=.value g0,args:=xs,argTypes:=ats },ty,pos,af,g⟩).run P C.w=.ok (.enter f (xs.map a.eval++vs)) C.w:=by
  have e:(execOp a.eval ⟨d,.call { callee:=.value g0,args:=xs,argTypes:=ats },ty,pos,af,g⟩).run P C.w=(callFunc f (#[]++xs.map a.eval++vs)).run P C.w:=by
   have e0:execOp a.eval ⟨d,.call { callee:=.value g0,args:=xs,argTypes:=ats },ty,pos,af,g⟩=(do let dd <- Deferred.ofValue (a.eval g0) (xs.map a.eval); invoke dd.target dd.args):=rfl
   rw [e0,hv]
   rfl
  rw [e,eb hb]
  simp
 unfold Oper.wp
 rw [hrun]
 refine Calls.mono (hc C _ hg hargs hF hN) ?_
 rintro e w' ⟨x,C',rfl,rfl,h1,h2,h3,h4,h5⟩
 exact hK x C' h1 h2 h3 h4 h5
end
/-- What the function gives in a state. -/
def V4 (P:Program) (RD:Nat->Prop) (M N:Nat) (fn:Func) (s:St) (ret:AV):Prop :=
 ∀ DS C a,SRelX DS RD M N C s a->∃ x,(results fn a.tmps).run P C.w=.ok x C.w/\VR C ret x
theorem Jz.of_body {P:Program} {f:FuncId} {fn:Func} {c:Code} {N:Nat} {args:List AV} {η:au} {r:Rc} (hf:P.funcs[f]? = some fn) (hb:fn.body=some c) (hN:fn.ntmps=N) (hl:args.length<=N) {τ0:Nat->AV} (hτ0:τ0=f0 args) (hfit:Fits η r) (hηn:∀ id,r.u0<=id->η id=none)
  (h:ry P (fun id=>r.F.testBit id=true\/(r.u0<=id/\id < r.u)) (fun id=>r.D id=true) r.u N c (fun e s'=>(e=.normal\/e=.ret)/\(∀ id,r.D id=true->s'.η id=r.η id)/\V4 P (fun id=>r.F.testBit id=true\/(r.u0<=id/\id < r.u)) r.u N fn s' r.v) ⟨τ0,η,r.u0⟩):Jz P f args η r:=by
 intro C vals hg ⟨hlen,hv⟩ hF hNw
 subst hτ0
 have hnone:∀ id,r.u0<=id->id < r.u->C.η id=none:=fun id h1 h2=>by
  cases hb':C.η id with
  | none=>rfl
  | some b=>exact absurd (hg.used hb') (hNw id h1 h2)
 have hr:SRelX [] (fun id=>r.F.testBit id=true\/(r.u0<=id/\id < r.u)) r.u N C ⟨f0 args,η,r.u0⟩ { tmps:=vals++Array.replicate (fn.ntmps - vals.size) undef,defers:=[] }:=by
  refine ⟨hg,fun id hid=>hid.elim (hF id) (fun h=>(hnone id h.1 h.2).trans (hηn id h.1).symm),hNw,rfl,by simp; omega,fun t=>?_⟩
  simp only [Act.eval,f0]
  by_cases ht:t < args.length
  ·have h1:args.getD t (.v undef)=args[t]:=by simp [List.getD,ht]
   have h2:(vals++Array.replicate (fn.ntmps - vals.size) undef).getD t undef=vals[t]'(by omega):=by
    rw [Array.getD_eq_getD_getElem?,Array.getElem?_append_left (by omega)]
    simp [show t < vals.size by omega]
   rw [h1,h2]
   exact hv t ht (by omega)
  ·have h1:args.getD t (.v undef)=.v undef:=by simp [List.getD,List.getElem?_eq_none (Nat.le_of_not_lt ht)]
   have h2:(vals++Array.replicate (fn.ntmps - vals.size) undef).getD t undef=undef:=by
    rw [Array.getD_eq_getD_getElem?,Array.getElem?_append_right (by omega)]
    rw [Array.getElem?_replicate]
    split <;> rfl
   rw [h1,h2]
   exact VR.v _ _
 refine calls_of_wp hf hb (wpIn_wide.1 (Code.wpIn_mono ?_ (h Fence.wide FOk.wide 0 [] C _ hr)))
 rintro e a' w' ⟨s',C',⟨he,hη',ho⟩,rfl,hr',hfr⟩
 obtain ⟨x,h1,h2⟩:=ho [] C' a' hr'
 have hgive:∃ x' C'',(Ending.returned x)=.returned x'/\C''.w=C'.w/\(∀ id,C''.η id=if r.D id=true then r.η id else C.η id)/\(∀ id,C''.U id->C.U id\/r.D id=true)/\Good C''/\Ev C C''/\VR C'' r.v x':=by
  refine ⟨x,C',rfl,rfl,fun id=>?_,hfr.U,hr'.good,hfr.ev,h2⟩
  by_cases hd:r.D id=true
  ·rw [if_pos hd,<- hη' id hd]
   refine hr'.η id ?_
   rcases Rc.D_iff.1 hd with h3 | h3
   ·exact .inl (hfit.sub id h3)
   ·exact .inr h3
  ·rw [if_neg hd]
   exact hfr.η id hd
 rcases he with rfl | rfl
 ·exact ⟨hr'.defers,x,h1,hgive⟩
 ·exact ⟨hr'.defers,x,h1,hgive⟩
/-- A function that is lr plain values, called from where nothing is known. -/
theorem Fm {P:Program} {f:FuncId} {args:List AV} {r:Rc} {ret:AV} {fp:List Nat} (hfit:Fits pu r) (hr:FzP fp r.η r.v ret) (h:Jz P f args pu r):ep P f args ret:=by
 intro T w vals ⟨hlen,hv⟩ hT
 let C:Ctx:=⟨fun _=>(0,0),fun _=>0,pu,fun _=>False,T,w⟩
 have hno:∀ k,¬ C.mine k:=by rintro k ⟨_,⟨_,h,_⟩,_⟩; cases h
 have hg:Good C:={ used:=fun h=>(by cases h),obj:=fun h=>(by cases h),blk:=fun h=>(by cases h),inj:=fun h _=>(by obtain ⟨_,h,_⟩:=h; cases h),tok:=hT,apart:=fun h _=>hno _ h,tight:=fun h=>(by cases h) }
 refine Calls.mono (h C vals hg ⟨hlen,fun i h h'=>.imm (hv i h h')⟩ (fun id hid=>rfl) (fun id _ _ hU=>hU)) ?_
 rintro e w' ⟨x,C',rfl,rfl,h1,h2,hg',hev,hx⟩
 have hη:C'.η=r.η:=by
  funext id
  rw [h1 id]
  by_cases hd:r.D id=true
  ·rw [if_pos hd]
  ·rw [if_neg hd,hfit.same id (by simpa using hd)]
 have h2:=hr C' hg' (fun id _=>by rw [hη]) x hx
 refine ⟨x,fun b=>C'.T b\/C'.mine b,rfl,h2.mono (fun b hb=>hb.imp (fun h=>h) bf) (fun _ _=>rfl),fun b hb=>.inl (hev.T b hb),?_,?_,⟨hev.os,hev.tape,hev.output,hev.size,fun k hk=>hev.keep k hk (hno k)⟩⟩
 ·rintro b (hb | hb)
  ·rcases hev.Tnew b hb with h | h | h
   ·exact .inl h
   ·exact absurd h (hno b)
   ·exact .inr h
  ·rcases hev.mine b hb with h | h
   ·exact absurd h (hno b)
   ·exact .inr h
 ·rintro b (hb | hb)
  ·exact hg'.tlt hb
  ·exact dt hg' hb
def V5 (P:Program) (RD:Nat->Prop) (M N:Nat) (s:St) (r:ResultVar) (ret:AV):Prop :=
 ∀ DS C a,SRelX DS RD M N C s a->∃ x,(C7 a.tmps r).run P C.w=.ok x C.w/\VR C ret x
section
variable {P:Program} {RD:Nat->Prop} {M N:Nat} {s:St} {fn:Func}
theorem V5.tmp {t:Nat} {v:AV} (h:s.τ t=v):V5 P RD M N s (.tmp t) v:=by
 subst h
 exact fun DS C a hs=>⟨a.tmps.getD t undef,by simp [C7],hs.τ t⟩
theorem Fo {v:AV} {t ty id ver o:Nat} {b:Blk} (ht:el P ty=some none) (hx:s.τ t=.ptr id ver o) (hb:s.η id=some b) (hR:RD id) (hv:b.ver=ver) (hn:b.nilp=false) (hc:b.cs[o]? = some v):V5 P RD M N s (.cell t ty) v:=by
 intro DS C a hs
 have hb':C.η id=some b:=by rw [hs.η id hR]; exact hb
 have h1:=hs.τ t
 rw [hx] at h1
 have h2:=h1.ptr_inv hb' hv
 simp only [Act.eval] at h2
 obtain ⟨hlt,he⟩:=List.getElem?_eq_some_iff.1 hc
 obtain ⟨y,hy,hvy⟩:=hs.good.cell hb' hn hlt
 rw [he] at hvy
 have hload:=og (P:=P) ht (b:=(C.ρ id).1) (o:=(C.ρ id).2+o) (w:=C.w) hy
 refine ⟨y,?_,hvy⟩
 simp only [Instr.loadAt,Instr.sureAddr,Sem.run_bind,Sem.run_pure,Result.andThen_ok] at hload
 simp only [C7,h2,asAddr,Sem.run_bind,Sem.run_pure,Result.andThen_ok]
 exact hload
theorem V5.cellN {t ty n id ver o:Nat} {b:Blk} {ds:List AV} (ht:el P ty=some (some n)) (hx:s.τ t=.ptr id ver o) (hb:s.η id=some b) (hR:RD id) (hv:b.ver=ver) (hn:b.nilp=false) (hd:cn o n b.cs=some ds):V5 P RD M N s (.cell t ty) (.agg ds):=by
 intro DS C a hs
 have hb':C.η id=some b:=by rw [hs.η id hR]; exact hb
 have h1:=hs.τ t
 rw [hx] at h1
 have h2:=h1.ptr_inv hb' hv
 simp only [Act.eval] at h2
 obtain ⟨hl,rfl⟩:=dk _ _ _ _ hd
 obtain ⟨fcell,hfc⟩:=fe (n:=n) (p:=fun j y=>C.w.cell? ⟨(C.ρ id).1,(C.ρ id).2+o+j,none⟩=some y/\VR C (b.cs.getD (o+j) .unk) y) (fun j hj=>by
  obtain ⟨y,hy,hvy⟩:=hs.good.cell hb' hn (j:=o+j) (by omega)
  refine ⟨y,by rw [<- hy]; congr 2; omega,?_⟩
  have:b.cs.getD (o+j) .unk=b.cs[o+j]'(by omega):=by simp [List.getD,show o+j < b.cs.length by omega]
  rw [this]; exact hvy)
 have hlen:((List.range n).map fcell).length=n:=by simp
 have hload:=kv (P:=P) ht (b:=(C.ρ id).1) (o:=(C.ρ id).2+o) (w:=C.w) hlen (fun j v hj=>by
  obtain ⟨hlt,he⟩:=List.getElem?_eq_some_iff.1 hj
  simp only [List.getElem_map,List.getElem_range] at he
  subst he
  exact (hfc j (by simpa using hlt)).1)
 refine ⟨.agg ((List.range n).map fcell).toArray,?_,.agg (by simp; omega) (fun i hi hi'=>?_)⟩
 ·simp only [Instr.loadAt,Instr.sureAddr,Sem.run_bind,Sem.run_pure,Result.andThen_ok] at hload
  simp only [C7,h2,asAddr,Sem.run_bind,Sem.run_pure,Result.andThen_ok]
  exact hload
 ·have hin:i < n:=by simpa using hi'
  simp only [List.getElem_toArray,List.getElem_map,List.getElem_range]
  have:=(hfc i hin).2
  have e:(List.take n (List.drop o b.cs))[i]=b.cs.getD (o+i) .unk:=by
   simp [List.getD,show o+i < b.cs.length by omega]
  rw [e]; exact this
inductive AllX (P:Program) (RD:Nat->Prop) (M N:Nat) (s:St):List ResultVar->List AV->Prop where
 | nil:AllX P RD M N s [] []
 | cons {r:ResultVar} {v:AV} {l:List ResultVar} {vs:List AV}:V5 P RD M N s r v->AllX P RD M N s l vs->AllX P RD M N s (r :: l) (v :: vs)
theorem AllX.run {l:List ResultVar} {vs:List AV} (h:AllX P RD M N s l vs):∀ DS C a,SRelX DS RD M N C s a->∃ xs:List Value,(l.mapM (C7 a.tmps)).run P C.w=.ok xs C.w/\vs.length=xs.length/\∀ i (h:i < vs.length) (h':i < xs.length),VR C vs[i] xs[i]:=by
 induction h with
 | nil=>intro DS C a hs; exact ⟨[],by simp,rfl,fun i h=>absurd h (by simp)⟩
 | cons h1 _ ih=>
  intro DS C a hs
  obtain ⟨x,e1,v1⟩:=h1 DS C a hs
  obtain ⟨xs,e2,hl,v2⟩:=ih DS C a hs
  refine ⟨x :: xs,by simp [Sem.run_bind,Result.andThen,e1,e2],by simp [hl],fun i h h'=>?_⟩
  cases i with
  | zero=>exact v1
  | succ i=>exact v2 i (by simpa using h) (by simpa using h')
def Sp:List AV->AV
 | [v]=>v
 | vs=>.tup vs
theorem rr {vs:List AV} (h:AllX P RD M N s fn.results.toList vs):V4 P RD M N fn s (Sp vs):=by
 intro DS C a hs
 obtain ⟨xs,e,hl,hv⟩:=h.run DS C a hs
 have hh:results fn a.tmps=(do let vs <- fn.results.mapM (C7 a.tmps); pure (if h:vs.size=1 then vs[0] else .tuple vs)):=by
  unfold results
  congr 1
 have hm:(fn.results.mapM (C7 a.tmps)).run P C.w=.ok xs.toArray C.w:=by
  rw [Array.mapM_eq_mapM_toList]
  simp [Sem.run_bind,Result.andThen,e]
 refine ⟨if h:xs.toArray.size=1 then xs.toArray[0] else .tuple xs.toArray,?_,?_⟩
 ·rw [hh,Sem.run_bind,hm]
  rfl
 ·match vs,xs,hl,hv with
  | [v],[x],_,hv=>exact hv 0 (by simp) (by simp)
  | [],[],_,_=>exact .tup rfl (fun i h=>absurd h (by simp))
  | v1 :: v2 :: vs,x1 :: x2 :: xs,hl,hv=>
   have:¬ ((x1 :: x2 :: xs).toArray.size=1):=by simp
   rw [dif_neg this]
   exact .tup (by simpa using hl) (fun i h h'=>by simpa using hv i h (by simpa using h'))
end
def kj {α:Type} (n:Nat) (k:Nat->Option α):Option α:=match n with
 | 0=>k 0
 | .succ m=>k (.succ m)
theorem il {α:Type} (n:Nat) (k:Nat->Option α):kj n k=k n:=by cases n <;> rfl
structure ESX where
 t:Tri AV
 h:Tri (Option Blk)
 u:Nat
 rd:Nat
 wr:Nat
def ESX.st (E:ESX):St:=⟨bm E.t,bc E.h,E.u⟩
structure Rx where
 F:Nat
 W:Nat
 u0:Nat
 u:Nat
 h:Tri (Option Blk)
 v:AV
def Rx.rc (r:Rx):Rc:=⟨r.F,r.W,r.u0,r.u,bc r.h,r.v⟩
def J4 (h:Tri (Option Blk)) (u:Nat):Prop:=∀ id,u<=id->bc h id=none
def df:=Oper->ESX->Option Rx
def df.Ok (P:Program) (f:df):Prop:=∀ o E r,J4 E.h E.u->f o E=some r->r.u0=E.u/\Fits (bc E.h) r.rc/\va P o (bm E.t) (bc E.h) r.rc
/-- A value brought to the form of a constructor. -/
def Ip {α:Type} (i:Int) (k:Int->Option α):Option α:=match i with
 | .ofNat n=>kj n fun n=>k (.ofNat n)
 | .negSucc n=>kj n fun n=>k (.negSucc n)
theorem Im {α:Type} (i:Int) (k:Int->Option α):Ip i k=k i:=by cases i <;> simp [Ip,il]
def Oi {α:Type} (b:Bool) (k:Bool->Option α):Option α:=match b with
 | true=>k true
 | false=>k false
theorem Iq {α:Type} (b:Bool) (k:Bool->Option α):Oi b k=k b:=by cases b <;> rfl
def Ir {α:Type} (v:AV) (k:AV->Option α):Option α:=match v with
 | .v x=>match x with
  | .int j i=>Ip i fun i=>k (.v (.int j i))
  | .bool b=>Oi b fun b=>k (.v (.bool b))
  | x=>k (.v x)
 | .ptr a b c=>kj a fun a=>kj b fun b=>kj c fun c=>k (.ptr a b c)
 | .sl a b c d=>kj a fun a=>kj b fun b=>kj c fun c=>kj d fun d=>k (.sl a b c d)
 | .tree n rows=>k (.tree n rows)
 | .tp cs o=>kj o fun o=>k (.tp cs o)
 | .clo f caps=>k (.clo f caps)
 | .agg cs=>k (.agg cs)
 | .tup vs=>k (.tup vs)
 | .unk=>k .unk
 | .mp a b=>kj a fun a=>kj b fun b=>k (.mp a b)
 | .it a b=>kj a fun a=>kj b fun b=>k (.it a b)
theorem zw {α:Type} (v:AV) (k:AV->Option α):Ir v k=k v:=by
 unfold Ir
 split
 ·split <;> simp [Im,Iq]
 all_goals simp [il]
def ESX.step (E:ESX) (dst:Option Nat) (r:Rx):Option ESX :=
 kj (Nat.lor E.rd r.F) fun rd=>kj (Nat.lor E.wr r.W) fun wr=>kj r.u fun u=>match dst with
  | none=>some ⟨E.t,r.h,u,rd,wr⟩
  | some d=>Ir r.v fun v=>match Tri.set 24 E.t d v with
   | some t=>some ⟨t,r.h,u,rd,wr⟩
   | none=>none
theorem u7 {E E':ESX} {o:Oper} {r:Rx} (h:E.step o.dst r=some E'):E'.st=rz o r.rc E.st/\E'.h=r.h/\E'.u=r.u/\E'.rd=E.rd ||| r.F/\E'.wr=E.wr ||| r.W:=by
 unfold ESX.step at h
 rw [il,il,il] at h
 cases e2:o.dst with
 | none=>
  rw [e2] at h
  simp only [Zh] at h
  subst h
  exact ⟨by simp only [ESX.st,rz,e2,kr,Rx.rc],rfl,rfl,rfl,rfl⟩
 | some d=>
  rw [e2] at h
  simp only [zw] at h
  cases e3:Tri.set 24 E.t d r.v with
  | none=>rw [e3] at h; cases h
  | some t1=>
   rw [e3] at h
   simp only [Zh] at h
   subst h
   exact ⟨by simp only [ESX.st,rz,e2,kr,Rx.rc,yy e3],rfl,rfl,rfl,rfl⟩
structure Mono (E E':ESX):Prop where
 rd:∀ id,E.rd.testBit id=true->E'.rd.testBit id=true
 wr:∀ id,E.wr.testBit id=true->E'.wr.testBit id=true
 u:E.u<=E'.u
 h:∀ id,id < E.u->E'.wr.testBit id=false->bc E'.h id=bc E.h id
 low:J4 E.h E.u->J4 E'.h E'.u
 sub:(∀ id,E.wr.testBit id=true->E.rd.testBit id=true)->∀ id,E'.wr.testBit id=true->E'.rd.testBit id=true
 lrd:(∀ id,E.rd.testBit id=true->id < E.u)->∀ id,E'.rd.testBit id=true->id < E'.u
theorem Mono.refl (E:ESX):Mono E E:=⟨fun _ h=>h,fun _ h=>h,Nat.le_refl _,fun _ _ _=>rfl,fun h=>h,fun h=>h,fun h=>h⟩
theorem Mono.trans {A B C:ESX} (h:Mono A B) (k:Mono B C):Mono A C where
 rd:=fun id hid=>k.rd id (h.rd id hid)
 wr:=fun id hid=>k.wr id (h.wr id hid)
 u:=Nat.le_trans h.u k.u
 h:=fun id hid hw=>by
  have:B.wr.testBit id=false:=by
   cases hb:B.wr.testBit id with
   | false=>rfl
   | true=>rw [k.wr id hb] at hw; cases hw
  rw [k.h id (Nat.lt_of_lt_of_le hid h.u) hw,h.h id hid this]
 low:=fun hl=>k.low (h.low hl)
 sub:=fun hs=>k.sub (h.sub hs)
 lrd:=fun hs=>k.lrd (h.lrd hs)
theorem rt {E E':ESX} {r:Rx} (h1:E'.h=r.h) (h2:E'.u=r.u) (h3:E'.rd=E.rd ||| r.F) (h4:E'.wr=E.wr ||| r.W) (hu:r.u0=E.u) (hf:Fits (bc E.h) r.rc):Mono E E':=by
 have hu0:r.rc.u0=E.u:=hu
 have hle:r.rc.u0<=r.rc.u:=hf.le
 have hru:r.rc.u=r.u:=rfl
 refine ⟨fun id hid=>by rw [h3,Nat.testBit_or,hid]; rfl,fun id hid=>by rw [h4,Nat.testBit_or,hid]; rfl,by omega,fun id hid hw=>?_,fun hl id hid=>?_,fun hs id hid=>?_,fun hs id hid=>?_⟩
 ·rw [h1]
  refine hf.same id ?_
  cases hd:r.rc.D id with
  | false=>rfl
  | true=>
   rcases Rc.D_iff.1 hd with h5 | h5
   ·rw [h4,Nat.testBit_or,show r.W.testBit id=true from h5] at hw
    simp at hw
   ·omega
 ·rw [h1]
  have:r.rc.D id=false:=by
   cases hd:r.rc.D id with
   | false=>rfl
   | true=>
    rcases Rc.D_iff.1 hd with h5 | h5
    ·have:=hf.low id (hf.sub id h5); omega
    ·omega
  exact (hf.same id this).trans (hl id (by omega))
 ·rw [h4,Nat.testBit_or,Bool.or_eq_true] at hid
  rw [h3,Nat.testBit_or,Bool.or_eq_true]
  exact hid.imp (hs id) (hf.sub id)
 ·rw [h3,Nat.testBit_or,Bool.or_eq_true] at hid
  rcases hid with h5 | h5
  ·have:=hs id h5; omega
  ·have:=hf.low id h5; omega
def iv (f:df) (ops:Array Oper):List Oper->ESX->Option (List Rx×ESX)
 | [],E=>some ([],E)
 | o :: l,E=>
  match ly ops (bm E.t) o with
  | none=>none
  | some false=>
   match E.step o.dst ⟨0,0,E.u,E.u,E.h,.v undef⟩ with
   | none=>none
   | some E'=>match iv f ops l E' with
    | none=>none
    | some (rs,E'')=>some (⟨0,0,E.u,E.u,E.h,.v undef⟩ :: rs,E'')
  | some true=>
   match f o E with
   | none=>none
   | some r=>
    match E.step o.dst r with
    | none=>none
    | some E'=>match iv f ops l E' with
     | none=>none
     | some (rs,E'')=>some (r :: rs,E'')
structure RunOk (E E':ESX) (r:Rx):Prop where
 F:∀ id,r.F.testBit id=true->E'.rd.testBit id=true
 W:∀ id,r.W.testBit id=true->E'.wr.testBit id=true
 u0:E.u<=r.u0
 u:r.u<=E'.u
theorem Iy {η:au} {u:Nat} {h:Tri (Option Blk)} {v:AV} (hη:bc h=η):Fits η (Rx.rc ⟨0,0,u,u,h,v⟩):=by
 refine ⟨Nat.le_refl _,fun id _=>by rw [<- hη]; rfl,fun id hid=>?_,fun id hid=>?_⟩
 ·exact hid
 ·have:(0:Nat).testBit id=true:=hid
  simp at this
theorem vy {P:Program} {N:Nat} {f:df} (hf:f.Ok P) {ops:Array Oper}:∀ (l:List Oper) (E E':ESX) (rs:List Rx),(∀ o∈l,ic N ops o=true)->J4 E.h E.u->iv f ops l E=some (rs,E') ->
  SeqX P N ops l E.st (rs.map Rx.rc) E'.st/\Mono E E'/\∀ r∈rs,RunOk E E' r:=by
 intro l
 induction l with
 | nil=>
  intro E E' rs hd hl h
  simp only [iv,Zh,Prod.mk.injEq] at h
  obtain ⟨rfl,rfl⟩:=h
  exact ⟨.nil,Mono.refl _,fun r hr=>by cases hr⟩
 | cons o l ih=>
  intro E E' rs hd hl h
  simp only [iv] at h
  have hdo:=hd o (by simp)
  have hdl:∀ o∈l,ic N ops o=true:=fun o ho=>hd o (by simp [ho])
  have main:∀ (r:Rx) (E1:ESX) (rs1:List Rx),r.u0=E.u->Fits (bc E.h) r.rc->((ly ops E.st.τ o=some true/\va P o E.st.τ E.st.η r.rc)\/(ly ops E.st.τ o=some false/\r.rc.v=.v undef/\r.rc.F=0/\r.rc.u=E.st.u))->E.step o.dst r=some E1->iv f ops l E1=some (rs1,E') ->
    SeqX P N ops (o :: l) E.st ((r :: rs1).map Rx.rc) E'.st/\Mono E E'/\∀ r'∈r :: rs1,RunOk E E' r':=by
   intro r E1 rs1 hu hfit hhow hs hr
   obtain ⟨s1,s2,s3,s4,s5⟩:=u7 hs
   have m1:Mono E E1:=rt s2 s3 s4 s5 hu hfit
   obtain ⟨i1,i2,i3⟩:=ih E1 E' rs1 hdl (m1.low hl) hr
   refine ⟨.cons ⟨hdo,hu,hfit,hhow⟩ (by rw [<- s1]; exact i1),m1.trans i2,fun r' hr'=>?_⟩
   rcases List.mem_cons.1 hr' with rfl | hr'
   ·refine ⟨fun id hid=>i2.rd id (by rw [s4,Nat.testBit_or,hid]; simp),fun id hid=>i2.wr id (by rw [s5,Nat.testBit_or,hid]; simp),by omega,?_⟩
    have:=i2.u
    omega
   ·have:=i3 r' hr'
    exact ⟨this.F,this.W,Nat.le_trans m1.u this.u0,this.u⟩
  split at h
  ·cases h
  ·rename_i hw
   split at h
   ·cases h
   ·rename_i E1 hs
    split at h
    ·cases h
    ·rename_i rs1 E2 hr
     simp only [Zh,Prod.mk.injEq] at h
     obtain ⟨rfl,rfl⟩:=h
     exact main _ _ _ rfl (Iy rfl) (.inr ⟨hw,rfl,rfl,rfl⟩) hs hr
  ·rename_i hw
   split at h
   ·cases h
   ·rename_i r ho
    obtain ⟨q1,q2,q3⟩:=hf o E r hl ho
    split at h
    ·cases h
    ·rename_i E1 hs
     split at h
     ·cases h
     ·rename_i rs1 E2 hr
      simp only [Zh,Prod.mk.injEq] at h
      obtain ⟨rfl,rfl⟩:=h
      exact main _ _ _ q1 q2 (.inl ⟨hw,q3⟩) hs hr
def Kg (m i:Nat):Bool:=Nat.beq (Nat.land (Nat.shiftRight m i) 1) 1
theorem D3 {m i:Nat} (h:Kg m i=true):m.testBit i=true:=by
 have h1:=Zg h
 have h2:(m >>> i) &&& 1=1:=h1
 unfold Nat.testBit
 rw [Nat.and_comm] at h2
 rw [h2]
 rfl
/-- What can be said of a region before it runs: what need not be in order does not meet in slots. -/
def ph (ops:Array Oper) (ok:Oper) (m:Nat):List Oper->Nat->Bool
 | [],_=>true
 | oi :: l,i=>(Kg m i||Oper.apart ops oi ok)&&ph ops ok m l (i+1)
def Cr (ops:Array Oper):List Oper->List Nat->Nat->Bool
 | [],_,_=>true
 | ok :: l,ms,k=>(bv ok).all (fun i=>Nat.ble (i+1) k)&&(match ok.op with | .select _ _=>false | _=>true) &&
   (match ms with
   | []=>false
   | m :: ms=>ph ops ok m (ops.toList.take k) 0&&Cr ops l ms (k+1))
def Kz (ops:Array Oper):Bool:=Cr ops ops.toList (sc ops.toList []) 0
theorem s7 {ops:Array Oper} {ok:Oper} {m:Nat}:∀ (l:List Oper) (i0:Nat),ph ops ok m l i0=true->∀ (i:Nat) (oi:Oper),l[i]? = some oi->m.testBit (i0+i)=true\/Oper.apart ops oi ok=true
 | [],_,_,i,oi,h=>by simp at h
 | o :: l,i0,h,i,oi,hi=>by
  simp only [ph,Bool.and_eq_true,Bool.or_eq_true] at h
  cases i with
  | zero=>
   simp only [List.getElem?_cons_zero,Zh] at hi
   subst hi
   exact h.1.imp D3 (fun h=>h)
  | succ i=>
   have:=s7 l (i0+1) h.2 i oi (by simpa using hi)
   rwa [show i0+1+i=i0+(i+1) by omega] at this
theorem y6 {ops:Array Oper}:∀ (l:List Oper) (ms:List Nat) (k0:Nat),Cr ops l ms k0=true->∀ (j:Nat) (ok:Oper),l[j]? = some ok->(∀ i∈bv ok,i < k0+j)/\(∀ cs b,ok.op≠.select cs b)/\∃ m:Nat,ms[j]? = some m/\ph ops ok m (ops.toList.take (k0+j)) 0=true
 | [],_,_,_,j,ok,h=>by simp at h
 | o :: l,ms,k0,h,j,ok,hj=>by
  simp only [Cr,Bool.and_eq_true] at h
  obtain ⟨⟨h1,h2⟩,h3⟩:=h
  cases ms with
  | nil=>cases h3
  | cons m ms=>
   simp only [Bool.and_eq_true] at h3
   cases j with
   | zero=>
    simp only [List.getElem?_cons_zero,Zh] at hj
    subst hj
    refine ⟨fun i hi=>Nat.le_of_ble_eq_true (List.all_eq_true.1 h1 i hi),fun cs b e=>(by rw [e] at h2; cases h2),m,rfl,h3.1⟩
   | succ j=>
    obtain ⟨g1,g2,m',g3,g4⟩:=y6 l ms (k0+1) h3.2 j ok (by simpa using hj)
    rw [show k0+1+j=k0+(j+1) by omega] at g1 g4
    exact ⟨g1,g2,m',by simpa using g3,g4⟩
theorem Cq {l:List Oper} (h:Kz l.toArray=true):(∀ (k:Nat) (ok:Oper),l[k]? = some ok->(∀ i∈bv ok,i < k)/\∀ cs b,ok.op≠.select cs b) /\
  ∀ (i k:Nat) (oi ok:Oper),i < k->l[i]? = some oi->l[k]? = some ok->Anc l.toArray k i\/Oper.apart l.toArray oi ok=true:=by
 have h1:=y6 _ _ _ h
 refine ⟨fun k ok hk=>?_,fun i k oi ok hik hi hk=>?_⟩
 ·obtain ⟨g1,g2,_⟩:=h1 k ok (by simpa using hk)
  exact ⟨by simpa using g1,g2⟩
 ·obtain ⟨_,_,m,hm,hp⟩:=h1 k ok (by simpa using hk)
  have hi':(l.take (0+k))[i]? = some oi:=by rw [List.getElem?_take_of_lt (by omega)]; exact hi
  rcases s7 _ _ hp i oi (by simpa using hi') with h2 | h2
  ·left
   refine mg l [] (fun j o hj=>by simpa using hj) (fun k i h=>by simp at h) k i ?_
   have:((sc l []).getD k 0)=m:=by
    simp only [List.getD]
    have:(sc l [])[k]? = some m:=by simpa using hm
    rw [this]; rfl
   rw [this]
   simpa using h2
  ·exact .inr h2
def rangeM (a b:Nat):Nat:=Nat.shiftLeft (Nat.sub (Nat.shiftLeft 1 (Nat.sub b a)) 1) a
theorem Ek {a b id:Nat}:(rangeM a b).testBit id=true↔(a<=id/\id < b):=by
 have h:rangeM a b=(2 ^ (b - a) - 1) <<< a:=by
  unfold rangeM
  have h1:Nat.shiftLeft 1 (Nat.sub b a)=2 ^ (b - a):=by
   show 1 <<< (b - a)=_
   rw [Nat.one_shiftLeft]
  rw [h1]
  rfl
 rw [h,Nat.testBit_shiftLeft,Nat.testBit_two_pow_sub_one]
 simp only [Bool.and_eq_true,decide_eq_true_eq]
 omega
def Rx.dm (r:Rx):Nat:=bif Nat.beq r.u0 r.u then r.W else Nat.lor r.W (rangeM r.u0 r.u)
theorem Rx.dm_iff {r:Rx} {id:Nat}:r.dm.testBit id=true↔r.rc.D id=true:=by
 unfold Rx.dm
 rw [Rc.D_iff]
 cases hb:Nat.beq r.u0 r.u with
 | true=>
  have:=Zg hb
  simp only [cond_true,Rx.rc]
  constructor
  ·exact .inl
  ·rintro (h | h)
   ·exact h
   ·omega
 | false=>
  simp only [cond_false,Rx.rc]
  rw [show Nat.lor r.W (rangeM r.u0 r.u)=r.W ||| rangeM r.u0 r.u from rfl,Nat.testBit_or,Bool.or_eq_true,Ek]
def zj (f d f' d':Nat):Bool:=Nat.beq (Nat.land d (Nat.lor f' d')) 0&&Nat.beq (Nat.land d' f) 0
theorem pv {a b:Nat} (h:Nat.beq (Nat.land a b) 0=true) {x:Nat} (hx:a.testBit x=true):b.testBit x=false:=by
 have h1:=Zg h
 have h2:a &&& b=0:=h1
 have h3:(a &&& b).testBit x=false:=by rw [h2]; simp
 rw [Nat.testBit_and,hx] at h3
 simpa using h3
/-- .. and what must be said of what it fv at and wrote. -/
def Bq:List Nat->List Rx->Nat->List (Nat×Nat×Nat)->Bool
 | m :: ms,r :: rs,k,acc=>bif Nat.beq r.F 0&&Nat.beq r.dm 0 then Bq ms rs (k+1) acc else
   acc.all (fun q=>Kg m q.1||zj q.2.1 q.2.2 r.F r.dm)&&Bq ms rs (k+1) ((k,r.F,r.dm) :: acc)
 | _,[],_,_=>true
 | [],_ :: _,_,_=>false
theorem ss:∀ (ms:List Nat) (rs:List Rx) (k0:Nat) (acc:List (Nat×Nat×Nat)),Bq ms rs k0 acc=true->∀ (j:Nat) (r:Rx),rs[j]? = some r->∃ m:Nat,ms[j]? = some m /\
  ((r.F=0/\r.dm=0)\/((∀ q∈acc,m.testBit q.1=true\/zj q.2.1 q.2.2 r.F r.dm=true)/\∀ (i:Nat) (ri:Rx),i < j->rs[i]? = some ri->(ri.F=0/\ri.dm=0)\/m.testBit (k0+i)=true\/zj ri.F ri.dm r.F r.dm=true))
 | [],[],_,_,_,j,r,hj=>by simp at hj
 | _ :: _,[],_,_,_,j,r,hj=>by simp at hj
 | [],_ :: _,_,_,h,_,_,_=>by simp [Bq] at h
 | m :: ms,r0 :: rs,k0,acc,h,j,r,hj=>by
  simp only [Bq] at h
  cases hz:(Nat.beq r0.F 0&&Nat.beq r0.dm 0) with
  | true=>
   rw [hz] at h
   simp only [cond_true] at h
   rw [Bool.and_eq_true] at hz
   have z1:=Zg hz.1
   have z2:=Zg hz.2
   cases j with
   | zero=>
    simp only [List.getElem?_cons_zero,Zh] at hj
    subst hj
    exact ⟨m,rfl,.inl ⟨z1,z2⟩⟩
   | succ j=>
    obtain ⟨m',g1,g2⟩:=ss ms rs (k0+1) acc h j r (by simpa using hj)
    refine ⟨m',by simpa using g1,g2.imp (fun h=>h) (fun ⟨g3,g4⟩=>⟨g3,fun i ri hij hi=>?_⟩)⟩
    cases i with
    | zero=>
     simp only [List.getElem?_cons_zero,Zh] at hi
     subst hi
     exact .inl ⟨z1,z2⟩
    | succ i=>
     have:=g4 i ri (by omega) (by simpa using hi)
     rwa [show k0+1+i=k0+(i+1) by omega] at this
  | false=>
   rw [hz] at h
   simp only [cond_false,Bool.and_eq_true] at h
   obtain ⟨h1,h2⟩:=h
   cases j with
   | zero=>
    simp only [List.getElem?_cons_zero,Zh] at hj
    subst hj
    refine ⟨m,rfl,.inr ⟨fun q hq=>?_,fun i ri hij=>by omega⟩⟩
    have:=List.all_eq_true.1 h1 q hq
    rw [Bool.or_eq_true] at this
    exact this.imp D3 (fun h=>h)
   | succ j=>
    obtain ⟨m',g1,g2⟩:=ss ms rs (k0+1) _ h2 j r (by simpa using hj)
    refine ⟨m',by simpa using g1,g2.imp (fun h=>h) (fun ⟨g3,g4⟩=>⟨fun q hq=>g3 q (by simp [hq]),fun i ri hij hi=>?_⟩)⟩
    cases i with
    | zero=>
     simp only [List.getElem?_cons_zero,Zh] at hi
     subst hi
     exact .inr (by simpa using g3 (k0,r0.F,r0.dm) (by simp))
    | succ i=>
     have:=g4 i ri (by omega) (by simpa using hi)
     rwa [show k0+1+i=k0+(i+1) by omega] at this
/-- The check of a region that has run from the number u0 on; E': where it ended, its writes counted from none. -/
def yb (ops:Array Oper) (u0:Nat) (rs:List Rx) (E':ESX):Bool :=
 Kz ops&&((Nat.beq E'.wr 0&&Nat.beq (Nat.shiftRight E'.rd u0) 0)||Bq (sc ops.toList []) rs 0 [])
theorem E9 {P:Program} {N:Nat} {l:List Oper} {E E':ESX} {rs:List Rx} (hseq:SeqX P N l.toArray l E.st (rs.map Rx.rc) E'.st) (hrun:∀ r∈rs,RunOk E E' r) (hc:yb l.toArray E.u rs E'=true):DrawOk l (rs.map Rx.rc):=by
 unfold yb at hc
 rw [Bool.and_eq_true,Bool.or_eq_true] at hc
 obtain ⟨hst,hdyn⟩:=hc
 obtain ⟨s1,s2⟩:=Cq hst
 obtain ⟨hlen,hend,hfact⟩:=hseq.facts
 refine ⟨fun i k oi ok ri rk hik hi hk hri hrk=>?_,s1⟩
 by_cases hA:Anc l.toArray k i
 ·exact .inl hA
 right
 have hap:=(s2 i k oi ok hik hi hk).resolve_left hA
 obtain ⟨a1,a2,a3⟩:=Oper.apart_spec hap
 rw [List.getElem?_map] at hri hrk
 cases hxi:rs[i]? with
 | none=>rw [hxi] at hri; cases hri
 | some xi=>
  cases hxk:rs[k]? with
  | none=>rw [hxk] at hrk; cases hrk
  | some xk=>
   rw [hxi] at hri
   rw [hxk] at hrk
   simp only [Option.map_some,Zh] at hri hrk
   subst hri hrk
   have oi':=hrun xi (List.mem_of_getElem? hxi)
   have ok':=hrun xk (List.mem_of_getElem? hxk)
   have fi:=hfact i oi xi.rc hi (by rw [List.getElem?_map,hxi]; rfl)
   have fk:=hfact k ok xk.rc hk (by rw [List.getElem?_map,hxk]; rfl)
   rcases hdyn with hfast | hslow
   ·rw [Bool.and_eq_true] at hfast
    have w0:=Zg hfast.1
    have r0:E'.rd >>> E.u=0:=Zg hfast.2
    have noW:∀ (x:Rx),RunOk E E' x->∀ id,x.rc.D id=true->x.u0<=id/\id < x.u:=fun x hx id hd=>by
     rcases Rc.D_iff.1 hd with h | h
     ·have:=hx.W id h
      rw [w0] at this
      simp at this
     ·exact h
    have noF:∀ (x:Rx),RunOk E E' x->∀ id,E.u<=id->x.F.testBit id=false:=fun x hx id hle=>by
     cases hb:x.F.testBit id with
     | false=>rfl
     | true=>
      have h1:=hx.F id hb
      have h2:(E'.rd >>> E.u).testBit (id - E.u)=true:=by
       rw [Nat.testBit_shiftRight,show E.u+(id - E.u)=id by omega]; exact h1
      rw [r0] at h2
      simp at h2
    have hmu:xi.u<=xk.u0:=by
     have h1:=Ct hfact hlen (k - (i+1)) (i+1) (by have:=(List.getElem?_eq_some_iff.1 hk).1; omega)
     rw [show i+1+(k - (i+1))=k by omega,kb l (rs.map Rx.rc) i E.st oi xi.rc hi (by rw [List.getElem?_map,hxi]; rfl)] at h1
     have h2:xk.rc.u0=_:=fk.u
     have h3:xi.rc.u<=xk.rc.u0:=by rw [h2]; exact h1
     exact h3
    refine ⟨a1,a2,a3,fun x hx=>?_,fun x hx=>?_,fun x hx=>?_⟩
    ·have:=noW xi oi' x hx
     exact noF xk ok' x (by have:=oi'.u0; omega)
    ·have:=noW xk ok' x hx
     exact noF xi oi' x (by have:=ok'.u0; omega)
    ·cases hy:xk.rc.D x with
     | false=>rfl
     | true=>
      have h1:=noW xi oi' x hx
      have h2:=noW xk ok' x hy
      omega
   ·obtain ⟨m,hm,hh⟩:=ss _ _ _ _ hslow k xk hxk
    have triv:∀ (x:Rx),x.F=0/\x.dm=0->(∀ id,x.rc.D id=false)/\∀ id,x.rc.F.testBit id=false:=fun x ⟨h1,h2⟩=>by
     refine ⟨fun id=>?_,fun id=>?_⟩
     ·cases hd:x.rc.D id with
      | false=>rfl
      | true=>
       have:=Rx.dm_iff.2 hd
       rw [h2] at this
       simp at this
     ·show x.F.testBit id=false
      rw [h1]; simp
    rcases hh with hh | ⟨_,hh⟩
    ·obtain ⟨t1,t2⟩:=triv xk hh
     exact ⟨a1,a2,a3,fun x _=>t2 x,fun x hx=>(by rw [t1 x] at hx; cases hx),fun x _=>t1 x⟩
    ·rcases hh i xi hik hxi with hh | hh | hh
     ·obtain ⟨t1,t2⟩:=triv xi hh
      exact ⟨a1,a2,a3,fun x hx=>(by rw [t1 x] at hx; cases hx),fun x _=>t2 x,fun x hx=>(by rw [t1 x] at hx; cases hx)⟩
     ·exfalso
      refine hA (mg l [] (fun j o hj=>by simpa using hj) (fun k i h=>by simp at h) k i ?_)
      have:((sc l []).getD k 0)=m:=by
       simp only [List.getD]
       have:(sc l [])[k]? = some m:=by simpa using hm
       rw [this]; rfl
      rw [this]
      simpa using hh
     ·unfold zj at hh
      rw [Bool.and_eq_true] at hh
      have q1:∀ x,xi.rc.D x=true->xk.F.testBit x=false/\xk.dm.testBit x=false:=fun x hx=>by
       have:=pv hh.1 (Rx.dm_iff.2 hx)
       rw [show Nat.lor xk.F xk.dm=xk.F ||| xk.dm from rfl,Nat.testBit_or,Bool.or_eq_false_iff] at this
       exact this
      refine ⟨a1,a2,a3,fun x hx=>(q1 x hx).1,fun x hx=>pv hh.2 (Rx.dm_iff.2 hx),fun x hx=>?_⟩
      cases hy:xk.rc.D x with
      | false=>rfl
      | true=>
       have:=(q1 x hx).2
       rw [Rx.dm_iff.2 hy] at this
       cases this
def Om (N:Nat) (ops:Array Oper):Bool:=ops.toList.all (ic N ops)
/-- RD and WD hold what has been fv at and written by E', and all new blocks. -/
structure Under (RD WD:Nat->Prop) (M:Nat) (ub:Nat) (E':ESX):Prop where
 rd:∀ id,E'.rd.testBit id=true->RD id
 wd:∀ id,E'.wr.testBit id=true->WD id
 u:E'.u<=M
 new:∀ id,ub<=id->id < M->RD id/\WD id
theorem Under.back {RD WD:Nat->Prop} {M u:Nat} {E1 E':ESX} (h:Under RD WD M u E') (m:Mono E1 E'):Under RD WD M u E1 :=
 ⟨fun id hid=>h.rd id (m.rd id hid),fun id hid=>h.wd id (m.wr id hid),Nat.le_trans m.u h.u,h.new⟩
theorem Under.up {RD WD:Nat->Prop} {M u u1:Nat} {E':ESX} (h:Under RD WD M u E') (hu:u<=u1):Under RD WD M u1 E' :=
 ⟨h.rd,h.wd,h.u,fun id h1 h2=>h.new id (Nat.le_trans hu h1) h2⟩
def eqS:AV->AV->Bool
 | .v (.int k i),.v (.int k' i')=>decide (k=k')&&decide (i=i')
 | .v (.bool b),.v (.bool b')=>b==b'
 | .v (.slice none a c),.v (.slice none a' c')=>Nat.beq a a'&&Nat.beq c c'
 | .v (.pointer none),.v (.pointer none)=>true
 | .v (.map none),.v (.map none)=>true
 | .ptr a b c,.ptr a' b' c'=>Nat.beq a a'&&(Nat.beq b b'&&Nat.beq c c')
 | .sl a b c d,.sl a' b' c' d'=>Nat.beq a a'&&(Nat.beq b b'&&(Nat.beq c c'&&Nat.beq d d'))
 | .mp a b,.mp a' b'=>Nat.beq a a'&&Nat.beq b b'
 | .tree n [],.tree n' []=>Nat.beq n n'
 | _,_=>false
theorem U4 {x y:AV} (h:eqS x y=true):x=y:=by
 unfold eqS at h
 split at h <;> try simp only [Bool.and_eq_true,decide_eq_true_eq,beq_iff_eq] at h
 all_goals first
  | (obtain ⟨rfl,rfl⟩:=h; rfl)
  | (subst h; rfl)
  | (obtain ⟨h1,h2⟩:=h; have:=Zg h1; have:=Zg h2; subst_vars; rfl)
  | (obtain ⟨h1,h2,h3⟩:=h; have:=Zg h1; have:=Zg h2; have:=Zg h3; subst_vars; rfl)
  | (obtain ⟨h1,h2,h3,h4⟩:=h; have:=Zg h1; have:=Zg h2; have:=Zg h3; have:=Zg h4; subst_vars; rfl)
  | (have:=Zg h; subst_vars; rfl)
  | rfl
  | cases h
/-- What it fv at, but for block a if it wrote nothing. -/
def qi (a:Nat) (r:Rx):Rx:=bif Nat.beq r.dm 0&&Kg r.F a then ⟨Nat.xor r.F (Nat.shiftLeft 1 a),r.W,r.u0,r.u,r.h,r.v⟩ else r
theorem w7 (a:Nat) (r:Rx):(qi a r).dm=r.dm:=by
 unfold qi
 cases (Nat.beq r.dm 0&&Kg r.F a) <;> rfl
theorem A0 {a:Nat} {r:Rx} {x:Nat} (h:(qi a r).F.testBit x=false):r.F.testBit x=false\/(x=a/\r.dm=0):=by
 unfold qi at h
 cases hc:(Nat.beq r.dm 0&&Kg r.F a) with
 | false=>rw [hc] at h; exact .inl h
 | true=>
  rw [hc] at h
  rw [Bool.and_eq_true] at hc
  have h1:(r.F ^^^ (1 <<< a)).testBit x=false:=h
  rw [Nat.testBit_xor,Nat.one_shiftLeft,Nat.testBit_two_pow] at h1
  by_cases e:a=x
  ·exact .inr ⟨e.symm,Zg hc.1⟩
  ·rw [decide_eq_false e,Bool.xor_false] at h1; exact .inl h1
theorem vw {a:Nat} {r:Rx} (h:(qi a r).F=0/\(qi a r).dm=0):(∀ id,r.rc.D id=false)/\∀ id,r.rc.F.testBit id=false\/(id=a/\∀ y,r.rc.D y=false):=by
 have h2:r.dm=0:=by rw [<- w7 a r]; exact h.2
 have hD:∀ id,r.rc.D id=false:=fun id=>by
  cases hd:r.rc.D id with
  | false=>rfl
  | true=>have:=Rx.dm_iff.2 hd; rw [h2] at this; simp at this
 refine ⟨hD,fun id=>?_⟩
 have:(qi a r).F.testBit id=false:=by rw [h.1]; simp
 exact (A0 this).imp (fun h=>h) (fun h=>⟨h.1,hD⟩)
def Rn (E:ESX) (a:Nat) (rs:List Rx):List (Option Blk):=bc E.h a :: rs.map fun r=>bc r.h a
def Nu (x r:Rx):Bool:=eqS x.v r.v&&(Nat.beq x.F r.F&&Nat.beq x.dm 0)
def w6 (f:df) (a:Nat) (cs:List (Option Blk)):List Oper->List Rx->ESX->Bool
 | o :: l,r :: rs,E=>(bif Nat.beq r.dm 0&&Kg r.F a then cs.all (fun c=>match Tri.set 24 E.h a c with
   | none=>false
   | some h'=>match f o ⟨E.t,h',E.u,E.rd,E.wr⟩ with
    | none=>false
    | some x=>Nu x r) else true)&&(match E.step o.dst r with
   | none=>false
   | some E1=>w6 f a cs l rs E1)
 | _,_,_=>true
def G0 (f:df) (ops:Array Oper) (E:ESX) (rs:List Rx) (a:Nat):Bool:=Bq (sc ops.toList []) (rs.map (qi a)) 0 []&&w6 f a (Rn E a rs) ops.toList rs E
def S1 (E:ESX) (rs:List Rx):List Nat:=(List.range E.u).filter fun i=>rs.any fun r=>Kg r.W i
def w8 (f:df) (ops:Array Oper) (E:ESX) (rs:List Rx):Bool:=Kz ops&&(S1 E rs).any (G0 f ops E rs)
theorem va.same {P:Program} {o:Oper} {τ:Nat->AV} {η:au} {r x:Rc} (h:va P o τ η x) (hv:x.v=r.v) (hF:x.F=r.F) (hx:∀ id,x.D id=false) (hr:∀ id,r.D id=false):va P o τ η r:=by
 intro C a hg hxs hfp hnew K Q hK
 refine h C a hg hxs (fun id hid=>hfp id (by rw [<- hF]; exact hid)) (fun id h1 h2=>?_) K Q fun y C' h1 h2 h3 h4 h5=>hK y C' (fun id=>?_) (fun id hid=>?_) h3 h4 (by rw [<- hv]; exact h5)
 ·have:=Rc.D_iff.2 (.inr ⟨h1,h2⟩)
  rw [hx id] at this; cases this
 ·rw [h1 id,hx id,hr id]; simp
 ·exact (h2 id hid).elim .inl (fun h=>by rw [hx id] at h; cases h)
theorem R5 {m i:Nat} (h:m.testBit i=true):Kg m i=true:=by
 unfold Kg
 have h1:(m >>> i) &&& 1=1:=by
  have:m.testBit i=((m >>> i) &&& 1==1):=by
   unfold Nat.testBit
   rw [Nat.and_comm]
   have:(m >>> i) &&& 1=(m >>> i) % 2:=Nat.and_one_is_mod _
   rw [this]
   rcases Nat.mod_two_eq_zero_or_one (m >>> i) with e | e <;> rw [e] <;> rfl
  rw [this] at h
  simpa using h
 show Nat.beq ((m >>> i) &&& 1) 1=true
 rw [h1]; rfl
theorem vv {P:Program} {N:Nat} {f:df} (hf:f.Ok P) {ops:Array Oper} {a:Nat} {cs:List (Option Blk)}:∀ (l:List Oper) (rs:List Rx) (E:ESX) (s':St),SeqX P N ops l E.st (rs.map Rx.rc) s'->J4 E.h E.u->w6 f a cs l rs E=true ->
  ∀ (i:Nat) (oi:Oper) (ri:Rx),l[i]? = some oi->rs[i]? = some ri->(∀ y,ri.rc.D y=false)->ri.F.testBit a=true->∀ c∈cs,va P oi (jk l (rs.map Rx.rc) i E.st).τ ((jk l (rs.map Rx.rc) i E.st).η.set a c) ri.rc
 | [],rs,E,s',_,_,_,i,oi,ri,hi,_,_,_,c,_=>by simp at hi
 | o :: l,[],E,s',_,_,_,i,oi,ri,_,hr,_,_,c,_=>by simp at hr
 | o :: l,r :: rs,E,s',hseq,hlow,hs,i,oi,ri,hi,hr,hD,hF,c,hc=>by
  simp only [w6] at hs
  rw [Bool.and_eq_true] at hs
  obtain ⟨h1,h2⟩:=hs
  cases hseq with
  | cons hfact hrest=>
  cases i with
  | zero=>
   simp only [List.getElem?_cons_zero,Zh] at hi hr
   subst hi hr
   rw [fc]
   have hdm:Nat.beq r.dm 0=true:=by
    have:r.dm=0:=by
     apply Nat.eq_of_testBit_eq
     intro y
     cases hy:r.dm.testBit y with
     | false=>simp
     | true=>have:=Rx.dm_iff.1 hy; rw [hD y] at this; cases this
    rw [this]; rfl
   rw [hdm,R5 hF] at h1
   simp only [Bool.and_self,cond_true] at h1
   have h3:=List.all_eq_true.1 h1 c hc
   cases hset:Tri.set 24 E.h a c with
   | none=>rw [hset] at h3; cases h3
   | some h'=>
    rw [hset] at h3
    simp only at h3
    have ha:a < E.u:=by
     have:=hfact.fits.low a hF
     have hu:r.rc.u0=E.st.u:=hfact.u
     have:a < E.st.u:=by omega
     exact this
    cases hfo:f o ⟨E.t,h',E.u,E.rd,E.wr⟩ with
    | none=>rw [hfo] at h3; cases h3
    | some x=>
     rw [hfo] at h3
     simp only [Nu,Bool.and_eq_true] at h3
     obtain ⟨e1,e2,e3⟩:=h3
     have hη':bc h'=(bc E.h).set a c:=l6 hset
     obtain ⟨_,_,q3⟩:=hf o ⟨E.t,h',E.u,E.rd,E.wr⟩ x (fun id hid=>by
      show bc h' id=none
      rw [hη',am _ _ (by have:E.u<=id:=hid; omega)]
      exact hlow id hid) hfo
     have hxD:∀ id,x.rc.D id=false:=fun id=>by
      cases hd:x.rc.D id with
      | false=>rfl
      | true=>have:=Rx.dm_iff.2 hd; rw [Zg e3] at this; simp at this
     have q4:va P o (bm E.t) (bc h') x.rc:=q3
     rw [hη'] at q4
     exact q4.same (U4 e1) (Zg e2) hxD hD
  | succ i=>
   cases hst:E.step o.dst r with
   | none=>rw [hst] at h2; cases h2
   | some E1=>
    rw [hst] at h2
    simp only at h2
    obtain ⟨s1,s2,s3,s4,s5⟩:=u7 hst
    have m1:Mono E E1:=rt s2 s3 s4 s5 hfact.u hfact.fits
    have:=vv hf l rs E1 s' (by rw [s1]; exact hrest) (m1.low hlow) h2 i oi ri (by simpa using hi) (by simpa using hr) hD hF c hc
    rw [s1] at this
    exact this
theorem zb {a:Nat}:∀ (rs:List Rx) (l:List Oper) (s:St) (m:Nat),m<=l.length->rs.length=l.length->(jk l (rs.map Rx.rc) m s).η a=s.η a\/∃ r∈rs,(jk l (rs.map Rx.rc) m s).η a=bc r.h a
 | _,l,s,0,_,_=>by rw [fc]; exact .inl rfl
 | [],[],s,m+1,h,_=>by simp at h
 | [],o :: l,s,m+1,_,h=>by simp at h
 | r :: rs,[],s,m+1,h,_=>by simp at h
 | r :: rs,o :: l,s,m+1,h,hl=>by
  have:=zb (a:=a) rs l (rz o r.rc s) m (by simpa using h) (by simpa using hl)
  right
  rcases this with e | ⟨r',h1,h2⟩
  ·exact ⟨r,by simp,e⟩
  ·exact ⟨r',by simp [h1],h2⟩
theorem Gz {P:Program} {N:Nat} {f:df} (hf:f.Ok P) {l:List Oper} {E E':ESX} {rs:List Rx} {a:Nat} (hlow:J4 E.h E.u) (hseq:SeqX P N l.toArray l E.st (rs.map Rx.rc) E'.st) (hst:Kz l.toArray=true) (hc:G0 f l.toArray E rs a=true):DrawA P E.st a l (rs.map Rx.rc):=by
 unfold G0 at hc
 rw [Bool.and_eq_true] at hc
 obtain ⟨hdyn,hsr⟩:=hc
 obtain ⟨s1,s2⟩:=Cq hst
 obtain ⟨hlen,hend,hfact⟩:=hseq.facts
 rw [Zl] at hlen
 refine ⟨fun i k oi ok ri rk hik hi hk hri hrk=>?_,s1,fun i oi ri hi hri hD hF m hm=>?_⟩
 ·by_cases hA:Anc l.toArray k i
  ·exact .inl hA
  right
  have hap:=(s2 i k oi ok hik hi hk).resolve_left hA
  obtain ⟨a1,a2,a3⟩:=Oper.apart_spec hap
  rw [List.getElem?_map] at hri hrk
  cases hxi:rs[i]? with
  | none=>rw [hxi] at hri; cases hri
  | some xi=>
   cases hxk:rs[k]? with
   | none=>rw [hxk] at hrk; cases hrk
   | some xk=>
    rw [hxi] at hri
    rw [hxk] at hrk
    simp only [Option.map_some,Zh] at hri hrk
    subst hri hrk
    obtain ⟨m,hm,hh⟩:=ss _ _ _ _ hdyn k (qi a xk) (by rw [List.getElem?_map,hxk]; rfl)
    rcases hh with hh | ⟨_,hh⟩
    ·obtain ⟨t1,t2⟩:=vw hh
     exact ⟨a1,a2,a3,fun x _=>t2 x,fun x hx=>(by rw [t1 x] at hx; cases hx),fun x _=>t1 x⟩
    ·rcases hh i (qi a xi) hik (by rw [List.getElem?_map,hxi]; rfl) with hh | hh | hh
     ·obtain ⟨t1,t2⟩:=vw hh
      exact ⟨a1,a2,a3,fun x hx=>(by rw [t1 x] at hx; cases hx),fun x _=>t2 x,fun x hx=>(by rw [t1 x] at hx; cases hx)⟩
     ·exfalso
      refine hA (mg l [] (fun j o hj=>by simpa using hj) (fun k i h=>by simp at h) k i ?_)
      have:((sc l []).getD k 0)=m:=by
       simp only [List.getD]
       have:(sc l [])[k]? = some m:=by simpa using hm
       rw [this]; rfl
      rw [this]
      simpa using hh
     ·unfold zj at hh
      rw [Bool.and_eq_true,w7,w7] at hh
      have em:∀ {r:Rx},r.dm=0->∀ y,r.rc.D y=false:=fun {r} h2 y=>by
       cases hd:r.rc.D y with
       | false=>rfl
       | true=>have:=Rx.dm_iff.2 hd; rw [h2] at this; simp at this
      have q1:∀ x,xi.rc.D x=true->(qi a xk).F.testBit x=false/\xk.dm.testBit x=false:=fun x hx=>by
       have:=pv hh.1 (Rx.dm_iff.2 hx)
       rw [show Nat.lor (qi a xk).F xk.dm=(qi a xk).F ||| xk.dm from rfl,Nat.testBit_or,Bool.or_eq_false_iff] at this
       exact this
      refine ⟨a1,a2,a3,fun x hx=>(A0 (q1 x hx).1).imp (fun h=>h) (fun h=>⟨h.1,em h.2⟩),fun x hx=>(A0 (pv hh.2 (Rx.dm_iff.2 hx))).imp (fun h=>h) (fun h=>⟨h.1,em h.2⟩),fun x hx=>?_⟩
      cases hy:xk.rc.D x with
      | false=>rfl
      | true=>
       have:=(q1 x hx).2
       rw [Rx.dm_iff.2 hy] at this
       cases this
 ·rw [List.getElem?_map] at hri
  cases hxi:rs[i]? with
  | none=>rw [hxi] at hri; cases hri
  | some xi=>
   rw [hxi] at hri
   simp only [Option.map_some,Zh] at hri
   subst hri
   refine vv hf (N:=N) (ops:=l.toArray) (cs:=Rn E a rs) l rs E E'.st hseq hlow (by simpa using hsr) i oi xi hi hxi hD hF _ ?_
   unfold Rn
   rcases zb (a:=a) rs l E.st m hm hlen with e | ⟨r,h1,h2⟩
   ·rw [e]; exact List.mem_cons_self
   ·rw [h2]; exact List.mem_cons_of_mem _ (List.mem_map.2 ⟨r,h1,rfl⟩)
theorem Ef {P:Program} {N:Nat} {f:df} (hf:f.Ok P) {l:List Oper} {E E':ESX} {rs:List Rx} (hlow:J4 E.h E.u) (hseq:SeqX P N l.toArray l E.st (rs.map Rx.rc) E'.st) (hc:w8 f l.toArray E rs=true):∃ a,DrawA P E.st a l (rs.map Rx.rc):=by
 unfold w8 at hc
 rw [Bool.and_eq_true] at hc
 obtain ⟨a,_,ha⟩:=List.any_eq_true.1 hc.2
 exact ⟨a,Gz hf hlow hseq hc.1 ha⟩
/-- The same record, said of bits. -/
def zk (E:ESX) (r:Rec):Option Rx :=
 bif r.fp.all (fun id=>Nat.ble (id+1) E.u) then match r.δ with
  | []=>bif Nat.beq r.u E.u then some ⟨jb r.fp,0,E.u,E.u,E.h,r.v⟩ else none
  | [p]=>bif Nat.beq p.1 E.u then (bif Nat.beq r.u (E.u+1) then (match Tri.set 24 E.h E.u p.2 with
     | some h=>some ⟨jb r.fp,0,E.u,E.u+1,h,r.v⟩
     | none=>none) else none)
    else bif r.fp.contains p.1&&Nat.beq r.u E.u then (match Tri.set 24 E.h p.1 p.2 with
     | some h=>some ⟨jb r.fp,Nat.shiftLeft 1 p.1,E.u,E.u,h,r.v⟩
     | none=>none) else none
  | _=>none
 else none
theorem pp {P:Program} {E:ESX} {o:Oper} {r:Rec} {x:Rx} (h:zk E r=some x) (hL:LOp P o (bm E.t) (bc E.h) r.fp r.δ r.v):x.u0=E.u/\Fits (bc E.h) x.rc/\va P o (bm E.t) (bc E.h) x.rc:=by
 unfold zk at h
 cases ha:r.fp.all (fun id=>Nat.ble (id+1) E.u) with
 | false=>rw [ha] at h; simp at h
 | true=>
  rw [ha] at h
  simp only [cond_true] at h
  have hlow:∀ id,(jb r.fp).testBit id=true->id < E.u:=fun id hid=>Nat.le_of_ble_eq_true (List.all_eq_true.1 ha id (Hz.1 hid))
  split at h
  ·rename_i hδ
   cases hb:Nat.beq r.u E.u with
   | false=>rw [hb] at h; simp at h
   | true=>
    rw [hb] at h
    simp only [cond_true,Zh] at h
    subst h
    rw [hδ] at hL
    refine ⟨rfl,⟨Nat.le_refl _,fun id _=>rfl,fun id hid=>?_,hlow⟩,hL.toX⟩
    have:(0:Nat).testBit id=true:=hid
    simp at this
  ·rename_i p hδ
   obtain ⟨pid,pb⟩:=p
   rw [hδ] at hL
   simp only at h
   cases hb:Nat.beq pid E.u with
   | true=>
    rw [hb] at h
    simp only [cond_true] at h
    obtain rfl:=Zg hb
    cases hu:Nat.beq r.u (E.u+1) with
    | false=>rw [hu] at h; simp at h
    | true=>
     rw [hu] at h
     simp only [cond_true] at h
     split at h
     ·rename_i h' hs
      simp only [Zh] at h
      subst h
      refine ⟨rfl,⟨Nat.le_succ _,fun id hid=>?_,fun id hid=>?_,hlow⟩,?_⟩
      ·show bc h' id=_
       rw [l6 hs]
       have:id≠E.u:=fun e=>by
        have h2:=hid
        rw [show Rc.D (Rx.rc ⟨jb r.fp,0,E.u,E.u+1,h',r.v⟩) id=true from Rc.D_iff.2 (.inr ⟨by show E.u<=id; omega,by show id < E.u+1; omega⟩)] at h2
        cases h2
       rw [am _ _ this]
      ·have:(0:Nat).testBit id=true:=hid
       simp at this
      ·have:=hL.toX_new
       have e:bc h'=(bc E.h).set E.u pb:=l6 hs
       show va P o (bm E.t) (bc E.h) ⟨jb r.fp,0,E.u,E.u+1,bc h',r.v⟩
       rw [e]
       exact this
     ·cases h
   | false=>
    rw [hb] at h
    simp only [cond_false] at h
    cases hc:(r.fp.contains pid&&Nat.beq r.u E.u) with
    | false=>rw [hc] at h; simp at h
    | true=>
     rw [hc] at h
     simp only [cond_true] at h
     rw [Bool.and_eq_true,List.contains_iff_mem] at hc
     split at h
     ·rename_i h' hs
      simp only [Zh] at h
      subst h
      have e:bc h'=(bc E.h).set pid pb:=l6 hs
      refine ⟨rfl,⟨Nat.le_refl _,fun id hid=>?_,fun id hid=>?_,hlow⟩,?_⟩
      ·show bc h' id=_
       rw [e]
       have:id≠pid:=fun e=>by
        subst e
        have h2:=hid
        rw [show Rc.D (Rx.rc ⟨jb r.fp,Nat.shiftLeft 1 id,E.u,E.u,h',r.v⟩) id=true from Rc.D_iff.2 (.inl (ut.2 rfl))] at h2
        cases h2
       rw [am _ _ this]
      ·have:(Nat.shiftLeft 1 pid).testBit id=true:=hid
       rw [ut] at this
       subst this
       exact Hz.2 hc.1
      ·have:=hL.toX_old (u:=E.u) hc.1
       show va P o (bm E.t) (bc E.h) ⟨jb r.fp,Nat.shiftLeft 1 pid,E.u,E.u,bc h',r.v⟩
       rw [e]
       exact this
     ·cases h
  ·cases h
abbrev F4:=FuncId->List AV->Tri (Option Blk)->Nat->Option Rx
def F4.Ok (P:Program) (call:F4):Prop:=∀ f ys h u r,J4 h u->call f ys h u=some r->r.u0=u/\Fits (bc h) r.rc/\Jz P f ys (bc h) r.rc
/-- A step that only looks at slots. -/
def fv (E:ESX) (v:AV):Rx:=⟨0,0,E.u,E.u,E.h,v⟩
theorem c8 {P:Program} {E:ESX} {o:Oper} {v:AV} (hL:LOp P o (bm E.t) (bc E.h) [] [] v):(fv E v).u0=E.u/\Fits (bc E.h) (fv E v).rc/\va P o (bm E.t) (bc E.h) (fv E v).rc:=by
 refine ⟨rfl,⟨Nat.le_refl _,fun id _=>rfl,fun id hid=>?_,fun id hid=>?_⟩,hL.toX⟩
 ·exact hid
 ·have:(0:Nat).testBit id=true:=hid
  simp at this
section
variable {P:Program} {τ:Nat->AV} {η:au} {d:Option Tmp} {ty:TypeId} {pos:String} {af:Array Edge} {g:Option (Nat×Bool)}
theorem LOp.makeFunc {f:FuncId} {caps:Array Operand}:LOp P ⟨d,.makeFunc (.func f) #[] caps,ty,pos,af,g⟩ τ η [] [] (.clo f (caps.toList.map (aev τ))) :=
 .look [] fun C a hg hx _=>by
  refine ⟨.func (.func f) #[] (caps.map a.eval),by simp [execOp,Instr.makeFunc],.clo (by simp) (fun i h h'=>?_)⟩
  simp only [List.getElem_map,Array.getElem_toList,Array.getElem_map]
  exact hx _ (by simp [Op.operands])
end
def If (n:Int):Bool:=match n with
 | .ofNat m=>Nat.ble m 9223372036854775807
 | .negSucc m=>Nat.ble m 9223372036854775807
theorem Dm {n:Int} (h:If n=true):IntKind.i64.wrap n=n:=by
 apply IntWalk.i64_in
 cases n with
 | ofNat m=>
  have:=Nat.le_of_ble_eq_true h
  simp only [Int.ofNat_eq_natCast]
  omega
 | negSucc m=>
  have:=Nat.le_of_ble_eq_true h
  omega
def ltI:Int->Int->Bool
 | .ofNat a,.ofNat b=>Nat.blt a b
 | .ofNat _,.negSucc _=>false
 | .negSucc _,.ofNat _=>true
 | .negSucc a,.negSucc b=>Nat.blt b a
theorem H2 (a b:Int):ltI a b=decide (a < b):=by
 rw [Bool.eq_iff_iff,decide_eq_true_eq]
 cases a <;> cases b <;> simp [ltI] <;> omega
theorem N5 (a b:Int):(!ltI b a)=decide (a<=b):=by
 rw [H2]
 by_cases h:b < a
 ·have:¬ a<=b:=by omega
  simp [h,this]
 ·have:a<=b:=by omega
  simp [h,this]
def eqI:Int->Int->Bool
 | .ofNat a,.ofNat b=>Nat.beq a b
 | .negSucc a,.negSucc b=>Nat.beq a b
 | _,_=>false
theorem I6 (a b:Int):eqI a b=(a==b):=by
 rw [Bool.eq_iff_iff,beq_iff_eq]
 cases a <;> cases b <;> simp [eqI] <;> omega
/-- Sums and comparisons of ints. -/
def Re (op:BinOp) (a b:Int):Option Value:=match op with
 | .add=>bif If (a+b) then some (.int .i64 (a+b)) else none
 | .sub=>bif If (a - b) then some (.int .i64 (a - b)) else none
 | .eql=>some (.bool (eqI a b))
 | .neq=>some (.bool (!eqI a b))
 | .lss=>some (.bool (ltI a b))
 | .gtr=>some (.bool (ltI b a))
 | .leq=>some (.bool (!ltI b a))
 | .geq=>some (.bool (!ltI a b))
 | _=>none
def E6 (τ:Nat->AV) (op:Op):Option Value:=match op with
 | .binOp bop _ x y _=>match aev τ x with
  | .v (.int .i64 a)=>match aev τ y with
   | .v (.int .i64 b)=>Re bop a b
   | _=>none
  | _=>none
 | .unOp .not _ x=>match aev τ x with
  | .v (.bool b)=>some (.bool !b)
  | _=>none
 | _=>none
theorem x8 {P:Program} {τ:Nat->AV} {η:au} {o:Oper} {y:Value} (h:E6 τ o.op=some y):LOp P o τ η [] [] (.v y):=by
 obtain ⟨d,op,ty,pos,af,g⟩:=o
 refine .look [] fun C a hg hxs _=>⟨y,?_,VR.v C y⟩
 unfold E6 at h
 simp only at h hxs
 split at h
 ·rename_i bop t x z t'
  split at h
  ·rename_i m hx
   split at h
   ·rename_i n hz
    have e1:=hxs x (by simp [Op.operands])
    have e2:=hxs z (by simp [Op.operands])
    rw [hx] at e1
    rw [hz] at e2
    have e1':=e1.v_inv
    have e2':=e2.v_inv
    have hgd:∀ w:World,(eqGuard bop t x z (.int .i64 m) (.int .i64 n)).run P w=.ok () w:=by
     intro w
     unfold eqGuard
     split <;> rfl
    unfold Re at h
    split at h
    ·cases hc:If (m+n) with
     | false=>rw [hc] at h; simp at h
     | true=>
      rw [hc] at h
      simp only [cond_true,Zh] at h
      subst h
      simp only [execOp,e1',e2',Sem.run_bind,hgd,Result.andThen_ok]
      simp [binOp,Op.intArith,Dm hc,Sem.run_bind]
    ·cases hc:If (m - n) with
     | false=>rw [hc] at h; simp at h
     | true=>
      rw [hc] at h
      simp only [cond_true,Zh] at h
      subst h
      simp only [execOp,e1',e2',Sem.run_bind,hgd,Result.andThen_ok]
      simp [binOp,Op.intArith,Dm hc,Sem.run_bind]
    all_goals first
     | (cases h; done)
     |(
      have h':=Option.some.inj h
      subst h'
      simp only [execOp,e1',e2',Sem.run_bind,hgd,Result.andThen_ok]
      first
       | (rw [N5]; rfl)
       | (rw [H2]; rfl)
       | (rw [I6]; rfl))
   ·cases h
  ·cases h
 ·rename_i t x
  split at h
  ·rename_i b hx
   have e1:=hxs x (by simp [Op.operands])
   rw [hx] at e1
   have e1':=e1.v_inv
   simp only [Zh] at h
   subst h
   simp [execOp,e1',Op.unary,Sem.run_bind]
  ·cases h
 ·cases h
/-- An operation; 'ov': functions whose contracts are known, 'ovr': what they give. -/
def opX (P:Program) (ov:FuncId->Bool) (ovr:iy) (call:F4) (ext:df):df:=fun o E=>
 match o.op with
 | .call ⟨.value g,xs,ats⟩=>match aev (bm E.t) g with
  | .clo f caps=>bif co P f then
    (bif ov f then (match g with
     | .func f'=>match Mx P ovr (bm E.t) (bc E.h) E.u f' xs with
      | some r=>zk E r
      | none=>none
     | _=>none)
    else call f (xs.toList.map (aev (bm E.t))++caps) E.h E.u)
   else ext o E
  | _=>none
 | .makeFunc (.func f) ⟨[]⟩ caps=>some (fv E (.clo f (caps.toList.map (aev (bm E.t)))))
 | _=>match E6 (bm E.t) o.op with
  | some y=>some (fv E (.v y))
  | none=>match opE P (fun _ _=>none) o ⟨E.t,E.h,E.u⟩ with
   | some r=>zk E r
   | none=>ext o E
theorem Tv {P:Program} {ov:FuncId->Bool} {ovr:iy} {call:F4} {ext:df} (ho:∀ f ys ret,ovr f ys=some ret->ep P f ys ret) (hc:call.Ok P) (he:ext.Ok P):(opX P ov ovr call ext).Ok P:=by
 intro o E r hl h
 obtain ⟨d,op,ty,pos,af,g⟩:=o
 have rest:∀ (r:Rx),(match E6 (bm E.t) op with
  | some y=>some (fv E (.v y))
  | none=>match opE P (fun _ _=>none) ⟨d,op,ty,pos,af,g⟩ ⟨E.t,E.h,E.u⟩ with
   | some r=>zk E r
   | none=>ext ⟨d,op,ty,pos,af,g⟩ E)=some r->r.u0=E.u/\Fits (bc E.h) r.rc/\va P ⟨d,op,ty,pos,af,g⟩ (bm E.t) (bc E.h) r.rc:=by
  intro r h
  split at h
  ·rename_i y hy
   simp only [Zh] at h
   subst h
   exact c8 (x8 (o:=⟨d,op,ty,pos,af,g⟩) hy)
  ·split at h
   ·rename_i r' hr
    exact pp h (Tw (fun _ _ _ h=>by cases h) _ _ _ hr)
   ·exact he _ _ _ hl h
 unfold opX at h
 simp only at h
 split at h
 ·rename_i g0 xs ats
  split at h
  ·rename_i f caps hg
   cases hb:co P f with
   | false=>
    rw [hb] at h
    simp only [cond_false] at h
    exact he _ _ _ hl h
   | true=>
    rw [hb] at h
    simp only [cond_true] at h
    cases hov:ov f with
    | true=>
     rw [hov] at h
     simp only [cond_true] at h
     split at h
     ·split at h
      ·rename_i r' hr
       exact pp h (Dz ho hr)
      ·cases h
     ·cases h
    | false=>
     rw [hov] at h
     simp only [cond_false] at h
     obtain ⟨q1,q2,q3⟩:=hc _ _ _ _ _ hl h
     exact ⟨q1,q2,va.call hb hg q3⟩
  ·cases h
 ·rename_i f caps
  simp only [Zh] at h
  subst h
  exact c8 LOp.makeFunc
 ·exact rest r h
def Xk (P:Program) (E:ESX):ResultVar->Option (Nat×AV)
 | .tmp t=>some (0,bm E.t t)
 | .cell t ty=>match bm E.t t with
  | .ptr id ver o=>match fm (bc E.h) id ver with
   | none=>none
   | some b=>match el P ty with
    | none=>none
    | some none=>match b.cs[o]? with
     | some v=>some (Nat.shiftLeft 1 id,v)
     | none=>none
    | some (some n)=>match cn o n b.cs with
     | some ds=>some (Nat.shiftLeft 1 id,.agg ds)
     | none=>none
  | _=>none
def Hj (P:Program) (E:ESX):List ResultVar->Option (Nat×List AV)
 | []=>some (0,[])
 | r :: l=>match Xk P E r with
  | none=>none
  | some (m,v)=>match Hj P E l with
   | none=>none
   | some (m',vs)=>some (Nat.lor m m',v :: vs)
theorem P9 {P:Program} {RD:Nat->Prop} {M N:Nat} {E:ESX} {r:ResultVar} {m:Nat} {v:AV} (hR:∀ id b,bc E.h id=some b->m.testBit id=true->RD id) (h:Xk P E r=some (m,v)):V5 P RD M N E.st r v:=by
 unfold Xk at h
 split at h
 ·simp only [Zh,Prod.mk.injEq] at h
  obtain ⟨rfl,rfl⟩:=h
  exact V5.tmp rfl
 ·rename_i t ty
  split at h
  ·rename_i id ver o hx
   split at h
   ·cases h
   ·rename_i b hb
    obtain ⟨h1,h2,h3⟩:=cb hb
    split at h
    ·cases h
    ·rename_i hr
     split at h
     ·rename_i v' hv
      simp only [Zh,Prod.mk.injEq] at h
      obtain ⟨rfl,rfl⟩:=h
      exact Fo hr hx h1 (hR id b h1 (ut.2 rfl)) h2 h3 hv
     ·cases h
    ·rename_i n hr
     split at h
     ·rename_i ds hv
      simp only [Zh,Prod.mk.injEq] at h
      obtain ⟨rfl,rfl⟩:=h
      exact V5.cellN hr hx h1 (hR id b h1 (ut.2 rfl)) h2 h3 hv
     ·cases h
  ·cases h
theorem C5 {P:Program} {RD:Nat->Prop} {M N:Nat} {E:ESX}:∀ (l:List ResultVar) (m:Nat) (vs:List AV),(∀ id b,bc E.h id=some b->m.testBit id=true->RD id)->Hj P E l=some (m,vs)->AllX P RD M N E.st l vs
 | [],m,vs,_,h=>by
  simp only [Hj,Zh,Prod.mk.injEq] at h
  obtain ⟨rfl,rfl⟩:=h
  exact .nil
 | r :: l,m,vs,hR,h=>by
  simp only [Hj] at h
  split at h
  ·cases h
  ·rename_i m1 v h1
   split at h
   ·cases h
   ·rename_i m2 vs2 h2
    simp only [Zh,Prod.mk.injEq] at h
    obtain ⟨rfl,rfl⟩:=h
    have hor:∀ id,(Nat.lor m1 m2).testBit id=(m1.testBit id||m2.testBit id):=fun id=>Nat.testBit_or ..
    exact .cons (P9 (fun id b hb hm=>hR id b hb (by rw [hor,hm]; rfl)) h1) (C5 l m2 vs2 (fun id b hb hm=>hR id b hb (by rw [hor,hm]; simp)) h2)
def H3 (m u:Nat):Nat:=Nat.mod m (Nat.shiftLeft 1 u)
theorem Dh {m u id:Nat}:(H3 m u).testBit id=true↔(id < u/\m.testBit id=true):=by
 have h:H3 m u=m % 2 ^ u:=by
  show m % (1 <<< u)=_
  rw [Nat.one_shiftLeft]
 rw [h,Nat.testBit_mod_two_pow,Bool.and_eq_true,decide_eq_true_eq]
def We (P:Program) (fn:Func) (E:ESX) (u:Nat):Option Rx:=match Hj P E fn.results.toList with
 | none=>none
 | some (m,vs)=>kj (H3 (Nat.lor E.rd m) u) fun F=>kj (H3 E.wr u) fun W=>some ⟨F,W,u,E.u,E.h,Sp vs⟩
theorem xx {ys:List AV} {t:Tri AV} (ht:oh 0 ys .nil=some t):bm t=f0 ys:=by
 funext i
 rw [El _ _ _ _ ht i]
 simp only [f0,List.getD]
 by_cases hi:i < ys.length
 ·rw [dif_pos (by omega)]; simp [hi]
 ·rw [dif_neg (by omega),List.getElem?_eq_none (Nat.le_of_not_lt hi),Gl]; rfl
def Ctx.allocO (C:Ctx) (u:Nat) (o:Obj) (b:Blk):Ctx :=
 { ρ:=fun i=>if i=u then (C.w.heap.size,0) else C.ρ i,sz:=C.sz,η:=C.η.set u (some b),U:=fun i=>C.U i\/i=u,T:=C.T,w:=C.w.alloc o }
section
variable {C:Ctx} {u:Nat} {o:Obj} {b:Blk}
theorem lm (hg:Good C) (hu:¬ C.U u):Ev C (C.allocO u o b) where
 os:=rfl
 tape:=rfl
 output:=rfl
 size:=by simp [Ctx.allocO]
 keep:=fun k hk _=>Below.heap_alloc _ _ _ hk
 mine:=fun k ⟨id,⟨b',hb',hn'⟩,hk⟩=>by
  by_cases e:id=u
  ·right; subst e; simp only [Ctx.allocO,if_true] at hk; omega
  ·left
   simp only [Ctx.allocO] at hb' hk
   rw [am _ _ e] at hb'
   simp only [e,if_false] at hk
   exact ⟨id,⟨b',hb',hn'⟩,hk⟩
 T:=fun _ h=>h
 Tnew:=fun _ h=>.inl h
 U:=fun _ h=>.inl h
 old:=fun id b' hid hb'=>by
  have e:id≠u:=fun e=>hu (e ▸ hid)
  simp only [Ctx.allocO] at hb'
  rw [am _ _ e] at hb'
  exact ⟨b',hb',Nat.le_refl _,fun _=>⟨by simp [Ctx.allocO,e],rfl,rfl,rfl⟩⟩
theorem m5 (hg:Good C) (hu:¬ C.U u) (hk:b.kind=2) (ho:ObjR C b.cs o):Good (C.allocO u o b):=by
 have he:=lm (C:=C) (u:=u) (o:=o) (b:=b) hg hu
 have hlive:∀ {id b'},(C.allocO u o b).η id=some b'->(id=u/\b'=b)\/(id≠u/\C.η id=some b'):=by
  intro id b' hb'
  simp only [Ctx.allocO] at hb'
  by_cases e:id=u
  ·subst e; rw [ae] at hb'; cases hb'; exact .inl ⟨rfl,rfl⟩
  ·rw [am _ _ e] at hb'; exact .inr ⟨e,hb'⟩
 have hlt:∀ {id b'},C.η id=some b'->b'.kind≠1->(C.ρ id).1 < C.w.heap.size:=fun hb' hk=>hg.lt ⟨_,hb',hk⟩
 refine ⟨?_,?_,?_,?_,?_,?_,?_⟩
 ·intro id b' hb'
  rcases hlive hb' with ⟨rfl,rfl⟩ | ⟨e,hb'⟩
  ·exact .inr rfl
  ·exact .inl (hg.used hb')
 ·intro id b' hb' hn'
  rcases hlive hb' with ⟨rfl,rfl⟩ | ⟨e,hb'⟩
  ·refine ⟨o,?_,ho.mono hg he⟩
   simp only [Ctx.allocO,if_true]; exact heap_alloc_new C.w _
  ·obtain ⟨ob,h1,h2⟩:=hg.obj hb' hn'
   have e1:(C.allocO u o b).ρ id=C.ρ id:=by simp [Ctx.allocO,e]
   rw [e1]
   exact ⟨ob,(Below.heap_alloc _ _ _ (hlt hb' (by rw [hn']; decide))).trans h1,h2.mono hg he⟩
 ·intro id b' hb' hn'
  rcases hlive hb' with ⟨rfl,rfl⟩ | ⟨e,hb'⟩
  ·rw [eg hn'] at hk; cases hk
  ·obtain ⟨c,t',h1,h2,h3,h4⟩:=hg.blk hb' hn'
   have e1:(C.allocO u o b).ρ id=C.ρ id:=by simp [Ctx.allocO,e]
   rw [e1]
   refine ⟨c,t',?_,h2,h3,fun j h h'=>(h4 j h h').mono hg he⟩
   exact (Below.heap_alloc _ _ _ (hlt hb' (d7 hn'))).trans h1
 ·rintro id id' ⟨b1,hb1,hn1⟩ ⟨b2,hb2,hn2⟩ h
  rcases hlive hb1 with ⟨h1,_⟩ | ⟨e1,hb3⟩ <;> rcases hlive hb2 with ⟨h2,_⟩ | ⟨e2,hb4⟩
  ·exact h1.trans h2.symm
  ·have:=hlt hb4 hn2
   simp only [Ctx.allocO,h1,if_true,e2,if_false] at h; omega
  ·have:=hlt hb3 hn1
   simp only [Ctx.allocO,h2,if_true,e1,if_false] at h; omega
  ·simp only [Ctx.allocO,e1,e2,if_false] at h
   exact hg.inj ⟨b1,hb3,hn1⟩ ⟨b2,hb4,hn2⟩ h
 ·refine hg.tokE he.toFr0 fun k hk=>?_
  have:=hg.tlt (k:=k) hk
  simp [Ctx.allocO]; omega
 ·rintro k ⟨id,⟨b',hb',hn'⟩,hk⟩ hT
  rcases hlive hb' with ⟨rfl,rfl⟩ | ⟨e,hb'⟩
  ·have:=hg.tlt (k:=k) hT
   simp only [Ctx.allocO,if_true] at hk; omega
  ·simp only [Ctx.allocO,e,if_false] at hk
   exact hg.apart ⟨id,⟨b',hb',hn'⟩,hk⟩ hT
 ·intro id b' hb' hv' hn'
  rcases hlive hb' with ⟨rfl,rfl⟩ | ⟨e,hb'⟩
  ·rw [eg hn'] at hk; cases hk
  ·have e1:(C.allocO u o b).ρ id=C.ρ id:=by simp [Ctx.allocO,e]
   rw [e1]
   exact hg.tight hb' hv' hn'
def Ctx.setO (C:Ctx) (id:Nat) (b:Blk) (o:Obj):Ctx :=
 { C with η:=C.η.set id (some b),w:={ C.w with heap:=C.w.heap.setIfInBounds (C.ρ id).1 o } }
variable {id:Nat} {b0:Blk}
theorem G3 {w:World} {k:Nat} (h:k < w.heap.size):(w.heap.setIfInBounds k o)[k]? = some o:=by
 rw [Array.getElem?_setIfInBounds,if_pos rfl,if_pos h]
theorem qk {w:World} {k j:Nat} (h:j≠k):(w.heap.setIfInBounds k o)[j]? = w.heap[j]?:=by
 rw [Array.getElem?_setIfInBounds,if_neg (fun e=>h e.symm)]
theorem lh (hg:Good C) (hb:C.η id=some b0) (hk0:b0.kind=2) (hk:b.kind=2) (hv:b.ver=b0.ver) (hz:b.esz=b0.esz):Ev C (C.setO id b o) where
 os:=rfl
 tape:=rfl
 output:=rfl
 size:=by simp [Ctx.setO]
 keep:=fun k _ hm=>qk (fun e=>hm ⟨id,⟨b0,hb,by rw [hk0]; decide⟩,e.symm⟩)
 mine:=fun k ⟨id',⟨b',hb',hn'⟩,hk'⟩=>by
  left
  by_cases e:id'=id
  ·subst e; exact ⟨id',⟨b0,hb,by rw [hk0]; decide⟩,hk'⟩
  ·simp only [Ctx.setO] at hb'
   rw [am _ _ e] at hb'
   exact ⟨id',⟨b',hb',hn'⟩,hk'⟩
 T:=fun _ h=>h
 Tnew:=fun _ h=>.inl h
 U:=fun _ h=>h
 old:=fun id' b' hid hb'=>by
  simp only [Ctx.setO] at hb'
  by_cases e:id'=id
  ·subst e
   rw [ae] at hb'
   cases hb'
   exact ⟨b0,hb,by omega,fun _=>⟨rfl,rfl,hk.trans hk0.symm,hz⟩⟩
  ·rw [am _ _ e] at hb'
   exact ⟨b',hb',Nat.le_refl _,fun _=>⟨rfl,rfl,rfl,rfl⟩⟩
theorem lg (hg:Good C) (hb:C.η id=some b0) (hk0:b0.kind=2) (hk:b.kind=2) (hv:b.ver=b0.ver) (hz:b.esz=b0.esz) (ho:ObjR C b.cs o):Good (C.setO id b o):=by
 have he:=lh (C:=C) (o:=o) hg hb hk0 hk hv hz
 have hlive0:C.live id:=⟨b0,hb,by rw [hk0]; decide⟩
 have hlt0:=hg.lt hlive0
 have hlive:∀ {id' b'},(C.setO id b o).η id'=some b'->(id'=id/\b'=b)\/(id'≠id/\C.η id'=some b'):=by
  intro id' b' hb'
  simp only [Ctx.setO] at hb'
  by_cases e:id'=id
  ·subst e; rw [ae] at hb'; cases hb'; exact .inl ⟨rfl,rfl⟩
  ·rw [am _ _ e] at hb'; exact .inr ⟨e,hb'⟩
 have hold:∀ {id' b'},(C.setO id b o).η id'=some b'->b'.kind≠1->C.live id':=by
  intro id' b' hb' hn'
  rcases hlive hb' with ⟨rfl,rfl⟩ | ⟨_,h⟩
  ·exact hlive0
  ·exact ⟨b',h,hn'⟩
 have hne:∀ {id' b'},id'≠id->C.η id'=some b'->b'.kind≠1->(C.ρ id').1≠(C.ρ id).1:=fun hi hb' hn' e=>hi (hg.inj ⟨_,hb',hn'⟩ hlive0 e)
 refine ⟨?_,?_,?_,?_,?_,?_,?_⟩
 ·intro id' b' hb'
  rcases hlive hb' with ⟨rfl,rfl⟩ | ⟨e,hb'⟩
  ·exact hg.used hb
  ·exact hg.used hb'
 ·intro id' b' hb' hn'
  rcases hlive hb' with ⟨rfl,rfl⟩ | ⟨e,hb'⟩
  ·exact ⟨o,G3 hlt0,ho.mono hg he⟩
  ·obtain ⟨ob,h1,h2⟩:=hg.obj hb' hn'
   exact ⟨ob,(qk (hne e hb' (by rw [hn']; decide))).trans h1,h2.mono hg he⟩
 ·intro id' b' hb' hn'
  rcases hlive hb' with ⟨rfl,rfl⟩ | ⟨e,hb'⟩
  ·rw [eg hn'] at hk; cases hk
  ·obtain ⟨c,t',h1,h2,h3,h4⟩:=hg.blk hb' hn'
   exact ⟨c,t',(qk (hne e hb' (d7 hn'))).trans h1,h2,h3,fun j h h'=>(h4 j h h').mono hg he⟩
 ·rintro i i' ⟨b1,hb1,hn1⟩ ⟨b2,hb2,hn2⟩ h
  exact hg.inj (hold hb1 hn1) (hold hb2 hn2) h
 ·refine hg.tokE he.toFr0 fun k hk=>?_
  have:=hg.tlt (k:=k) hk
  simpa [Ctx.setO] using this
 ·rintro k ⟨i,⟨b',hb',hn'⟩,hk⟩ hT
  exact hg.apart ⟨i,hold hb' hn',hk⟩ hT
 ·intro id' b' hb' hv' hn'
  rcases hlive hb' with ⟨rfl,rfl⟩ | ⟨e,hb'⟩
  ·rw [eg hn'] at hk; cases hk
  ·exact hg.tight hb' hv' hn'
end
def Nl:List AV->Option (List (Value×AV×Nat))
 | []=>some []
 | .agg [.v k,a,.v (.int .i64 (.ofNat n))] :: l=>match Nl l with
  | some r=>some ((k,a,n) :: r)
  | none=>none
 | _=>none
theorem Pe:∀ (l:List AV) (es:List (Value×AV×Nat)),Nl l=some es->l=es.map fun e=>.agg [.v e.1,e.2.1,.v (.int .i64 (Int.ofNat e.2.2))]:=by
 intro l
 induction l with
 | nil=>intro es h; simp only [Nl,Zh] at h; subst h; rfl
 | cons x l ih=>
  intro es h
  unfold Nl at h
  split at h
  ·rename_i e; cases e
  ·rename_i k a n l' e
   obtain ⟨rfl,rfl⟩:=List.cons.inj e
   split at h
   ·rename_i r hr
    simp only [Zh] at h
    subst h
    rw [List.map_cons,<- ih _ hr]
   ·cases h
  ·cases h
def Gj:List AV->Option (Nat×List (Value×AV×Nat))
 | .v (.int .i64 (.ofNat 0)) :: .v (.int .i64 (.ofNat clock)) :: l=>match Nl l with
  | some es=>some (clock,es)
  | none=>none
 | _=>none
theorem Kq {cs:List AV} {clock:Nat} {es:List (Value×AV×Nat)} (h:Gj cs=some (clock,es)):cs=jm clock es:=by
 unfold Gj at h
 split at h
 ·rename_i clock' l
  split at h
  ·rename_i es' he
   simp only [Zh,Prod.mk.injEq] at h
   obtain ⟨rfl,rfl⟩:=h
   unfold jm
   rw [<- Pe _ _ he]
   rfl
  ·cases h
 ·cases h
def bn (ver esz clock:Nat) (es:List (Value×AV×Nat)):Blk:=⟨ver,jm clock es,esz,true⟩
theorem zn:∀ {es es':List (Value×AV×Nat)},(es.map fun e=>AV.agg [.v e.1,e.2.1,.v (.int .i64 (Int.ofNat e.2.2))])=(es'.map fun e=>.agg [.v e.1,e.2.1,.v (.int .i64 (Int.ofNat e.2.2))])->es=es'
 | [],[],_=>rfl
 | [],_ :: _,h=>by cases h
 | _ :: _,[],h=>by cases h
 | (k,a,n) :: l,(k',a',n') :: l',h=>by
  simp only [List.map_cons,List.cons.injEq,AV.agg.injEq,AV.v.injEq,Value.int.injEq,Int.ofNat.injEq,and_true,true_and] at h
  obtain ⟨⟨rfl,rfl,h3⟩,h4⟩:=h
  have h3':n=n':=by first | exact h3 | exact Int.ofNat.inj h3 | simpa using h3
  subst h3'
  rw [zn h4]
theorem ObjR.map_inv {C:Ctx} {clock:Nat} {es:List (Value×AV×Nat)} {o:Obj} (h:ObjR C (jm clock es) o):∃ entries,o=.map entries clock/\es.length=entries.size/\∀ i (h:i < es.length) (h':i < entries.size),entries[i].key=es[i].1/\VR C es[i].2.1 entries[i].val/\entries[i].born=es[i].2.2:=by
 generalize hc:jm clock es=cs at h
 cases h with
 | map hl hi=>
  rename_i es' entries clock'
  unfold jm at hc
  simp only [List.cons.injEq,AV.v.injEq,Value.int.injEq,true_and] at hc
  obtain ⟨h1,h2⟩:=hc
  have h1':clock=clock':=Int.ofNat.inj h1
  subst h1'
  obtain rfl:=zn h2
  exact ⟨entries,rfl,hl,hi⟩
 | siter=>exact absurd (List.cons.inj hc).1 (by simp)
 | miter0=>exact absurd (List.cons.inj hc).1 (by simp)
 | miter _=>exact absurd (List.cons.inj hc).1 (by simp)
def nv (η:au) (id ver:Nat):Option (Blk×Nat×List (Value×AV×Nat)):=match η id with
 | some b=>bif Nat.beq b.ver ver&&b.nilp then (match Gj b.cs with
  | some (clock,es)=>some (b,clock,es)
  | none=>none) else none
 | none=>none
theorem gp {η:au} {id ver clock:Nat} {b:Blk} {es:List (Value×AV×Nat)} (h:nv η id ver=some (b,clock,es)):η id=some b/\b=bn ver b.esz clock es:=by
 unfold nv at h
 cases hb:η id with
 | none=>rw [hb] at h; cases h
 | some b'=>
  rw [hb] at h
  simp only at h
  cases hc:(Nat.beq b'.ver ver&&b'.nilp) with
  | false=>rw [hc] at h; simp at h
  | true=>
   rw [hc] at h
   simp only [cond_true] at h
   rw [Bool.and_eq_true] at hc
   split at h
   ·rename_i cl es' hm
    simp only [Zh,Prod.mk.injEq] at h
    obtain ⟨rfl,rfl,rfl⟩:=h
    refine ⟨rfl,?_⟩
    obtain ⟨v,cs,z,n⟩:=b'
    have e1:=Zg hc.1
    have e2:=hc.2
    have e3:=Kq hm
    simp only at e1 e2 e3
    subst e1 e2 e3
    rfl
   ·cases h
theorem VR.mp_inv {C:Ctx} {id ver:Nat} {b:Blk} {x:Value} (h:VR C (.mp id ver) x) (hb:C.η id=some b) (hv:b.ver=ver):x=.map (some (C.ρ id).1):=by
 cases h with
 | imm h=>cases h
 | mp _ _ _=>rfl
 | stalem _ _ hs=>have:=hs b hb; omega
theorem VR.it_inv {C:Ctx} {id ver:Nat} {b:Blk} {x:Value} (h:VR C (.it id ver) x) (hb:C.η id=some b) (hv:b.ver=ver):x=.pointer (some ⟨(C.ρ id).1,0,none⟩):=by
 cases h with
 | imm h=>cases h
 | it _ _ _=>rfl
 | stalei _ _ hs=>have:=hs b hb; omega
theorem v8 {α β:Type} {P:Program}:∀ (s:Sem α) (f:α->Sem β) (b:β),db P (s.bind f)=some b->∃ a,db P s=some a/\db P (f a)=some b:=by
 intro s
 induction s with
 | pure a=>intro f b h; exact ⟨a,rfl,h⟩
 | program k ih=>intro f b h; exact ih P f b h
 | mark m k ih=>intro f b h; exact ih f b h
 | choose q k ih=>
  intro f b h
  simp only [Sem.bind,db] at h
  cases hq:q.forced with
  | false=>rw [hq] at h; simp at h
  | true=>
   rw [hq] at h
   simp only [cond_true] at h
   obtain ⟨a,h1,h2⟩:=ih 0 f b h
   exact ⟨a,by simp only [db,hq,cond_true]; exact h1,h2⟩
 | _=>intro f b h; simp [Sem.bind,db] at h
/-- What a search gives on entries with the same keys and other values. -/
def qx (es:List MapEntry) (i0:Nat) (r0 r1:Option (Nat×Value)):Prop:=match r0 with
 | none=>r1=none
 | some (i,_)=>∃ j e,i=i0+j/\es[j]? = some e/\r1=some (i,e.val)
theorem rh {e:MapEntry} {es:List MapEntry} {i0:Nat} {r0 r1:Option (Nat×Value)} (h:qx es (i0+1) r0 r1):qx (e :: es) i0 r0 r1:=by
 unfold qx at h ⊢
 cases r0 with
 | none=>exact h
 | some q=>
  obtain ⟨j,e',h1,h2,h3⟩:=h
  exact ⟨j+1,e',by omega,by simpa using h2,h3⟩
theorem rm {kd:TypeDesc} {k:Value}:∀ (es es':List MapEntry) (i:Nat) (r0:Option (Nat×Value)),es.map (·.key)=es'.map (·.key)->Instr.findNow kd k es i=some r0->∃ r1,Instr.findNow kd k es' i=some r1/\qx es' i r0 r1
 | [],[],i,r0,_,h=>by
  simp only [Instr.findNow,Zh] at h
  subst h
  exact ⟨none,rfl,rfl⟩
 | [],_ :: _,_,_,hk,_=>by simp at hk
 | _ :: _,[],_,_,hk,_=>by simp at hk
 | e :: es,e' :: es',i,r0,hk,h=>by
  simp only [List.map_cons,List.cons.injEq] at hk
  simp only [Instr.findNow,hk.1] at h ⊢
  cases hs:Instr.sameNow kd k e'.key with
  | none=>rw [hs] at h; cases h
  | some b=>
   rw [hs] at h
   cases b with
   | true=>
    simp only [Zh] at h
    subst h
    exact ⟨_,rfl,0,e',rfl,rfl,rfl⟩
   | false=>
    obtain ⟨r1,h1,h2⟩:=rm es es' (i+1) r0 hk.2 h
    exact ⟨r1,h1,rh h2⟩
theorem rl {kd:TypeDesc} {k:Value}:∀ (es es':List MapEntry) (i:Nat),es.map (·.key)=es'.map (·.key)->Instr.findNow kd k es i=none->Instr.findNow kd k es' i=none
 | [],[],i,_,h=>by simp [Instr.findNow] at h
 | [],_ :: _,_,hk,_=>by simp at hk
 | _ :: _,[],_,hk,_=>by simp at hk
 | e :: es,e' :: es',i,hk,h=>by
  simp only [List.map_cons,List.cons.injEq] at hk
  simp only [Instr.findNow,hk.1] at h ⊢
  cases hs:Instr.sameNow kd k e'.key with
  | none=>rfl
  | some b=>
   rw [hs] at h
   cases b with
   | true=>cases h
   | false=>exact rl es es' (i+1) hk.2 h
theorem mu {P:Program} {kt:TypeId} {k:Value}:∀ (es es':List MapEntry) (i:Nat) (r0:Option (Nat×Value)),es.map (·.key)=es'.map (·.key)->db P (Instr.findAsking kt k es i)=some r0->∃ r1,db P (Instr.findAsking kt k es' i)=some r1/\qx es' i r0 r1
 | [],[],i,r0,_,h=>by
  have h':some (none:Option (Nat×Value))=some r0:=h
  simp only [Zh] at h'
  subst h'
  exact ⟨none,rfl,rfl⟩
 | [],_ :: _,_,_,hk,_=>by simp at hk
 | _ :: _,[],_,_,hk,_=>by simp at hk
 | e :: es,e' :: es',i,r0,hk,h=>by
  simp only [List.map_cons,List.cons.injEq] at hk
  simp only [Instr.findAsking] at h ⊢
  rw [hk.1] at h
  obtain ⟨b,h1,h2⟩:=v8 _ _ _ h
  have up:∀ (f g:Bool->Sem (Option (Nat×Value))) r1,db P (g b)=some r1->db P ((Op.equal kt k e'.key).bind g)=some r1:=by
   intro f g r1 hg
   have key:∀ (s:Sem Bool) (b:Bool),db P s=some b->db P (g b)=some r1->db P (s.bind g)=some r1:=by
    intro s
    induction s with
    | pure a=>intro b h hg; simp only [db,Zh] at h; subst h; exact hg
    | program k ih=>intro b h hg; exact ih P b h hg
    | mark m k ih=>intro b h hg; exact ih b h hg
    | choose q k ih=>
     intro b h hg
     simp only [Sem.bind,db] at h ⊢
     cases hq:q.forced with
     | false=>rw [hq] at h; simp at h
     | true=>
      rw [hq] at h
      simp only [cond_true] at h ⊢
      exact ih 0 b h hg
    | _=>intro b h hg; simp [db] at h
   exact key _ b h1 hg
  cases b with
  | true=>
   have h2':some (some (i,e.val))=some r0:=h2
   simp only [Zh] at h2'
   subst h2'
   exact ⟨some (i,e'.val),up (fun _=>.pure none) _ _ rfl,0,e',rfl,rfl,rfl⟩
  | false=>
   obtain ⟨r1,g1,g2⟩:=mu es es' (i+1) r0 hk.2 h2
   exact ⟨r1,up (fun _=>.pure none) _ _ g1,rh g2⟩
theorem r9 {P:Program} {t:TypeId} {d:TypeDesc} (h:db P (underlying t)=some d):P.underlying t=some d:=by
 have h':db P (match P.underlying t with | some d=>(pure d:Sem TypeDesc) | none=>stuck "no such type")=some d:=h
 cases hu:P.underlying t with
 | none=>rw [hu] at h'; cases h'
 | some d'=>
  rw [hu] at h'
  have h'':some d'=some d:=h'
  exact h''
theorem ro {P:Program} {kt:TypeId} {k:Value} {es es':List MapEntry} {r0:Option (Nat×Value)} (hk:es.map (·.key)=es'.map (·.key)) (h:db P (Instr.findKey kt k es)=some r0) (w:World):∃ r1,(Instr.findKey kt k es').run P w=.ok r1 w/\qx es' 0 r0 r1:=by
 unfold Instr.findKey at h ⊢
 obtain ⟨d,h1,h2⟩:=v8 _ _ _ h
 have hu:=r9 h1
 rw [Sem.run_bind,run_underlying hu]
 simp only [Result.andThen_ok]
 cases hn:Instr.findNow d k es 0 with
 | some r=>
  rw [hn] at h2
  have h2':some r=some r0:=h2
  simp only [Zh] at h2'
  subst h2'
  obtain ⟨r1,g1,g2⟩:=rm es es' 0 r hk hn
  rw [g1]
  exact ⟨r1,rfl,g2⟩
 | none=>
  rw [hn] at h2
  rw [rl es es' 0 hk hn]
  obtain ⟨r1,g1,g2⟩:=mu es es' 0 r0 hk h2
  exact ⟨r1,gn _ _ g1 w,g2⟩
/-- The place of a key. -/
def iw (es:List (Value×AV×Nat)):List MapEntry:=es.map fun e=>⟨e.1,undef,e.2.2⟩
def sd (P:Program) (kt:TypeId) (k:Value) (es:List (Value×AV×Nat)):Option (Option Nat) :=
 match db P (Instr.checkKey es.isEmpty 10000 kt k) with
 | none=>none
 | some _=>match db P (Instr.findKey kt k (iw es)) with
  | none=>none
  | some none=>some none
  | some (some (i,_))=>some (some i)
theorem jx {P:Program} {kt:TypeId} {k:Value} {C:Ctx} {es:List (Value×AV×Nat)} {entries:Array MapEntry} {r:Option Nat} (hl:es.length=entries.size) (hi:∀ i (h:i < es.length) (h':i < entries.size),entries[i].key=es[i].1/\VR C es[i].2.1 entries[i].val/\entries[i].born=es[i].2.2)
  (h:sd P kt k es=some r) (w:World):(∀ e,(Instr.checkKey e 10000 kt k).run P w=.ok () w\/e≠es.isEmpty)/\(r=none/\(Instr.findKey kt k entries.toList).run P w=.ok none w\/∃ i,r=some i/\∃ (h1:i < entries.size),(Instr.findKey kt k entries.toList).run P w=.ok (some (i,entries[i].val)) w):=by
 unfold sd at h
 split at h
 ·cases h
 ·rename_i q hq
  have hck:=gn _ _ hq w
  have hkeys:(iw es).map (·.key)=entries.toList.map (·.key):=by
   apply List.ext_getElem
   ·simp [iw,hl]
   ·intro i h1 h2
    simp only [iw,Zl] at h1
    simp only [Zl,Array.length_toList] at h2
    simp [iw,(hi i h1 h2).1]
  refine ⟨fun e=>?_,?_⟩
  ·by_cases he:e=es.isEmpty
   ·subst he; exact .inl hck
   ·exact .inr he
  ·split at h
   ·cases h
   ·rename_i hf
    simp only [Zh] at h
    subst h
    obtain ⟨r1,g1,g2⟩:=ro hkeys hf w
    have g2':r1=none:=g2
    subst g2'
    exact .inl ⟨rfl,g1⟩
   ·rename_i i v hf
    simp only [Zh] at h
    subst h
    obtain ⟨r1,g1,j,e,e1,e2,e3⟩:=ro hkeys hf w
    subst e3
    have e1':i=j:=by omega
    subst e1'
    rw [Array.getElem?_toList] at e2
    obtain ⟨hlt,he⟩:=Array.getElem?_eq_some_iff.1 e2
    subst he
    exact .inr ⟨i,rfl,hlt,g1⟩
end Go.Proofs.YthpangmpihkniaaGreatDoor
