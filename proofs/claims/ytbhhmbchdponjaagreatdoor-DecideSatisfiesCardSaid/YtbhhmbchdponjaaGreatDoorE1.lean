/- Texts of the claim. -/
import Derived.RangeFuncCalls
import Derived.RangeFuncLeaves
import Derived.TacticsIn
import Derived.OrdersIn
import Derived.Test.YtbhhmbchdponjaaGreatDoorA2
namespace Go.Proofs.YtbhhmbchdponjaaGreatDoor
open Go.RowKit
def FOk (F:Fence):Prop:=F=Fence.wide∨∃ l,F=Fence.wide.inRound l
theorem FOk.wide:FOk Fence.wide:=.inl rfl
theorem FOk.fn {F:Fence} (h:FOk F) (f:FuncId):F.fn f:=by rcases h with rfl | ⟨l,rfl⟩ <;> trivial
theorem FOk.depth {F:Fence} (h:FOk F):F.depth=none:=by rcases h with rfl | ⟨l,rfl⟩ <;> rfl
theorem FOk.calls {F:Fence} (h:FOk F) {n:Nat} {P:Program} {f:FuncId} {args:Array Value} {w:World} {R:Ending→World→Prop} (hc:Calls P f args w R):CallsIn F n P f args w R:=by rcases h with rfl | ⟨l,rfl⟩;exact callsIn_wide.2 hc;exact CallsIn.inRound l (callsIn_wide.2 hc)
theorem opIn {F:Fence} {P:Program} {o:Oper} {a:Act} {w:World} {K:Act→World→Prop} {Q:Exit→Act→World→Prop} {n:Nat} (hF:FOk F) (hd:∀ c,o.op≠.defer c) (h:o.wp P a w K Q):o.wpIn F n P a w K Q:=by
 refine ⟨fun _ _=>hF.fn _,?_⟩;rw [Oper.semAt_eq _ _ _ hd];unfold Oper.wp at h;revert h;generalize (execOp a.eval o).run P w=r;intro h;unfold Oper.upon at h;unfold Oper.uponIn;split at h;exact h;exact h;exact h;exact ⟨fun e=>(by rw [hF.depth] at e; cases e),hF.calls h⟩
 exact ⟨fun e=>(by rw [hF.depth] at e; cases e),fun c cs _=>by
  obtain ⟨v,w1,r,s⟩:=h c cs;rcases hF with rfl | ⟨l,rfl⟩;exact ⟨v,w1,r,(stepsIn_wide (P:=P)).2 s⟩;exact ⟨v,w1,r,(stepsIn_wide (P:=P)).2 s⟩⟩
 exact h;cases h
theorem wpIn_loopN {F:Fence} {q:Nat} {P:Program} {c:Code} {Q:Exit→Act→World→Prop} (I:Nat→Act→World→Prop) (round:∀ n a w,I n a w→c.wpIn F q P (Exit.then (fun a' w'=>∃ m,m < n∧I m a' w') Q) a w) {n:Nat} {a:Act} {w:World} (h0:I n a w):(Code.loop c).wpIn F q P Q a w:=by
 intro b k cs hro hb hr
 have key:∀ n a w,I n a w→∃ e a' w',Q e a' w'∧ArrivesIn (Machine.fenced P F) P (lone (b.atR a (.code c :: .inLoop c :: k)) cs w) b k cs e a' w':=by
  intro n;induction n using Nat.strongRecOn with
  | _ n ih=>
   intro a w hI
   obtain ⟨e,a₁,w₁,hq,harr⟩:=round n a w hI b (.inLoop c :: k) cs hro hb hr
   cases e with
   | normal=>
    obtain ⟨m,hlt,hI₁⟩:=hq
    obtain ⟨e₂,a₂,w₂,hq₂,harr₂⟩:=ih m hlt a₁ w₁ hI₁
    exact ⟨e₂,a₂,w₂,hq₂,.of_steps (StepsIn.trans harr (.one (fenced_calm hb hr rfl) stepR_inLoop)) harr₂⟩
   | exit id=>exact ⟨_,a₁,w₁,hq,.pass (x:=.inLoop c) rfl (fun _ _=>.inl (by simp)) harr⟩
   | goto l=>exact ⟨_,a₁,w₁,hq,.pass (x:=.inLoop c) rfl (fun _ _=>.inl (by simp)) harr⟩
   | ret=>exact ⟨_,a₁,w₁,hq,.pass (x:=.inLoop c) rfl (fun _ _=>.inl (by simp)) harr⟩
   | panic ch=>exact ⟨_,a₁,w₁,hq,.pass (x:=.inLoop c) rfl (fun _ _=>.inl (by simp)) harr⟩
   | outgrown=>exact ⟨_,a₁,w₁,hq,.pass (x:=.inLoop c) rfl (fun _ _=>.inl (by simp)) harr⟩
 obtain ⟨e,a',w',hq,harr⟩:=key n a w h0;exact ⟨e,a',w',hq,.of_steps (.one (fenced_calm hb hr rfl) stepR_loop) harr⟩
end Go.Proofs.YtbhhmbchdponjaaGreatDoor
namespace Go.Proofs.YtbhhmbchdponjaaGreatDoor
set_option linter.unusedVariables false
set_option linter.unusedSimpArgs false
open Go.RowKit
structure Rc where
 F:Nat
 W:Nat
 u0:Nat
 u:Nat
 η:Heap
 v:AV
def Rc.D (r:Rc) (id:Nat):Bool:=r.W.testBit id||(Nat.ble r.u0 id&&Nat.ble (id+1) r.u)
theorem Rc.D_iff {r:Rc} {id:Nat}:r.D id=true↔(r.W.testBit id=true∨(r.u0≤id∧id < r.u)):=by unfold Rc.D;rw [Bool.or_eq_true,Bool.and_eq_true,Nat.ble_eq,Nat.ble_eq];rfl
structure Fits (η:Heap) (r:Rc):Prop where
 le:r.u0≤r.u
 same:∀ id,r.D id=false→r.η id=η id
 sub:∀ id,r.W.testBit id=true→r.F.testBit id=true
 low:∀ id,r.F.testBit id=true→id < r.u0
def LOpX (P:Program) (o:Oper) (τ:Nat→AV) (η:Heap) (r:Rc):Prop :=
 ∀ (C:Ctx) (a:Act),Good C→(∀ x∈o.op.operands,VR C (aev τ x) (a.eval x))→(∀ id,r.F.testBit id=true→C.η id=η id)→(∀ id,r.u0≤id→id < r.u→¬ C.U id) →
  ∀ (K:Act→World→Prop) (Q:Exit→Act→World→Prop),
   (∀ x C',(∀ id,C'.η id=if r.D id=true then r.η id else C.η id)→(∀ id,C'.U id→C.U id∨r.D id=true)→Good C'→Ev C C'→VR C' r.v x→K (a.put o.dst x) C'.w)→o.wp P a C.w K Q
def maskL:List Nat→Nat
 | []=>0
 | i :: l=>Nat.lor (Nat.shiftLeft 1 i) (maskL l)
theorem bit_iff {i j:Nat}:(Nat.shiftLeft 1 i).testBit j=true↔j=i:=by have h:Nat.shiftLeft 1 i=1 <<< i:=rfl;rw [h,Nat.one_shiftLeft,Nat.testBit_two_pow];simp [eq_comm]
theorem maskL_iff:∀ {l:List Nat} {i:Nat},(maskL l).testBit i=true↔i∈l
 | [],i=>by simp [maskL]
 | j :: l,i=>by have h:maskL (j :: l)=Nat.shiftLeft 1 j ||| maskL l:=rfl;rw [h,Nat.testBit_or,Bool.or_eq_true,bit_iff,maskL_iff,List.mem_cons]
section
variable {P:Program} {o:Oper} {τ:Nat→AV} {η:Heap} {fp:List Nat} {v:AV} {u:Nat}
theorem LOp.toX (h:LOp P o τ η fp [] v):LOpX P o τ η ⟨maskL fp,0,u,u,η,v⟩:=by
 intro C a hg hx hF hN K Q hK
 have hD:∀ id,(⟨maskL fp,0,u,u,η,v⟩:Rc).D id=false:=fun id=>by
  cases hd:(⟨maskL fp,0,u,u,η,v⟩:Rc).D id with
  | false=>rfl
  | true=>
   rcases Rc.D_iff.1 hd with h1 | ⟨h1,h2⟩
   ·simp at h1
   ·simp only at h1 h2; omega
 refine h C a hg hx (fun id hid=>hF id (maskL_iff.2 hid)) (fun p hp=>by cases hp) K Q (fun x C' hη hU hg' he hv=>hK x C' (fun id=>?_) (fun id hid=>?_) hg' he hv)
 ·rw [hD id,hη]; rfl
 ·rcases (hU id).1 hid with h1 | h1
  ·exact .inl h1
  ·cases h1
theorem LOp.toX_old {id:Nat} {b:Option Blk} (h:LOp P o τ η fp [(id,b)] v) (hid:id∈fp):LOpX P o τ η ⟨maskL fp,Nat.shiftLeft 1 id,u,u,η.set id b,v⟩:=by
 intro C a hg hx hF hN K Q hK
 have hD:∀ i,(⟨maskL fp,Nat.shiftLeft 1 id,u,u,η.set id b,v⟩:Rc).D i=true↔i=id:=fun i=>by
  rw [Rc.D_iff];simp only [bit_iff];constructor;rintro (h1 | ⟨h1,h2⟩);exact h1;omega;exact .inl
 refine h C a hg hx (fun id hid=>hF id (maskL_iff.2 hid)) (fun p hp hnp=>by simp only [List.mem_singleton] at hp;subst hp;exact absurd hid hnp) K Q (fun x C' hη hU hg' he hv=>hK x C' (fun i=>?_) (fun i hi=>?_) hg' he hv);rw [hη];by_cases e:i=id;subst e;rw [if_pos ((hD i).2 rfl)];show (C.η.set i b) i=(η.set i b) i
 rw [Heap.set_same,Heap.set_same];rw [if_neg (fun h=>e ((hD i).1 h))];show (C.η.set id b) i=_
 rw [Heap.set_other _ _ e];rcases (hU i).1 hi with h1 | h1;exact .inl h1;simp only [List.map_cons,List.map_nil,List.mem_singleton] at h1;exact .inr ((hD i).2 h1)
theorem LOp.toX_new {b:Option Blk} (h:LOp P o τ η fp [(u,b)] v):LOpX P o τ η ⟨maskL fp,0,u,u+1,η.set u b,v⟩:=by
 intro C a hg hx hF hN K Q hK;have hD:∀ i,(⟨maskL fp,0,u,u+1,η.set u b,v⟩:Rc).D i=true↔i=u:=fun i=>by rw [Rc.D_iff];simp only [Nat.zero_testBit,Bool.false_eq_true,false_or];omega
 refine h C a hg hx (fun id hid=>hF id (maskL_iff.2 hid)) (fun p hp hnp=>by simp only [List.mem_singleton] at hp;subst hp;exact hN u (Nat.le_refl _) (Nat.lt_succ_self _)) K Q (fun x C' hη hU hg' he hv=>hK x C' (fun i=>?_) (fun i hi=>?_) hg' he hv);rw [hη];by_cases e:i=u;subst e;rw [if_pos ((hD i).2 rfl)];show (C.η.set i b) i=(η.set i b) i
 rw [Heap.set_same,Heap.set_same];rw [if_neg (fun h=>e ((hD i).1 h))];show (C.η.set u b) i=_
 rw [Heap.set_other _ _ e];rcases (hU i).1 hi with h1 | h1;exact .inl h1;simp only [List.map_cons,List.map_nil,List.mem_singleton] at h1;exact .inr ((hD i).2 h1)
end
structure SRelX (DS:List Deferred) (RD:Nat→Prop) (M N:Nat) (C:Ctx) (s:St) (a:Act):Prop where
 good:Good C
 η:∀ id,RD id→C.η id=s.η id
 free:∀ id,s.u≤id→id < M→¬ C.U id
 defers:a.defers=DS
 size:a.tmps.size=N
 τ:∀ t,VR C (s.τ t) (a.eval (.tmp t))
structure FrX (WD:Nat→Prop) (C C':Ctx):Prop where
 ev:Ev C C'
 η:∀ id,¬ WD id→C'.η id=C.η id
 U:∀ id,C'.U id→C.U id∨WD id
theorem FrX.refl {WD:Nat→Prop} (C:Ctx):FrX WD C C:=⟨Ev.refl C,fun _ _=>rfl,fun _ h=>.inl h⟩
theorem FrX.trans {WD:Nat→Prop} {A B C:Ctx} (h:FrX WD A B) (k:FrX WD B C):FrX WD A C :=
 ⟨h.ev.trans k.ev,fun id hid=>(k.η id hid).trans (h.η id hid),fun id hid=>(k.U id hid).elim (fun h1=>h.U id h1) .inr⟩
section
variable {DS:List Deferred} {P:Program} {RD WD:Nat→Prop} {M N:Nat} {C C':Ctx} {s:St} {a:Act}
theorem SRelX.eval (h:SRelX DS RD M N C s a) (x:Operand):VR C (aev s.τ x) (a.eval x):=by
 cases x with
 | tmp t=>exact h.τ t
 | const c=>exact VR.v C c
 | global g=>exact VR.v C _
 | func f=>exact .imm (.clo (by simp) (fun i hi=>by simp at hi))
theorem SRelX.put (h:SRelX DS RD M N C s a) (he:Ev C C') (hg:Good C') {η':Heap} {u':Nat} (hη:∀ id,RD id→C'.η id=η' id) (hu:∀ id,u'≤id→id < M→¬ C'.U id) {dst:Option Tmp} (hd:∀ d,dst=some d→d < N) {v:AV} {x:Value} (hv:VR C' v x) :
 SRelX DS RD M N C' ⟨updO s.τ dst v,η',u'⟩ (a.put dst x):=by
 refine ⟨hg,hη,hu,?_,?_,fun t=>?_⟩
 ·cases dst <;> simp [Act.put,h.defers]
 ·cases dst <;> simp [Act.put,h.size]
 ·cases dst with
  | none=>exact (h.τ t).mono h.good he
  | some d=>
   have hdN:d < a.tmps.size:=by rw [h.size]; exact hd d rfl
   by_cases e:t=d
   ·subst e
    have e1:updO s.τ (some t) v t=v:=by simp [updO,upd,cond]
    have e2:(a.put (some t) x).eval (.tmp t)=x:=by simp [Act.eval,Act.put,hdN]
    rw [e2]; show VR C' (updO s.τ (some t) v t) x; rw [e1]; exact hv
   ·have e1:updO s.τ (some d) v t=s.τ t:=by
     have:Nat.beq t d=false:=by
      cases hb:Nat.beq t d with
      | false=>rfl
      | true=>exact absurd (Nat.eq_of_beq_eq_true hb) e
     simp [updO,upd,cond,this]
    have e2:(a.put (some d) x).eval (.tmp t)=a.eval (.tmp t):=Act.eval_put (fun q hq=>by cases hq; simp; exact e)
    rw [e2]; show VR C' (updO s.τ (some d) v t) _; rw [e1]; exact (h.τ t).mono h.good he
theorem want_specX {ops:Array Oper} {o:Oper} {b:Bool} (h:want ops s.τ o=some b) (hr:SRelX DS RD M N C s a) (hd:∀ j c,o.guard=some (j,c)→∀ d,(ops[j]?).bind (·.dst)=some d→d < N) :
 Region.wanted o (yielded ops a.tmps)=b:=by
 unfold want at h
 unfold Region.wanted
 cases hg:o.guard with
 | none=>rw [hg] at h; simpa using h
 | some p=>
  obtain ⟨j,c⟩:=p
  rw [hg] at h
  simp only at h ⊢
  cases hj:(ops[j]?).bind (·.dst) with
  | none=>rw [hj] at h; cases h
  | some d=>
   rw [hj] at h
   simp only at h
   have hlt:=hd j c hg d hj
   rw [← hr.size] at hlt
   have h2:=hr.τ d
   cases e:s.τ d with
   | v x=>
    rw [e] at h h2
    cases x with
    | bool t=>
     have h3:=h2.v_inv
     have h4:a.tmps[d]? = some (.bool t):=by simp only [Act.eval] at h3;rw [Array.getD_eq_getD_getElem?] at h3;rw [Array.getElem?_eq_getElem hlt] at h3 ⊢;simpa using h3
     simp only [yielded,hj,Option.bind_some,h4]
     simp only [Option.some.injEq] at h
     rw [← h]
     cases t <;> cases c <;> rfl
    | tuple l=>
     have h3:=h2.v_inv
     have h4:a.tmps[d]? = some (.tuple l):=by simp only [Act.eval] at h3;rw [Array.getD_eq_getD_getElem?] at h3;rw [Array.getElem?_eq_getElem hlt] at h3 ⊢;simpa using h3
     simp only [yielded,hj,Option.bind_some,h4]
     simp only [Option.some.injEq] at h
     rw [← h]
     rfl
    | _=>simp at h
   | _=>rw [e] at h; simp at h
end
def AWPX (P:Program) (RD WD:Nat→Prop) (M N:Nat) (c:Code) (Q:Exit→St→Prop) (s:St):Prop :=
 ∀ (F:Fence),FOk F→∀ (n:Nat) (DS:List Deferred) C a,SRelX DS RD M N C s a→c.wpIn F n P (fun e a' w'=>∃ s' C',Q e s'∧C'.w=w'∧SRelX DS RD M N C' s' a'∧FrX WD C C') a C.w
def stepX (o:Oper) (r:Rc) (s:St):St:=⟨updO s.τ o.dst r.v,r.η,r.u⟩
structure FactX (P:Program) (N:Nat) (ops:Array Oper) (o:Oper) (r:Rc) (s:St):Prop where
 dst:dstOk N ops o=true
 u:r.u0=s.u
 fits:Fits s.η r
 how:(want ops s.τ o=some true∧LOpX P o s.τ s.η r)∨(want ops s.τ o=some false∧r.v=.v undef∧r.F=0∧r.u=s.u)
inductive SeqX (P:Program) (N:Nat) (ops:Array Oper):List Oper→St→List Rc→St→Prop where
 | nil {s:St}:SeqX P N ops [] s [] s
 | cons {o:Oper} {l:List Oper} {s s':St} {r:Rc} {rs:List Rc}:FactX P N ops o r s→SeqX P N ops l (stepX o r s) rs s'→SeqX P N ops (o :: l) s (r :: rs) s'
structure Inn (RD WD:Nat→Prop) (M:Nat) (r:Rc):Prop where
 rd:∀ id,r.F.testBit id=true→RD id
 rn:∀ id,r.u0≤id→id < r.u→RD id
 wd:∀ id,r.D id=true→WD id
 u:r.u≤M
section
variable {DS:List Deferred} {P:Program} {RD WD:Nat→Prop} {M N:Nat} {s s':St} {Q:Exit→St→Prop}
theorem FactX.skip_D {ops:Array Oper} {o:Oper} {r:Rc} (hf:FactX P N ops o r s) (h:r.F=0∧r.u=s.u):∀ id,r.D id=false:=by
 intro id
 cases hd:r.D id with
 | false=>rfl
 | true=>
  rcases Rc.D_iff.1 hd with h1 | ⟨h1,h2⟩
  ·have:=hf.fits.sub id h1
   rw [h.1] at this
   simp at this
  ·have:=hf.u
   have:=h.2
   omega
theorem SRelX.step {C C':Ctx} {a:Act} {o:Oper} {r:Rc} {x:Value} {ops:Array Oper} (hr:SRelX DS RD M N C s a) (hf:FactX P N ops o r s) (hi:Inn RD WD M r) (h1:∀ id,C'.η id=if r.D id=true then r.η id else C.η id) (h2:∀ id,C'.U id→C.U id∨r.D id=true) (hg:Good C') (he:Ev C C') (hv:VR C' r.v x) :
 SRelX DS RD M N C' (stepX o r s) (a.put o.dst x)∧FrX WD C C':=by
 refine ⟨hr.put he hg (fun id hid=>?_) (fun id hle hlt hu=>?_) (dstOk.dst hf.dst) hv,he,fun id hid=>?_,fun id hid=>(h2 id hid).imp (fun h=>h) (hi.wd id)⟩
 ·rw [h1 id]
  cases hd:r.D id with
  | true=>rw [if_pos rfl]
  | false=>rw [if_neg (by simp),hr.η id hid,hf.fits.same id hd]
 ·rcases h2 id hu with h | h
  ·exact hr.free id (by have:=hf.u; have:=hf.fits.le; omega) hlt h
  ·rcases Rc.D_iff.1 h with h3 | h3
   ·have:=hf.fits.low id (hf.fits.sub id h3)
    have:=hf.fits.le
    omega
   ·omega
 ·rw [h1 id,if_neg (fun hd=>hid (hi.wd id hd))]
theorem SeqX.run {ops:Array Oper}:∀ {l:List Oper} {s s':St} {rs:List Rc},SeqX P N ops l s rs s'→(∀ r∈rs,Inn RD WD M r)→∀ (F:Fence),FOk F→∀ (n:Nat) (C:Ctx) (a:Act) (Q:Exit→Act→World→Prop),SRelX DS RD M N C s a →
 (∀ C' a',SRelX DS RD M N C' s' a'→FrX WD C C'→Q .normal a' C'.w)→wpListIn F n P ops Q l a C.w:=by
 intro l s s' rs h
 induction h with
 | nil=>intro _ F hF n C a Q hr hK; exact hK C a hr (FrX.refl C)
 | cons hf _ ih=>
  rename_i o l s s' r rs _
  intro hi F hF n C a Q hr hK
  have hi0:=hi r (by simp)
  unfold wpListIn
  rcases hf.how with ⟨hw,hL⟩ | ⟨hw,hv,hF0,hu⟩
  ·rw [want_specX hw hr (dstOk.guard hf.dst)]
   simp only [if_true]
   refine opIn hF (dstOk.nd hf.dst) (hL C a hr.good (fun x _=>hr.eval x) (fun id hid=>hr.η id (hi0.rd id hid)) (fun id h1 h2=>hr.free id (by have:=hf.u; omega) (by have:=hi0.u; omega)) _ _ fun x C' h1 h2 hg he hv=>?_)
   obtain ⟨hr',hf'⟩:=hr.step hf hi0 h1 h2 hg he hv
   exact ih (fun r hr=>hi r (by simp [hr])) F hF n C' _ Q hr' (fun C'' a'' h3 h4=>hK C'' a'' h3 (hf'.trans h4))
  ·rw [want_specX hw hr (dstOk.guard hf.dst)]
   simp only [Bool.false_eq_true,if_false]
   have hD:=hf.skip_D ⟨hF0,hu⟩
   obtain ⟨hr',hf'⟩:=hr.step (C':=C) (x:=undef) hf hi0 (fun id=>by rw [hD id]; rfl) (fun id h=>.inl h) hr.good (Ev.refl C) (by rw [hv]; exact VR.v C _)
   exact ⟨fun _ _=>hF.fn _,ih (fun r hr=>hi r (by simp [hr])) F hF n C _ Q hr' (fun C'' a'' h3 h4=>hK C'' a'' h3 (hf'.trans h4))⟩
theorem AWPX.region {id:Nat} {l:List Oper} {rs:List Rc} (h:SeqX P N l.toArray l s rs s') (hi:∀ r∈rs,Inn RD WD M r) (hq:Q .normal s'):AWPX P RD WD M N (.region id l.toArray false) Q s:=by intro F hF n DS C a hr;exact wpIn_region_lit (h.run hi F hF n C a _ hr (fun C' a' hr' he'=>⟨s',C',hq,rfl,hr',he'⟩))
theorem AWPX.mono {Q':Exit→St→Prop} {c:Code} (h:AWPX P RD WD M N c Q s) (hq:∀ e s',Q e s'→Q' e s'):AWPX P RD WD M N c Q' s :=
 fun F hF n DS C a hr=>Code.wpIn_mono (fun e a' w' ⟨s',C',h1,h2⟩=>⟨s',C',hq _ _ h1,h2⟩) (h F hF n DS C a hr)
theorem AWPX.skip (h:Q .normal s):AWPX P RD WD M N .skip Q s:=fun F hF n DS C a hr=>wpIn_skip ⟨s,C,h,rfl,hr,FrX.refl C⟩
theorem AWPX.exit {id:Nat} (h:Q (.exit id) s):AWPX P RD WD M N (.exit id) Q s:=fun F hF n DS C a hr=>wpIn_exit ⟨s,C,h,rfl,hr,FrX.refl C⟩
theorem AWPX.ret (h:Q .ret s):AWPX P RD WD M N .ret Q s:=fun F hF n DS C a hr=>wpIn_ret ⟨s,C,h,rfl,hr,FrX.refl C⟩
theorem AWPX.seq {x y:Code} (h:AWPX P RD WD M N x (andThen (AWPX P RD WD M N y Q) Q) s):AWPX P RD WD M N (.seq x y) Q s:=by
 intro F hF n DS C a hr
 refine wpIn_seq (Code.wpIn_mono ?_ (h F hF n DS C a hr))
 rintro e a' w' ⟨s',C',hq,rfl,hr',he⟩
 cases e with
 | normal=>exact Code.wpIn_mono (fun e a'' w'' ⟨s'',C'',h1,h2,h3,h4⟩=>⟨s'',C'',h1,h2,h3,he.trans h4⟩) (hq F hF n DS C' a' hr')
 | _=>exact ⟨s',C',hq,rfl,hr',he⟩
theorem AWPX.cond {c:Operand} {x y:Code} {t:Bool} (hc:aev s.τ c=.v (.bool t)) (ht:t=true→AWPX P RD WD M N x Q s) (hf:t=false→AWPX P RD WD M N y Q s):AWPX P RD WD M N (.cond c x y) Q s:=by intro F hF n DS C a hr;have h1:=hr.eval c;rw [hc] at h1;exact wpIn_cond_split h1.v_inv (fun e=>ht e F hF n DS C a hr) (fun e=>hf e F hF n DS C a hr)
theorem AWPX.condT {c:Operand} {x y:Code} (hc:aev s.τ c=.v (.bool true)) (h:AWPX P RD WD M N x Q s):AWPX P RD WD M N (.cond c x y) Q s:=AWPX.cond hc (fun _=>h) (fun e=>by cases e)
theorem AWPX.condF {c:Operand} {x y:Code} (hc:aev s.τ c=.v (.bool false)) (h:AWPX P RD WD M N y Q s):AWPX P RD WD M N (.cond c x y) Q s:=AWPX.cond hc (fun e=>by cases e) (fun _=>h)
theorem AWPX.block {id:Nat} {c:Code} (h:AWPX P RD WD M N c (inBlk id Q) s):AWPX P RD WD M N (.block id c) Q s:=by
 intro F hF n DS C a hr;refine wpIn_block (Code.wpIn_mono ?_ (h F hF n DS C a hr));rintro e a' w' ⟨s',C',hq,h2⟩;cases e with
 | exit id'=>
  simp only [Exit.inBlock]
  simp only [inBlk] at hq
  by_cases e:id'=id
  ·subst e
   rw [Nat.beq_refl] at hq
   simp only [cond_true] at hq
   simp only [if_true]
   exact ⟨s',C',hq,h2⟩
  ·have:Nat.beq id' id=false:=by
    cases hb:Nat.beq id' id with
    | false=>rfl
    | true=>exact absurd (Nat.eq_of_beq_eq_true hb) e
   rw [this] at hq
   simp only [cond_false] at hq
   simp only [e,if_false]
   exact ⟨s',C',hq,h2⟩
 | _=>exact ⟨s',C',hq,h2⟩
theorem AWPX.loop {c:Code} (I:Nat→St→Prop) (hI:∀ n s,I n s→AWPX P RD WD M N c (andThen (fun s'=>∃ m,m < n∧I m s') Q) s) {n:Nat} (h0:I n s):AWPX P RD WD M N (.loop c) Q s:=by
 intro F hF q DS C a hr;refine wpIn_loopN (fun n a w=>∃ s' C',I n s'∧C'.w=w∧SRelX DS RD M N C' s' a∧FrX WD C C') ?_ ⟨s,C,h0,rfl,hr,FrX.refl C⟩;rintro n a w ⟨s',C',hi,rfl,hr',he⟩;refine Code.wpIn_mono ?_ (hI n s' hi F hF q DS C' a hr');rintro e a'' w'' ⟨s'',C'',hq,rfl,hr'',he''⟩;cases e with
 | normal=>
  obtain ⟨m,hm,hi'⟩:=hq
  exact ⟨m,hm,s'',C'',hi',rfl,hr'',he.trans he''⟩
 | _=>exact ⟨s'',C'',hq,rfl,hr'',he.trans he''⟩
end
end Go.Proofs.YtbhhmbchdponjaaGreatDoor
namespace Go.Proofs.YtbhhmbchdponjaaGreatDoor
set_option linter.unusedVariables false
set_option linter.unusedSimpArgs false
open Go.RowKit
def runX:List Oper→List Rc→Nat→St→St
 | o :: l,r :: rs,k+1,s=>runX l rs k (stepX o r s)
 | _,_,_,s=>s
theorem runX_zero (l:List Oper) (rs:List Rc) (s:St):runX l rs 0 s=s:=by cases l <;> cases rs <;> rfl
theorem runX_cons (o:Oper) (l:List Oper) (r:Rc) (rs:List Rc) (k:Nat) (s:St):runX (o :: l) (r :: rs) (k+1) s=runX l rs k (stepX o r s):=rfl
theorem runX_succ (l:List Oper):∀ (rs:List Rc) (k:Nat) (s:St) (o:Oper) (r:Rc),l[k]? = some o→rs[k]? = some r→runX l rs (k+1) s=stepX o r (runX l rs k s):=by
 induction l with
 | nil=>intro rs k s o r h1; simp at h1
 | cons o' l ih=>
  intro rs k s o r h1 h2
  cases rs with
  | nil=>simp at h2
  | cons r' rs=>
   cases k with
   | zero=>
    simp only [List.getElem?_cons_zero,Option.some.injEq] at h1 h2
    rw [runX_cons,runX_zero,runX_zero,h1,h2]
   | succ k=>
    rw [runX_cons,runX_cons]
    exact ih rs k _ o r (by simpa using h1) (by simpa using h2)
theorem SeqX.facts {P:Program} {N:Nat} {ops:Array Oper} {l:List Oper} {s s':St} {rs:List Rc} (h:SeqX P N ops l s rs s') :
 rs.length=l.length∧s'=runX l rs l.length s∧∀ (k:Nat) (o:Oper) (r:Rc),l[k]? = some o→rs[k]? = some r→FactX P N ops o r (runX l rs k s):=by
 induction h with
 | nil=>exact ⟨rfl,rfl,fun k o r h=>by simp at h⟩
 | cons hf _ ih=>
  obtain ⟨h1,h2,h3⟩:=ih
  refine ⟨by simp [h1],h2,fun k o r ho hr=>?_⟩
  cases k with
  | zero=>
   simp at ho hr
   subst ho; subst hr
   rw [runX_zero]; exact hf
  | succ k=>exact h3 k o r (by simpa using ho) (by simpa using hr)
structure PairX (oi oj:Oper) (ri rj:Rc) (ops:Array Oper):Prop where
 d1:∀ d,oi.dst=some d→d∉oj.looksAt ops
 d2:∀ d,oi.dst=some d→oj.dst≠some d
 d3:∀ d,oj.dst=some d→d∉oi.looksAt ops
 h1:∀ x,ri.D x=true→rj.F.testBit x=false
 h2:∀ x,rj.D x=true→ri.F.testBit x=false
 h3:∀ x,ri.D x=true→rj.D x=false
theorem PairX.symm {oi oj:Oper} {ri rj:Rc} {ops:Array Oper} (h:PairX oi oj ri rj ops):PairX oj oi rj ri ops :=
 ⟨h.d3,fun d hd he=>h.d2 d he hd,h.d1,h.h2,h.h1,fun x hx=>by
  cases hy:ri.D x with
  | false=>rfl
  | true=>rw [h.h3 x hy] at hx; cases hx⟩
structure DrawOk (l:List Oper) (rs:List Rc):Prop where
 pair:∀ (i k:Nat) (oi ok:Oper) (ri rk:Rc),i < k→l[i]? = some oi→l[k]? = some ok→rs[i]? = some ri→rs[k]? = some rk→Anc l.toArray k i∨PairX oi ok ri rk l.toArray
 op:∀ (k:Nat) (ok:Oper),l[k]? = some ok→(∀ i∈bindsOn ok,i < k)∧∀ cs b,ok.op≠.select cs b
section
variable (ops:List Oper) (rs:List Rc)
def vX (k:Nat):AV:=((rs[k]?).map (·.v)).getD .unk
def DX (k id:Nat):Bool:=((rs[k]?).map (·.D id)).getD false
def ηX (k id:Nat):Option Blk:=((rs[k]?).map (·.η id)).getD none
def tvX (s0:St) (S:Nat→Bool):Nat→Nat→AV
 | 0,t=>s0.τ t
 | m+1,t=>if S m=true∧dstK ops m=some t then vX rs m else tvX s0 S m t
def hvX (s0:St) (S:Nat→Bool):Nat→Heap
 | 0,id=>s0.η id
 | m+1,id=>if S m=true∧DX rs m id=true then ηX rs m id else hvX s0 S m id
variable {ops rs}
theorem vX_of {k:Nat} {r:Rc} (h:rs[k]? = some r):vX rs k=r.v:=by simp [vX,h]
theorem DX_of {k:Nat} {r:Rc} (h:rs[k]? = some r) (id:Nat):DX rs k id=r.D id:=by simp [DX,h]
theorem ηX_of {k:Nat} {r:Rc} (h:rs[k]? = some r) (id:Nat):ηX rs k id=r.η id:=by simp [ηX,h]
theorem tvX_text {P:Program} {N:Nat} {opsA:Array Oper} {s0:St} (hf:∀ (k:Nat) (o:Oper) (r:Rc),ops[k]? = some o→rs[k]? = some r→FactX P N opsA o r (runX ops rs k s0)) :
 ∀ (k:Nat),k≤ops.length→rs.length=ops.length→(runX ops rs k s0).τ=tvX ops rs s0 (fun _=>true) k∧(runX ops rs k s0).η=hvX rs s0 (fun _=>true) k
 | 0,_,_=>by rw [runX_zero]; exact ⟨rfl,rfl⟩
 | k+1,hk,hl=>by
  obtain ⟨h1,h2⟩:=tvX_text (s0:=s0) hf k (by omega) hl
  have ho:ops[k]? = some (ops[k]'(by omega)):=List.getElem?_eq_getElem (by omega)
  have hr:rs[k]? = some (rs[k]'(by omega)):=List.getElem?_eq_getElem (by omega)
  have hfk:=hf k _ _ ho hr
  rw [runX_succ ops rs k s0 _ _ ho hr]
  constructor
  ·funext t
   have hd:dstK ops k=(ops[k]'(by omega)).dst:=by simp [dstK,ho]
   simp only [stepX,tvX,hd,vX_of hr,true_and]
   rw [h1]
   cases hdd:(ops[k]'(by omega)).dst with
   | none=>simp [updO]
   | some d=>
    simp only [updO,upd,Option.some.injEq]
    by_cases e:d=t
    ·subst e; simp
    ·have:Nat.beq t d=false:=by
      cases hb:Nat.beq t d with
      | false=>rfl
      | true=>exact absurd (Nat.eq_of_beq_eq_true hb).symm e
     simp [this,e]
  ·funext id
   simp only [stepX,hvX,true_and,DX_of hr,ηX_of hr]
   cases hD:(rs[k]'(by omega)).D id with
   | true=>simp
   | false=>
    simp only [Bool.false_eq_true,if_false]
    rw [hfk.fits.same id hD,h2]
theorem tvX_above {s0:St} {S:Nat→Bool} {t k:Nat}:∀ m,(∀ j,k≤j→j < k+m→¬ (S j=true∧dstK ops j=some t))→tvX ops rs s0 S (k+m) t=tvX ops rs s0 S k t
 | 0,_=>rfl
 | m+1,h=>by show (if S (k+m)=true∧dstK ops (k+m)=some t then vX rs (k+m) else tvX ops rs s0 S (k+m) t)=_;rw [if_neg (h (k+m) (by omega) (by omega)),tvX_above m (fun j h1 h2=>h j h1 (by omega))]
theorem tvX_same {s0:St} {S S':Nat→Bool} {t:Nat}:∀ k,(∀ j,j < k→dstK ops j=some t→S j=S' j)→tvX ops rs s0 S k t=tvX ops rs s0 S' k t
 | 0,_=>rfl
 | k+1,h=>by simp only [tvX];rw [tvX_same k (fun j hj=>h j (by omega))];by_cases e:dstK ops k=some t;rw [h k (by omega) e];simp [e]
theorem hvX_above {s0:St} {S:Nat→Bool} {id k:Nat}:∀ m,(∀ j,k≤j→j < k+m→¬ (S j=true∧DX rs j id=true))→hvX rs s0 S (k+m) id=hvX rs s0 S k id
 | 0,_=>rfl
 | m+1,h=>by show (if S (k+m)=true∧DX rs (k+m) id=true then ηX rs (k+m) id else hvX rs s0 S (k+m) id)=_;rw [if_neg (h (k+m) (by omega) (by omega)),hvX_above m (fun j h1 h2=>h j h1 (by omega))]
theorem hvX_same {s0:St} {S S':Nat→Bool} {id:Nat}:∀ k,(∀ j,j < k→DX rs j id=true→S j=S' j)→hvX rs s0 S k id=hvX rs s0 S' k id
 | 0,_=>rfl
 | k+1,h=>by simp only [hvX];rw [hvX_same k (fun j hj=>h j (by omega))];by_cases e:DX rs k id=true;rw [h k (by omega) e];simp [e]
end
section
variable {P:Program} {N:Nat} {l:List Oper} {rs:List Rc} {s s':St} {ri:Rc} {oi:Oper} {i:Nat} {S:Nat→Bool}
theorem standsX (hc:DrawOk l rs) (hS:ClosedS l.toArray S) (hi:i < l.length) (hoi:l[i]? = some oi) (hri:rs[i]? = some ri) (hSi:S i=false) (hready:∀ j∈bindsOn oi,S j=true)
 {j:Nat} (hne:j≠i) {oj:Oper} {rj:Rc} (hoj:l[j]? = some oj) (hrj:rs[j]? = some rj):(j < i∧S j=true)∨(i < j∧S j=false)∨PairX oi oj ri rj l.toArray:=by
 rcases Nat.lt_or_gt_of_ne hne with hlt | hgt
 ·rcases hc.pair j i oj oi rj ri hlt hoj hoi hrj hri with h | h
  ·left
   refine ⟨hlt,hS.anc h (fun o ho k hk=>?_)⟩
   simp only [List.getElem?_toArray] at ho
   rw [hoi] at ho
   cases ho
   exact hready k hk
  ·exact .inr (.inr h.symm)
 ·rcases hc.pair i j oi oj ri rj hgt hoi hoj hri hrj with h | h
  ·right; left
   refine ⟨hgt,?_⟩
   cases hSj:S j with
   | false=>rfl
   | true=>
    have:=hS.anc h (fun o ho k hk=>hS j o ho hSj k hk)
    rw [hSi] at this; cases this
  ·exact .inr (.inr h)
section
theorem at_looksX (hc:DrawOk l rs) (hlen:rs.length=l.length) (hfact:∀ (k:Nat) (o:Oper) (r:Rc),l[k]? = some o→rs[k]? = some r→FactX P N l.toArray o r (runX l rs k s)) (hS:ClosedS l.toArray S) (hi:i < l.length) (hoi:l[i]? = some oi) (hri:rs[i]? = some ri) (hSi:S i=false) (hready:∀ j∈bindsOn oi,S j=true) {t:Nat} (ht:t∈oi.looksAt l.toArray):tvX l rs s S l.length t=(runX l rs i s).τ t:=by
 have hst:=fun j (hj:j < l.length) (hne:j≠i)=>standsX hc hS hi hoi hri hSi hready hne (List.getElem?_eq_getElem hj) (List.getElem?_eq_getElem (show j < rs.length by omega));rw [(tvX_text hfact i (by omega) hlen).1]
 have e1:=tvX_above (ops:=l) (rs:=rs) (s0:=s) (S:=S) (t:=t) (k:=i) (l.length - i) (fun j h1 h2 ⟨h3,h4⟩=>by
  have hj:j < l.length:=by omega
  by_cases e:j=i;subst e;rw [hSi] at h3;cases h3;rcases hst j hj e with ⟨h,_⟩ | ⟨_,h⟩ | h;omega;rw [h] at h3;cases h3;rw [dstK_of (List.getElem?_eq_getElem hj)] at h4;exact h.d3 t h4 ht)
 rw [show i+(l.length - i)=l.length by omega] at e1;rw [e1];refine tvX_same i (fun j hj hd=>?_);have hj':j < l.length:=by omega
 rcases hst j hj' (by omega) with ⟨_,h⟩ | ⟨h,_⟩ | h;exact h;omega;rw [dstK_of (List.getElem?_eq_getElem hj')] at hd;exact absurd ht (h.d3 t hd)
theorem at_fpX (hc:DrawOk l rs) (hlen:rs.length=l.length) (hfact:∀ (k:Nat) (o:Oper) (r:Rc),l[k]? = some o→rs[k]? = some r→FactX P N l.toArray o r (runX l rs k s)) (hS:ClosedS l.toArray S) (hi:i < l.length) (hoi:l[i]? = some oi) (hri:rs[i]? = some ri) (hSi:S i=false) (hready:∀ j∈bindsOn oi,S j=true) {id:Nat} (ht:ri.F.testBit id=true):hvX rs s S l.length id=(runX l rs i s).η id:=by
 have hst:=fun j (hj:j < l.length) (hne:j≠i)=>standsX hc hS hi hoi hri hSi hready hne (List.getElem?_eq_getElem hj) (List.getElem?_eq_getElem (show j < rs.length by omega));rw [(tvX_text hfact i (by omega) hlen).2]
 have e1:=hvX_above (rs:=rs) (s0:=s) (S:=S) (id:=id) (k:=i) (l.length - i) (fun j h1 h2 ⟨h3,h4⟩=>by
  have hj:j < l.length:=by omega
  by_cases e:j=i;subst e;rw [hSi] at h3;cases h3;rcases hst j hj e with ⟨h,_⟩ | ⟨_,h⟩ | h;omega;rw [h] at h3;cases h3;rw [DX_of (List.getElem?_eq_getElem (show j < rs.length by omega))] at h4;rw [h.h2 id h4] at ht;cases ht)
 rw [show i+(l.length - i)=l.length by omega] at e1;rw [e1];refine hvX_same i (fun j hj hd=>?_);have hj':j < l.length:=by omega
 rcases hst j hj' (by omega) with ⟨_,h⟩ | ⟨h,_⟩ | h;exact h;omega;rw [DX_of (List.getElem?_eq_getElem (show j < rs.length by omega))] at hd;rw [h.h2 id hd] at ht;cases ht
theorem next_τX (hc:DrawOk l rs) (hlen:rs.length=l.length) (hfact:∀ (k:Nat) (o:Oper) (r:Rc),l[k]? = some o→rs[k]? = some r→FactX P N l.toArray o r (runX l rs k s)) (hS:ClosedS l.toArray S) (hi:i < l.length) (hoi:l[i]? = some oi) (hri:rs[i]? = some ri) (hSi:S i=false) (hready:∀ j∈bindsOn oi,S j=true):updO (tvX l rs s S l.length) oi.dst ri.v=tvX l rs s (seenS S i) l.length:=by
 have hst:=fun j (hj:j < l.length) (hne:j≠i)=>standsX hc hS hi hoi hri hSi hready hne (List.getElem?_eq_getElem hj) (List.getElem?_eq_getElem (show j < rs.length by omega))
 funext t
 by_cases hd:oi.dst=some t
 ·have e1:=tvX_above (ops:=l) (rs:=rs) (s0:=s) (S:=seenS S i) (t:=t) (k:=i+1) (l.length - (i+1)) (fun j h1 h2 ⟨h3,h4⟩=>by
   have hj:j < l.length:=by omega
   have hne:j≠i:=by omega
   simp only [seenS,hne,if_false] at h3
   rcases hst j hj hne with ⟨h,_⟩ | ⟨_,h⟩ | h
   ·omega
   ·rw [h] at h3; cases h3
   ·rw [dstK_of (List.getElem?_eq_getElem hj)] at h4
    exact h.d2 t hd h4)
  rw [show i+1+(l.length - (i+1))=l.length by omega] at e1
  rw [e1]
  have e2:tvX l rs s (seenS S i) (i+1) t=ri.v:=by
   simp only [tvX,dstK_of hoi,vX_of hri,seenS,if_true,hd,and_self]
  rw [e2,hd]
  simp [updO,upd]
 ·have e1:updO (tvX l rs s S l.length) oi.dst ri.v t=tvX l rs s S l.length t:=by
   cases hdd:oi.dst with
   | none=>rfl
   | some d=>
    rw [hdd] at hd
    have:Nat.beq t d=false:=by
     cases hb:Nat.beq t d with
     | false=>rfl
     | true=>exact absurd (by rw [Nat.eq_of_beq_eq_true hb]) hd
    simp [updO,upd,this]
  rw [e1]
  refine tvX_same _ (fun j hj hdj=>?_)
  by_cases e:j=i
  ·subst e; rw [dstK_of hoi] at hdj; exact absurd hdj hd
  ·simp [seenS,e]
theorem next_ηX (hc:DrawOk l rs) (hlen:rs.length=l.length) (hfact:∀ (k:Nat) (o:Oper) (r:Rc),l[k]? = some o→rs[k]? = some r→FactX P N l.toArray o r (runX l rs k s)) (hS:ClosedS l.toArray S) (hi:i < l.length) (hoi:l[i]? = some oi) (hri:rs[i]? = some ri) (hSi:S i=false) (hready:∀ j∈bindsOn oi,S j=true) (id:Nat):(if ri.D id=true then ri.η id else hvX rs s S l.length id)=hvX rs s (seenS S i) l.length id:=by
 have hst:=fun j (hj:j < l.length) (hne:j≠i)=>standsX hc hS hi hoi hri hSi hready hne (List.getElem?_eq_getElem hj) (List.getElem?_eq_getElem (show j < rs.length by omega));by_cases hd:ri.D id=true;rw [if_pos hd]
 have e1:=hvX_above (rs:=rs) (s0:=s) (S:=seenS S i) (id:=id) (k:=i+1) (l.length - (i+1)) (fun j h1 h2 ⟨h3,h4⟩=>by
  have hj:j < l.length:=by omega
  have hne:j≠i:=by omega
  simp only [seenS,hne,if_false] at h3;rcases hst j hj hne with ⟨h,_⟩ | ⟨_,h⟩ | h;omega;rw [h] at h3;cases h3;rw [DX_of (List.getElem?_eq_getElem (show j < rs.length by omega)),h.h3 id hd] at h4;cases h4)
 rw [show i+1+(l.length - (i+1))=l.length by omega] at e1;rw [e1];simp only [hvX,DX_of hri,ηX_of hri,seenS,if_true,hd,and_self];rw [if_neg hd];refine hvX_same _ (fun j hj hdj=>?_);by_cases e:j=i;subst e;rw [DX_of hri] at hdj;exact absurd hdj hd;simp [seenS,e]
end
theorem runX_u (hf:∀ (k:Nat) (o:Oper) (r:Rc),l[k]? = some o→rs[k]? = some r→FactX P N l.toArray o r (runX l rs k s)) (hlen:rs.length=l.length):∀ m k,k+m≤l.length→(runX l rs k s).u≤(runX l rs (k+m) s).u
 | 0,_,_=>Nat.le_refl _
 | m+1,k,h=>by have ih:=runX_u hf hlen m k (by omega);have ho:l[k+m]? = some (l[k+m]'(by omega)):=List.getElem?_eq_getElem (by omega);have hr:rs[k+m]? = some (rs[k+m]'(by omega)):=List.getElem?_eq_getElem (by omega);have e:runX l rs (k+(m+1)) s=stepX (l[k+m]'(by omega)) (rs[k+m]'(by omega)) (runX l rs (k+m) s):=runX_succ l rs (k+m) s _ _ ho hr;rw [e];have h1:=hf _ _ _ ho hr;have h2:=h1.u;have h3:=h1.fits.le;show _≤(rs[k+m]'(by omega)).u;omega
structure InX (DS:List Deferred) (RD WD:Nat→Prop) (N:Nat) (l:List Oper) (rs:List Rc) (s:St) (M u':Nat) (C1:Ctx) (S:Nat→Bool) (C:Ctx) (a:Act):Prop where
 rel:SRelX DS RD M N C ⟨tvX l rs s S l.length,hvX rs s S l.length,u'⟩ a
 closed:ClosedS l.toArray S
 used:∀ id,C.U id→C1.U id∨∃ k,k < l.length∧S k=true∧DX rs k id=true
 fr:FrX WD C1 C
theorem AWPX.regionD {RD WD:Nat→Prop} {M:Nat} {Q:Exit→St→Prop} {id:Nat} (hm:P.follows .mixedOrders=true) (hseq:SeqX P N l.toArray l s rs s') (hc:DrawOk l rs) (hinn:∀ r∈rs,Inn RD WD M r) (h:Q .normal s'):AWPX P RD WD M N (.region id l.toArray true) Q s:=by
 obtain ⟨hlen,hend,hfact⟩:=hseq.facts
 intro F hF q DS C0 a0 hr0
 obtain ⟨hg1,he1⟩:=Ctx.drew_good hr0.good
 have hf1:FrX WD C0 { C0 with w:=C0.w.drew }:=⟨he1,fun _ _=>rfl,fun _ h=>.inl h⟩
 have hη1:({ C0 with w:=C0.w.drew }:Ctx).η=C0.η:=rfl
 have hU1:({ C0 with w:=C0.w.drew }:Ctx).U=C0.U:=rfl
 have hw:({ C0 with w:=C0.w.drew }:Ctx).w={ C0.w with drawn:=C0.w.drawn+1 }:=rfl
 generalize ({ C0 with w:=C0.w.drew }:Ctx)=C1 at hg1 he1 hf1 hη1 hU1 hw
 have hmono:∀ k k',k≤k'→k'≤l.length→(runX l rs k s).u≤(runX l rs k' s).u:=fun k k' h1 h2=>by
  have:=runX_u hfact hlen (k' - k) k (by omega)
  rwa [show k+(k' - k)=k' by omega] at this
 have hge:∀ k,k < l.length→l[k]? = some (l[k]!)∧∃ r,rs[k]? = some r:=fun k hk=>by
  have:k < rs.length:=by omega
  exact ⟨by simp [hk],rs[k],List.getElem?_eq_getElem this⟩
 have hnext:∀ k o r,l[k]? = some o→rs[k]? = some r→(runX l rs (k+1) s).u=r.u:=fun k o r ho hr=>by
  rw [runX_succ l rs k s o r ho hr]; rfl
 have hDlt:∀ k o r,k < l.length→l[k]? = some o→rs[k]? = some r→∀ id,r.D id=true→id < (runX l rs (k+1) s).u:=by
  intro k o r hk ho hr id hid
  rw [hnext k o r ho hr]
  have hf:=hfact k o r ho hr
  have:=hf.fits.le
  rcases Rc.D_iff.1 hid with h1 | h1
  ·have:=hf.fits.low id (hf.fits.sub id h1); omega
  ·exact h1.2
 have hfin:∀ (li:Array Bool) (C:Ctx) (a:Act),li.size=l.length→InX DS RD WD N l rs s M s'.u C1 (fun k=>li.getD k false) C a→Region.ready .any l.toArray li=[] →
  ∃ s'' C',Q .normal s''∧C'.w=C.w∧SRelX DS RD M N C' s'' a∧FrX WD C0 C':=by
  intro li C a hl hin hr
  have hall:∀ k,k < l.length→li.getD k false=true:=by
   intro k
   induction k using Nat.strongRecOn with
   | ind k ih=>
    intro hk
    cases hck:li.getD k false with
    | true=>rfl
    | false=>
     exfalso
     obtain ⟨ho,hrk⟩:=hge k hk
     have:k∈Region.ready .any l.toArray li:=by
      rw [mem_ready]
      have hkl:k < li.size:=by omega
      refine ⟨by simpa [Array.getD,hkl] using hck,l[k]!,by simpa using ho,fun e he hb=>?_⟩
      have hmem:e.on∈bindsOn (l[k]!):=List.mem_map.2 ⟨e,List.mem_filter.2 ⟨by simpa using he,hb⟩,rfl⟩
      have hlt:=(hc.op k _ ho).1 e.on hmem
      exact ih e.on hlt (by omega)
     rw [hr] at this
     simp at this
  have e1:tvX l rs s (fun k=>li.getD k false) l.length=s'.τ:=by
   rw [hend,(tvX_text hfact l.length (Nat.le_refl _) hlen).1]
   funext t
   exact tvX_same _ (fun j hj _=>hall j hj)
  have e2:hvX rs s (fun k=>li.getD k false) l.length=s'.η:=by
   rw [hend,(tvX_text hfact l.length (Nat.le_refl _) hlen).2]
   funext id
   exact hvX_same _ (fun j hj _=>hall j hj)
  have hrel:=hin.rel
  rw [e1,e2] at hrel
  exact ⟨s',C,h,rfl,hrel,hf1.trans hin.fr⟩
 have key:∀ (fuel:Nat) (li:Array Bool) (C:Ctx) (a:Act),li.size=l.length→(List.range l.length).countP (fun k=>!li.getD k false)≤fuel→InX DS RD WD N l rs s M s'.u C1 (fun k=>li.getD k false) C a →
  wpAnyIn F q P .any l.toArray (fun e a' w'=>∃ s'' C',Q e s''∧C'.w=w'∧SRelX DS RD M N C' s'' a'∧FrX WD C0 C') fuel li a C.w:=by
  intro fuel
  induction fuel with
  | zero=>
   intro li C a hl hcnt hin
   have hr:Region.ready .any l.toArray li=[]:=by
    rw [List.eq_nil_iff_forall_not_mem]
    intro k hk
    rw [mem_ready] at hk
    obtain ⟨h1,o,ho,_⟩:=hk
    have hkl:k < l.length:=by have:=(Array.getElem?_eq_some_iff.1 ho).1; simpa using this
    have:=List.countP_eq_zero.1 (Nat.le_zero.1 hcnt) k (List.mem_range.2 hkl)
    have hkl':k < li.size:=by omega
    simp [Array.getD,hkl'] at this h1
    rw [this] at h1; cases h1
   exact ⟨hr,hfin li C a hl hin hr⟩
  | succ fuel ih=>
   intro li C a hl hcnt hin
   refine ⟨hfin li C a hl hin,fun i hi=>?_⟩
   rw [mem_ready] at hi
   obtain ⟨h1,oi,ho,hdeps⟩:=hi
   have hil:i < l.length:=by have:=(Array.getElem?_eq_some_iff.1 ho).1; simpa using this
   have hill:i < li.size:=by omega
   have hSi:li.getD i false=false:=by simpa [Array.getD,hill] using h1
   have hoi:l[i]? = some oi:=by simpa using ho
   obtain ⟨_,ri,hri⟩:=hge i hil
   have hready:∀ j∈bindsOn oi,li.getD j false=true:=by
    intro j hj
    obtain ⟨e,he,rfl⟩:=List.mem_map.1 hj
    obtain ⟨he1,he2⟩:=List.mem_filter.1 he
    exact hdeps e (by simpa using he1) he2
   have hset:(fun k=>(li.setIfInBounds i true).getD k false)=seenS (fun k=>li.getD k false) i:=by
    funext k
    unfold seenS
    by_cases e:k=i
    ·subst e; simp [Array.getD,hill]
    ·rw [if_neg e]; exact getD_set_ne false (fun h=>e h.symm)
   have hcount:(List.range l.length).countP (fun k=>!(li.setIfInBounds i true).getD k false)≤fuel:=by
    have hlt:(List.range l.length).countP (fun k=>!(li.setIfInBounds i true).getD k false) < (List.range l.length).countP (fun k=>!li.getD k false):=by
     have e1:∀ k,(li.setIfInBounds i true).getD k false=seenS (fun k=>li.getD k false) i k:=fun k=>congrFun hset k
     simp only [e1]
     refine countP_ltS (List.mem_range.2 hil) (by simp [hSi]) (by simp [seenS]) (fun k hk=>?_)
     simp only [seenS]
     split <;> simp
    omega
   have hlooks:∀ t∈oi.looksAt l.toArray,tvX l rs s (fun k=>li.getD k false) l.length t=(runX l rs i s).τ t:=fun t ht=>at_looksX hc hlen hfact hin.closed hil hoi hri hSi hready ht
   have hclosed:ClosedS l.toArray (seenS (fun k=>li.getD k false) i):=by
    intro k o hk hs j hj
    unfold seenS at hs ⊢
    by_cases e:j=i
    ·simp [e]
    ·rw [if_neg e]
     by_cases e1:k=i
     ·subst e1
      rw [ho] at hk
      cases hk
      exact hready j hj
     ·rw [if_neg e1] at hs
      exact hin.closed k o hk hs j hj
   have hfi:=hfact i oi ri hoi hri
   have hinn_i:=hinn ri (List.mem_of_getElem? hri)
   have hτ:=next_τX (s:=s) hc hlen hfact hin.closed hil hoi hri hSi hready
   have hη:=next_ηX (s:=s) hc hlen hfact hin.closed hil hoi hri hSi hready
   have husedN:∀ (C':Ctx),(∀ id,C'.U id→C.U id∨ri.D id=true)→∀ id,C'.U id→C1.U id∨∃ k,k < l.length∧seenS (fun k=>li.getD k false) i k=true∧DX rs k id=true:=by
    intro C' hU id hid
    rcases hU id hid with h2 | h2
    ·rcases hin.used id h2 with h3 | ⟨k,hk,hSk,hk2⟩
     ·exact .inl h3
     ·exact .inr ⟨k,hk,by simp only [seenS]; split <;> simp_all,hk2⟩
    ·exact .inr ⟨i,hil,by simp [seenS],by rw [DX_of hri]; exact h2⟩
   unfold wpOpIn
   simp only [ho]
   rcases hfi.how with ⟨hwt,hL⟩ | ⟨hwt,hv,hF0,hu0⟩
   ·rw [want_specX (s:=⟨tvX l rs s (fun k=>li.getD k false) l.length,hvX rs s (fun k=>li.getD k false) l.length,s'.u⟩) ((want_congr hlooks).trans hwt) hin.rel (dstOk.guard hfi.dst)]
    simp only [if_true]
    refine opIn hF (dstOk.nd hfi.dst) (hL C a hin.rel.good (fun x hx=>?_) (fun id hid=>?_) (fun id hle hlt hU=>?_) _ _ fun x C' hη' hUU hg' hev hvx=>?_)
    ·rw [← aev_congr hlooks hx]; exact hin.rel.eval x
    ·rw [hin.rel.η id (hinn_i.rd id hid)]; exact at_fpX hc hlen hfact hin.closed hil hoi hri hSi hready hid
    ·have hDi:ri.D id=true:=Rc.D_iff.2 (.inr ⟨hle,hlt⟩)
     have h0i:=hmono 0 i (by omega) (by omega)
     rw [runX_zero] at h0i
     have hui:=hfi.u
     rcases hin.used _ hU with h3 | ⟨k,hk,hSk,hidk⟩
     ·rw [hU1] at h3
      exact hr0.free id (by omega) (by have:=hinn_i.u; omega) h3
     ·by_cases e:k=i
      ·subst e; rw [hSi] at hSk; cases hSk
      ·obtain ⟨hok,rk,hrk⟩:=hge k hk
       rw [DX_of hrk] at hidk
       rcases standsX hc hin.closed hil hoi hri hSi hready e hok hrk with ⟨hlt',_⟩ | ⟨_,h4⟩ | h4
       ·have:=hDlt k _ _ hk hok hrk id hidk
        have:=hmono (k+1) i (by omega) (by omega)
        omega
       ·rw [h4] at hSk; cases hSk
       ·rw [h4.h3 id hDi] at hidk; cases hidk
    ·have hnew:∀ id,s'.u≤id→id < M→¬ C'.U id:=by
      intro id hle hlt hid
      rcases hUU id hid with h2 | h2
      ·exact hin.rel.free id hle hlt h2
      ·have:=hDlt i oi ri hil hoi hri id h2
       have:=hmono (i+1) l.length (by omega) (by omega)
       rw [← hend] at this
       omega
     have hrel:=hin.rel.put hev hg' (η':=hvX rs s (seenS (fun k=>li.getD k false) i) l.length) (fun id hid=>by rw [hη' id,← hη id,hin.rel.η id hid]) hnew (dstOk.dst hfi.dst) hvx
     simp only at hrel
     rw [hτ] at hrel
     refine ih _ C' _ (by simpa using hl) hcount ?_
     rw [hset]
     exact ⟨hrel,hclosed,husedN C' hUU,hin.fr.trans ⟨hev,fun id hid=>by rw [hη' id,if_neg (fun hd=>hid (hinn_i.wd id hd))],fun id hid=>(hUU id hid).imp (fun h=>h) (hinn_i.wd id)⟩⟩
   ·rw [want_specX (s:=⟨tvX l rs s (fun k=>li.getD k false) l.length,hvX rs s (fun k=>li.getD k false) l.length,s'.u⟩) ((want_congr hlooks).trans hwt) hin.rel (dstOk.guard hfi.dst)]
    simp only [Bool.false_eq_true,if_false]
    have hD0:=hfi.skip_D ⟨hF0,hu0⟩
    have hrel:=hin.rel.put (Ev.refl C) hin.rel.good (η':=hvX rs s (seenS (fun k=>li.getD k false) i) l.length) (u':=s'.u) (fun id hid=>by rw [← hη id,hD0 id]; exact hin.rel.η id hid) hin.rel.free (dstOk.dst hfi.dst) (VR.v C undef)
    simp only at hrel
    rw [← hv,hτ] at hrel
    refine ⟨fun _ _=>hF.fn _,ih _ C _ (by simpa using hl) hcount ?_⟩
    rw [hset]
    exact ⟨hrel,hclosed,husedN C (fun id h=>.inl h),hin.fr⟩
 refine wpIn_region_any hm ?_
 have e0:(fun k=>(Array.replicate l.toArray.size false).getD k false)=fun _=>false:=by
  funext k; simp [Array.getD]
 have hstart:InX DS RD WD N l rs s M s'.u C1 (fun _=>false) C1 a0:=by
  have e1:tvX l rs s (fun _=>false) l.length=s.τ:=by
   have:∀ m,tvX l rs s (fun _=>false) m=s.τ:=by
    intro m
    induction m with
    | zero=>rfl
    | succ m ih=>funext t; simp [tvX,ih]
   exact this _
  have e2:hvX rs s (fun _=>false) l.length=s.η:=by
   have:∀ m,hvX rs s (fun _=>false) m=s.η:=by
    intro m
    induction m with
    | zero=>rfl
    | succ m ih=>funext t; simp [hvX,ih]
   exact this _
  have h0n:=hmono 0 l.length (by omega) (Nat.le_refl _)
  rw [runX_zero,← hend] at h0n
  refine ⟨?_,fun k o _ hk=>(by cases hk),fun id hid=>.inl hid,FrX.refl _⟩
  rw [e1,e2]
  refine ⟨hg1,fun id hid=>by rw [hη1]; exact hr0.η id hid,fun id hle hlt hU=>?_,hr0.defers,hr0.size,fun t=>(hr0.τ t).mono hr0.good he1⟩
  rw [hU1] at hU
  have hle':s'.u≤id:=hle
  exact hr0.free id (by omega) hlt hU
 have:=key l.toArray.size (Array.replicate l.toArray.size false) C1 a0 (by simp) (by
  have:=List.countP_le_length (p:=fun k=>!(Array.replicate l.toArray.size false).getD k false) (l:=List.range l.length)
  simpa using this) (by rw [e0]; exact hstart)
 rw [hw] at this
 exact this
end
end Go.Proofs.YtbhhmbchdponjaaGreatDoor
namespace Go.Proofs.YtbhhmbchdponjaaGreatDoor
set_option linter.unusedVariables false
set_option linter.unusedSimpArgs false
open Go.RowKit
structure PairA (a:Nat) (oi oj:Oper) (ri rj:Rc) (ops:Array Oper):Prop where
 d1:∀ d,oi.dst=some d→d∉oj.looksAt ops
 d2:∀ d,oi.dst=some d→oj.dst≠some d
 d3:∀ d,oj.dst=some d→d∉oi.looksAt ops
 h1:∀ x,ri.D x=true→rj.F.testBit x=false∨(x=a∧∀ y,rj.D y=false)
 h2:∀ x,rj.D x=true→ri.F.testBit x=false∨(x=a∧∀ y,ri.D y=false)
 h3:∀ x,ri.D x=true→rj.D x=false
theorem PairA.symm {a:Nat} {oi oj:Oper} {ri rj:Rc} {ops:Array Oper} (h:PairA a oi oj ri rj ops):PairA a oj oi rj ri ops :=
 ⟨h.d3,fun d hd he=>h.d2 d he hd,h.d1,h.h2,h.h1,fun x hx=>by
  cases hy:ri.D x with
  | false=>rfl
  | true=>rw [h.h3 x hy] at hx; cases hx⟩
structure DrawA (P:Program) (s:St) (a:Nat) (l:List Oper) (rs:List Rc):Prop where
 pair:∀ (i k:Nat) (oi ok:Oper) (ri rk:Rc),i < k→l[i]? = some oi→l[k]? = some ok→rs[i]? = some ri→rs[k]? = some rk→Anc l.toArray k i∨PairA a oi ok ri rk l.toArray
 op:∀ (k:Nat) (ok:Oper),l[k]? = some ok→(∀ i∈bindsOn ok,i < k)∧∀ cs b,ok.op≠.select cs b
 soft:∀ (i:Nat) (oi:Oper) (ri:Rc),l[i]? = some oi→rs[i]? = some ri→(∀ y,ri.D y=false)→ri.F.testBit a=true→∀ m,m≤l.length→LOpX P oi (runX l rs i s).τ ((runX l rs i s).η.set a ((runX l rs m s).η a)) ri
section
variable {P:Program} {N:Nat} {l:List Oper} {rs:List Rc} {s s':St} {ri:Rc} {oi:Oper} {i sa:Nat} {S:Nat→Bool}
theorem hvX_text (hlen:rs.length=l.length) (id:Nat):∀ k,k≤l.length→∃ m,m≤l.length∧hvX rs s S k id=(runX l rs m s).η id
 | 0,_=>⟨0,Nat.zero_le _,by rw [runX_zero]; rfl⟩
 | k+1,hk=>by simp only [hvX];by_cases h:S k=true∧DX rs k id=true;rw [if_pos h];have ho:l[k]? = some (l[k]'(by omega)):=List.getElem?_eq_getElem (by omega);have hr:rs[k]? = some (rs[k]'(by omega)):=List.getElem?_eq_getElem (by omega);refine ⟨k+1,hk,?_⟩;rw [runX_succ l rs k s _ _ ho hr,ηX_of hr];rfl;rw [if_neg h];exact hvX_text hlen id k (by omega)
theorem standsA (hc:DrawA P s sa l rs) (hS:ClosedS l.toArray S) (hi:i < l.length) (hoi:l[i]? = some oi) (hri:rs[i]? = some ri) (hSi:S i=false) (hready:∀ j∈bindsOn oi,S j=true)
 {j:Nat} (hne:j≠i) {oj:Oper} {rj:Rc} (hoj:l[j]? = some oj) (hrj:rs[j]? = some rj):(j < i∧S j=true)∨(i < j∧S j=false)∨PairA sa oi oj ri rj l.toArray:=by
 rcases Nat.lt_or_gt_of_ne hne with hlt | hgt
 ·rcases hc.pair j i oj oi rj ri hlt hoj hoi hrj hri with h | h
  ·left
   refine ⟨hlt,hS.anc h (fun o ho k hk=>?_)⟩
   simp only [List.getElem?_toArray] at ho
   rw [hoi] at ho
   cases ho
   exact hready k hk
  ·exact .inr (.inr h.symm)
 ·rcases hc.pair i j oi oj ri rj hgt hoi hoj hri hrj with h | h
  ·right; left
   refine ⟨hgt,?_⟩
   cases hSj:S j with
   | false=>rfl
   | true=>
    have:=hS.anc h (fun o ho k hk=>hS j o ho hSj k hk)
    rw [hSi] at this; cases this
  ·exact .inr (.inr h)
theorem at_looksA (hc:DrawA P s sa l rs) (hlen:rs.length=l.length) (hfact:∀ (k:Nat) (o:Oper) (r:Rc),l[k]? = some o→rs[k]? = some r→FactX P N l.toArray o r (runX l rs k s)) (hS:ClosedS l.toArray S) (hi:i < l.length) (hoi:l[i]? = some oi) (hri:rs[i]? = some ri) (hSi:S i=false) (hready:∀ j∈bindsOn oi,S j=true) {t:Nat} (ht:t∈oi.looksAt l.toArray):tvX l rs s S l.length t=(runX l rs i s).τ t:=by
 have hst:=fun j (hj:j < l.length) (hne:j≠i)=>standsA hc hS hi hoi hri hSi hready hne (List.getElem?_eq_getElem hj) (List.getElem?_eq_getElem (show j < rs.length by omega));rw [(tvX_text hfact i (by omega) hlen).1]
 have e1:=tvX_above (ops:=l) (rs:=rs) (s0:=s) (S:=S) (t:=t) (k:=i) (l.length - i) (fun j h1 h2 ⟨h3,h4⟩=>by
  have hj:j < l.length:=by omega
  by_cases e:j=i;subst e;rw [hSi] at h3;cases h3;rcases hst j hj e with ⟨h,_⟩ | ⟨_,h⟩ | h;omega;rw [h] at h3;cases h3;rw [dstK_of (List.getElem?_eq_getElem hj)] at h4;exact h.d3 t h4 ht)
 rw [show i+(l.length - i)=l.length by omega] at e1;rw [e1];refine tvX_same i (fun j hj hd=>?_);have hj':j < l.length:=by omega
 rcases hst j hj' (by omega) with ⟨_,h⟩ | ⟨h,_⟩ | h;exact h;omega;rw [dstK_of (List.getElem?_eq_getElem hj')] at hd;exact absurd ht (h.d3 t hd)
theorem at_fpA (hc:DrawA P s sa l rs) (hlen:rs.length=l.length) (hfact:∀ (k:Nat) (o:Oper) (r:Rc),l[k]? = some o→rs[k]? = some r→FactX P N l.toArray o r (runX l rs k s)) (hS:ClosedS l.toArray S) (hi:i < l.length) (hoi:l[i]? = some oi) (hri:rs[i]? = some ri) (hSi:S i=false) (hready:∀ j∈bindsOn oi,S j=true) {id:Nat} (ht:ri.F.testBit id=true) (hda:id=sa→¬ ∀ y,ri.D y=false):hvX rs s S l.length id=(runX l rs i s).η id:=by
 have hst:=fun j (hj:j < l.length) (hne:j≠i)=>standsA hc hS hi hoi hri hSi hready hne (List.getElem?_eq_getElem hj) (List.getElem?_eq_getElem (show j < rs.length by omega));rw [(tvX_text hfact i (by omega) hlen).2]
 have e1:=hvX_above (rs:=rs) (s0:=s) (S:=S) (id:=id) (k:=i) (l.length - i) (fun j h1 h2 ⟨h3,h4⟩=>by
  have hj:j < l.length:=by omega
  by_cases e:j=i;subst e;rw [hSi] at h3;cases h3;rcases hst j hj e with ⟨h,_⟩ | ⟨_,h⟩ | h;omega;rw [h] at h3;cases h3;rw [DX_of (List.getElem?_eq_getElem (show j < rs.length by omega))] at h4;rcases h.h2 id h4 with h5 | ⟨h5,h6⟩;rw [h5] at ht;cases ht;exact hda h5 h6)
 rw [show i+(l.length - i)=l.length by omega] at e1;rw [e1];refine hvX_same i (fun j hj hd=>?_);have hj':j < l.length:=by omega
 rcases hst j hj' (by omega) with ⟨_,h⟩ | ⟨h,_⟩ | h;exact h;omega;rw [DX_of (List.getElem?_eq_getElem (show j < rs.length by omega))] at hd;rcases h.h2 id hd with h5 | ⟨h5,h6⟩;rw [h5] at ht;cases ht;exact absurd h6 (hda h5)
theorem next_τA (hc:DrawA P s sa l rs) (hlen:rs.length=l.length) (hfact:∀ (k:Nat) (o:Oper) (r:Rc),l[k]? = some o→rs[k]? = some r→FactX P N l.toArray o r (runX l rs k s)) (hS:ClosedS l.toArray S) (hi:i < l.length) (hoi:l[i]? = some oi) (hri:rs[i]? = some ri) (hSi:S i=false) (hready:∀ j∈bindsOn oi,S j=true):updO (tvX l rs s S l.length) oi.dst ri.v=tvX l rs s (seenS S i) l.length:=by
 have hst:=fun j (hj:j < l.length) (hne:j≠i)=>standsA hc hS hi hoi hri hSi hready hne (List.getElem?_eq_getElem hj) (List.getElem?_eq_getElem (show j < rs.length by omega))
 funext t
 by_cases hd:oi.dst=some t
 ·have e1:=tvX_above (ops:=l) (rs:=rs) (s0:=s) (S:=seenS S i) (t:=t) (k:=i+1) (l.length - (i+1)) (fun j h1 h2 ⟨h3,h4⟩=>by
   have hj:j < l.length:=by omega
   have hne:j≠i:=by omega
   simp only [seenS,hne,if_false] at h3
   rcases hst j hj hne with ⟨h,_⟩ | ⟨_,h⟩ | h
   ·omega
   ·rw [h] at h3; cases h3
   ·rw [dstK_of (List.getElem?_eq_getElem hj)] at h4
    exact h.d2 t hd h4)
  rw [show i+1+(l.length - (i+1))=l.length by omega] at e1
  rw [e1]
  have e2:tvX l rs s (seenS S i) (i+1) t=ri.v:=by
   simp only [tvX,dstK_of hoi,vX_of hri,seenS,if_true,hd,and_self]
  rw [e2,hd]
  simp [updO,upd]
 ·have e1:updO (tvX l rs s S l.length) oi.dst ri.v t=tvX l rs s S l.length t:=by
   cases hdd:oi.dst with
   | none=>rfl
   | some d=>
    rw [hdd] at hd
    have:Nat.beq t d=false:=by
     cases hb:Nat.beq t d with
     | false=>rfl
     | true=>exact absurd (by rw [Nat.eq_of_beq_eq_true hb]) hd
    simp [updO,upd,this]
  rw [e1]
  refine tvX_same _ (fun j hj hdj=>?_)
  by_cases e:j=i
  ·subst e; rw [dstK_of hoi] at hdj; exact absurd hdj hd
  ·simp [seenS,e]
theorem next_ηA (hc:DrawA P s sa l rs) (hlen:rs.length=l.length) (hfact:∀ (k:Nat) (o:Oper) (r:Rc),l[k]? = some o→rs[k]? = some r→FactX P N l.toArray o r (runX l rs k s)) (hS:ClosedS l.toArray S) (hi:i < l.length) (hoi:l[i]? = some oi) (hri:rs[i]? = some ri) (hSi:S i=false) (hready:∀ j∈bindsOn oi,S j=true) (id:Nat):(if ri.D id=true then ri.η id else hvX rs s S l.length id)=hvX rs s (seenS S i) l.length id:=by
 have hst:=fun j (hj:j < l.length) (hne:j≠i)=>standsA hc hS hi hoi hri hSi hready hne (List.getElem?_eq_getElem hj) (List.getElem?_eq_getElem (show j < rs.length by omega));by_cases hd:ri.D id=true;rw [if_pos hd]
 have e1:=hvX_above (rs:=rs) (s0:=s) (S:=seenS S i) (id:=id) (k:=i+1) (l.length - (i+1)) (fun j h1 h2 ⟨h3,h4⟩=>by
  have hj:j < l.length:=by omega
  have hne:j≠i:=by omega
  simp only [seenS,hne,if_false] at h3;rcases hst j hj hne with ⟨h,_⟩ | ⟨_,h⟩ | h;omega;rw [h] at h3;cases h3;rw [DX_of (List.getElem?_eq_getElem (show j < rs.length by omega)),h.h3 id hd] at h4;cases h4)
 rw [show i+1+(l.length - (i+1))=l.length by omega] at e1;rw [e1];simp only [hvX,DX_of hri,ηX_of hri,seenS,if_true,hd,and_self];rw [if_neg hd];refine hvX_same _ (fun j hj hdj=>?_);by_cases e:j=i;subst e;rw [DX_of hri] at hdj;exact absurd hdj hd;simp [seenS,e]
theorem AWPX.regionA {RD WD:Nat→Prop} {M:Nat} {Q:Exit→St→Prop} {id:Nat} (hm:P.follows .mixedOrders=true) (hseq:SeqX P N l.toArray l s rs s') (hc:DrawA P s sa l rs) (hinn:∀ r∈rs,Inn RD WD M r) (h:Q .normal s'):AWPX P RD WD M N (.region id l.toArray true) Q s:=by
 obtain ⟨hlen,hend,hfact⟩:=hseq.facts
 intro F hF q DS C0 a0 hr0
 obtain ⟨hg1,he1⟩:=Ctx.drew_good hr0.good
 have hf1:FrX WD C0 { C0 with w:=C0.w.drew }:=⟨he1,fun _ _=>rfl,fun _ h=>.inl h⟩
 have hη1:({ C0 with w:=C0.w.drew }:Ctx).η=C0.η:=rfl
 have hU1:({ C0 with w:=C0.w.drew }:Ctx).U=C0.U:=rfl
 have hw:({ C0 with w:=C0.w.drew }:Ctx).w={ C0.w with drawn:=C0.w.drawn+1 }:=rfl
 generalize ({ C0 with w:=C0.w.drew }:Ctx)=C1 at hg1 he1 hf1 hη1 hU1 hw
 have hmono:∀ k k',k≤k'→k'≤l.length→(runX l rs k s).u≤(runX l rs k' s).u:=fun k k' h1 h2=>by
  have:=runX_u hfact hlen (k' - k) k (by omega)
  rwa [show k+(k' - k)=k' by omega] at this
 have hge:∀ k,k < l.length→l[k]? = some (l[k]!)∧∃ r,rs[k]? = some r:=fun k hk=>by
  have:k < rs.length:=by omega
  exact ⟨by simp [hk],rs[k],List.getElem?_eq_getElem this⟩
 have hnext:∀ k o r,l[k]? = some o→rs[k]? = some r→(runX l rs (k+1) s).u=r.u:=fun k o r ho hr=>by
  rw [runX_succ l rs k s o r ho hr]; rfl
 have hDlt:∀ k o r,k < l.length→l[k]? = some o→rs[k]? = some r→∀ id,r.D id=true→id < (runX l rs (k+1) s).u:=by
  intro k o r hk ho hr id hid
  rw [hnext k o r ho hr]
  have hf:=hfact k o r ho hr
  have:=hf.fits.le
  rcases Rc.D_iff.1 hid with h1 | h1
  ·have:=hf.fits.low id (hf.fits.sub id h1); omega
  ·exact h1.2
 have hfin:∀ (li:Array Bool) (C:Ctx) (a:Act),li.size=l.length→InX DS RD WD N l rs s M s'.u C1 (fun k=>li.getD k false) C a→Region.ready .any l.toArray li=[] →
  ∃ s'' C',Q .normal s''∧C'.w=C.w∧SRelX DS RD M N C' s'' a∧FrX WD C0 C':=by
  intro li C a hl hin hr
  have hall:∀ k,k < l.length→li.getD k false=true:=by
   intro k
   induction k using Nat.strongRecOn with
   | ind k ih=>
    intro hk
    cases hck:li.getD k false with
    | true=>rfl
    | false=>
     exfalso
     obtain ⟨ho,hrk⟩:=hge k hk
     have:k∈Region.ready .any l.toArray li:=by
      rw [mem_ready]
      have hkl:k < li.size:=by omega
      refine ⟨by simpa [Array.getD,hkl] using hck,l[k]!,by simpa using ho,fun e he hb=>?_⟩
      have hmem:e.on∈bindsOn (l[k]!):=List.mem_map.2 ⟨e,List.mem_filter.2 ⟨by simpa using he,hb⟩,rfl⟩
      have hlt:=(hc.op k _ ho).1 e.on hmem
      exact ih e.on hlt (by omega)
     rw [hr] at this
     simp at this
  have e1:tvX l rs s (fun k=>li.getD k false) l.length=s'.τ:=by
   rw [hend,(tvX_text hfact l.length (Nat.le_refl _) hlen).1]
   funext t
   exact tvX_same _ (fun j hj _=>hall j hj)
  have e2:hvX rs s (fun k=>li.getD k false) l.length=s'.η:=by
   rw [hend,(tvX_text hfact l.length (Nat.le_refl _) hlen).2]
   funext id
   exact hvX_same _ (fun j hj _=>hall j hj)
  have hrel:=hin.rel
  rw [e1,e2] at hrel
  exact ⟨s',C,h,rfl,hrel,hf1.trans hin.fr⟩
 have key:∀ (fuel:Nat) (li:Array Bool) (C:Ctx) (a:Act),li.size=l.length→(List.range l.length).countP (fun k=>!li.getD k false)≤fuel→InX DS RD WD N l rs s M s'.u C1 (fun k=>li.getD k false) C a →
  wpAnyIn F q P .any l.toArray (fun e a' w'=>∃ s'' C',Q e s''∧C'.w=w'∧SRelX DS RD M N C' s'' a'∧FrX WD C0 C') fuel li a C.w:=by
  intro fuel
  induction fuel with
  | zero=>
   intro li C a hl hcnt hin
   have hr:Region.ready .any l.toArray li=[]:=by
    rw [List.eq_nil_iff_forall_not_mem]
    intro k hk
    rw [mem_ready] at hk
    obtain ⟨h1,o,ho,_⟩:=hk
    have hkl:k < l.length:=by have:=(Array.getElem?_eq_some_iff.1 ho).1; simpa using this
    have:=List.countP_eq_zero.1 (Nat.le_zero.1 hcnt) k (List.mem_range.2 hkl)
    have hkl':k < li.size:=by omega
    simp [Array.getD,hkl'] at this h1
    rw [this] at h1; cases h1
   exact ⟨hr,hfin li C a hl hin hr⟩
  | succ fuel ih=>
   intro li C a hl hcnt hin
   refine ⟨hfin li C a hl hin,fun i hi=>?_⟩
   rw [mem_ready] at hi
   obtain ⟨h1,oi,ho,hdeps⟩:=hi
   have hil:i < l.length:=by have:=(Array.getElem?_eq_some_iff.1 ho).1; simpa using this
   have hill:i < li.size:=by omega
   have hSi:li.getD i false=false:=by simpa [Array.getD,hill] using h1
   have hoi:l[i]? = some oi:=by simpa using ho
   obtain ⟨_,ri,hri⟩:=hge i hil
   have hready:∀ j∈bindsOn oi,li.getD j false=true:=by
    intro j hj
    obtain ⟨e,he,rfl⟩:=List.mem_map.1 hj
    obtain ⟨he1,he2⟩:=List.mem_filter.1 he
    exact hdeps e (by simpa using he1) he2
   have hset:(fun k=>(li.setIfInBounds i true).getD k false)=seenS (fun k=>li.getD k false) i:=by
    funext k
    unfold seenS
    by_cases e:k=i
    ·subst e; simp [Array.getD,hill]
    ·rw [if_neg e]; exact getD_set_ne false (fun h=>e h.symm)
   have hcount:(List.range l.length).countP (fun k=>!(li.setIfInBounds i true).getD k false)≤fuel:=by
    have hlt:(List.range l.length).countP (fun k=>!(li.setIfInBounds i true).getD k false) < (List.range l.length).countP (fun k=>!li.getD k false):=by
     have e1:∀ k,(li.setIfInBounds i true).getD k false=seenS (fun k=>li.getD k false) i k:=fun k=>congrFun hset k
     simp only [e1]
     refine countP_ltS (List.mem_range.2 hil) (by simp [hSi]) (by simp [seenS]) (fun k hk=>?_)
     simp only [seenS]
     split <;> simp
    omega
   have hlooks:∀ t∈oi.looksAt l.toArray,tvX l rs s (fun k=>li.getD k false) l.length t=(runX l rs i s).τ t:=fun t ht=>at_looksA hc hlen hfact hin.closed hil hoi hri hSi hready ht
   have hclosed:ClosedS l.toArray (seenS (fun k=>li.getD k false) i):=by
    intro k o hk hs j hj
    unfold seenS at hs ⊢
    by_cases e:j=i
    ·simp [e]
    ·rw [if_neg e]
     by_cases e1:k=i
     ·subst e1
      rw [ho] at hk
      cases hk
      exact hready j hj
     ·rw [if_neg e1] at hs
      exact hin.closed k o hk hs j hj
   have hfi:=hfact i oi ri hoi hri
   have hinn_i:=hinn ri (List.mem_of_getElem? hri)
   have hτ:=next_τA (s:=s) hc hlen hfact hin.closed hil hoi hri hSi hready
   have hη:=next_ηA (s:=s) hc hlen hfact hin.closed hil hoi hri hSi hready
   have husedN:∀ (C':Ctx),(∀ id,C'.U id→C.U id∨ri.D id=true)→∀ id,C'.U id→C1.U id∨∃ k,k < l.length∧seenS (fun k=>li.getD k false) i k=true∧DX rs k id=true:=by
    intro C' hU id hid
    rcases hU id hid with h2 | h2
    ·rcases hin.used id h2 with h3 | ⟨k,hk,hSk,hk2⟩
     ·exact .inl h3
     ·exact .inr ⟨k,hk,by simp only [seenS]; split <;> simp_all,hk2⟩
    ·exact .inr ⟨i,hil,by simp [seenS],by rw [DX_of hri]; exact h2⟩
   unfold wpOpIn
   simp only [ho]
   rcases hfi.how with ⟨hwt,hL⟩ | ⟨hwt,hv,hF0,hu0⟩
   ·rw [want_specX (s:=⟨tvX l rs s (fun k=>li.getD k false) l.length,hvX rs s (fun k=>li.getD k false) l.length,s'.u⟩) ((want_congr hlooks).trans hwt) hin.rel (dstOk.guard hfi.dst)]
    simp only [if_true]
    obtain ⟨η2,hL2,hη2⟩:∃ η2,LOpX P oi (runX l rs i s).τ η2 ri∧∀ id,ri.F.testBit id=true→hvX rs s (fun k=>li.getD k false) l.length id=η2 id:=by
     by_cases hso:(∀ y,ri.D y=false)∧ri.F.testBit sa=true
     ·obtain ⟨m,hm1,hm2⟩:=hvX_text (rs:=rs) (s:=s) (S:=fun k=>li.getD k false) hlen sa l.length (Nat.le_refl _)
      refine ⟨_,hc.soft i oi ri hoi hri hso.1 hso.2 m hm1,fun id hid=>?_⟩
      by_cases e:id=sa
      ·subst e; rw [Heap.set_same]; exact hm2
      ·rw [Heap.set_other _ _ e]
       exact at_fpA hc hlen hfact hin.closed hil hoi hri hSi hready hid (fun e1=>absurd e1 e)
     ·exact ⟨_,hL,fun id hid=>at_fpA hc hlen hfact hin.closed hil hoi hri hSi hready hid (fun e1 h1=>hso ⟨h1,by rw [← e1]; exact hid⟩)⟩
    refine opIn hF (dstOk.nd hfi.dst) (hL2 C a hin.rel.good (fun x hx=>?_) (fun id hid=>?_) (fun id hle hlt hU=>?_) _ _ fun x C' hη' hUU hg' hev hvx=>?_)
    ·rw [← aev_congr hlooks hx]; exact hin.rel.eval x
    ·rw [hin.rel.η id (hinn_i.rd id hid)]; exact hη2 id hid
    ·have hDi:ri.D id=true:=Rc.D_iff.2 (.inr ⟨hle,hlt⟩)
     have h0i:=hmono 0 i (by omega) (by omega)
     rw [runX_zero] at h0i
     have hui:=hfi.u
     rcases hin.used _ hU with h3 | ⟨k,hk,hSk,hidk⟩
     ·rw [hU1] at h3
      exact hr0.free id (by omega) (by have:=hinn_i.u; omega) h3
     ·by_cases e:k=i
      ·subst e; rw [hSi] at hSk; cases hSk
      ·obtain ⟨hok,rk,hrk⟩:=hge k hk
       rw [DX_of hrk] at hidk
       rcases standsA hc hin.closed hil hoi hri hSi hready e hok hrk with ⟨hlt',_⟩ | ⟨_,h4⟩ | h4
       ·have:=hDlt k _ _ hk hok hrk id hidk
        have:=hmono (k+1) i (by omega) (by omega)
        omega
       ·rw [h4] at hSk; cases hSk
       ·rw [h4.h3 id hDi] at hidk; cases hidk
    ·have hnew:∀ id,s'.u≤id→id < M→¬ C'.U id:=by
      intro id hle hlt hid
      rcases hUU id hid with h2 | h2
      ·exact hin.rel.free id hle hlt h2
      ·have:=hDlt i oi ri hil hoi hri id h2
       have:=hmono (i+1) l.length (by omega) (by omega)
       rw [← hend] at this
       omega
     have hrel:=hin.rel.put hev hg' (η':=hvX rs s (seenS (fun k=>li.getD k false) i) l.length) (fun id hid=>by rw [hη' id,← hη id,hin.rel.η id hid]) hnew (dstOk.dst hfi.dst) hvx
     simp only at hrel
     rw [hτ] at hrel
     refine ih _ C' _ (by simpa using hl) hcount ?_
     rw [hset]
     exact ⟨hrel,hclosed,husedN C' hUU,hin.fr.trans ⟨hev,fun id hid=>by rw [hη' id,if_neg (fun hd=>hid (hinn_i.wd id hd))],fun id hid=>(hUU id hid).imp (fun h=>h) (hinn_i.wd id)⟩⟩
   ·rw [want_specX (s:=⟨tvX l rs s (fun k=>li.getD k false) l.length,hvX rs s (fun k=>li.getD k false) l.length,s'.u⟩) ((want_congr hlooks).trans hwt) hin.rel (dstOk.guard hfi.dst)]
    simp only [Bool.false_eq_true,if_false]
    have hD0:=hfi.skip_D ⟨hF0,hu0⟩
    have hrel:=hin.rel.put (Ev.refl C) hin.rel.good (η':=hvX rs s (seenS (fun k=>li.getD k false) i) l.length) (u':=s'.u) (fun id hid=>by rw [← hη id,hD0 id]; exact hin.rel.η id hid) hin.rel.free (dstOk.dst hfi.dst) (VR.v C undef)
    simp only at hrel
    rw [← hv,hτ] at hrel
    refine ⟨fun _ _=>hF.fn _,ih _ C _ (by simpa using hl) hcount ?_⟩
    rw [hset]
    exact ⟨hrel,hclosed,husedN C (fun id h=>.inl h),hin.fr⟩
 refine wpIn_region_any hm ?_
 have e0:(fun k=>(Array.replicate l.toArray.size false).getD k false)=fun _=>false:=by
  funext k; simp [Array.getD]
 have hstart:InX DS RD WD N l rs s M s'.u C1 (fun _=>false) C1 a0:=by
  have e1:tvX l rs s (fun _=>false) l.length=s.τ:=by
   have:∀ m,tvX l rs s (fun _=>false) m=s.τ:=by
    intro m
    induction m with
    | zero=>rfl
    | succ m ih=>funext t; simp [tvX,ih]
   exact this _
  have e2:hvX rs s (fun _=>false) l.length=s.η:=by
   have:∀ m,hvX rs s (fun _=>false) m=s.η:=by
    intro m
    induction m with
    | zero=>rfl
    | succ m ih=>funext t; simp [hvX,ih]
   exact this _
  have h0n:=hmono 0 l.length (by omega) (Nat.le_refl _)
  rw [runX_zero,← hend] at h0n
  refine ⟨?_,fun k o _ hk=>(by cases hk),fun id hid=>.inl hid,FrX.refl _⟩
  rw [e1,e2]
  refine ⟨hg1,fun id hid=>by rw [hη1]; exact hr0.η id hid,fun id hle hlt hU=>?_,hr0.defers,hr0.size,fun t=>(hr0.τ t).mono hr0.good he1⟩
  rw [hU1] at hU
  have hle':s'.u≤id:=hle
  exact hr0.free id (by omega) hlt hU
 have:=key l.toArray.size (Array.replicate l.toArray.size false) C1 a0 (by simp) (by
  have:=List.countP_le_length (p:=fun k=>!(Array.replicate l.toArray.size false).getD k false) (l:=List.range l.length)
  simpa using this) (by rw [e0]; exact hstart)
 rw [hw] at this
 exact this
end
end Go.Proofs.YtbhhmbchdponjaaGreatDoor
namespace Go.Proofs.YtbhhmbchdponjaaGreatDoor
set_option linter.unusedVariables false
set_option linter.unusedSimpArgs false
open Go.RowKit
def VRs (C:Ctx) (as:List AV) (vs:Array Value):Prop:=as.length=vs.size∧∀ i (h:i < as.length) (h':i < vs.size),VR C as[i] vs[i]
def XCall (P:Program) (f:FuncId) (args:List AV) (η:Heap) (r:Rc):Prop :=
 ∀ (C:Ctx) (vals:Array Value),Good C→VRs C args vals→(∀ id,r.F.testBit id=true→C.η id=η id)→(∀ id,r.u0≤id→id < r.u→¬ C.U id) →
  Calls P f vals C.w (fun e w'=>∃ x C',e=.returned x∧C'.w=w'∧(∀ id,C'.η id=if r.D id=true then r.η id else C.η id)∧(∀ id,C'.U id→C.U id∨r.D id=true)∧Good C'∧Ev C C'∧VR C' r.v x)
section
variable {P:Program} {τ:Nat→AV} {η:Heap} {d:Option Tmp} {ty:TypeId} {pos:String} {af:Array Edge} {g:Option (Nat×Bool)}
theorem LOpX.call {g0:Operand} {f:FuncId} {caps:List AV} {xs:Array Operand} {ats:Array TypeId} {r:Rc} (hb:bodied P f=true) (hg0:aev τ g0=.clo f caps) (hc:XCall P f (xs.toList.map (aev τ)++caps) η r) :
 LOpX P ⟨d,.call { callee:=.value g0,args:=xs,argTypes:=ats },ty,pos,af,g⟩ τ η r:=by
 intro C a hg hxs hF hN K Q hK
 have h0:=hxs g0 (by simp [Op.operands,Call.operands])
 rw [hg0] at h0
 obtain ⟨vs,hv,hl,hi⟩:=h0.clo_inv
 have hargs:VRs C (xs.toList.map (aev τ)++caps) (xs.map a.eval++vs):=by refine ⟨by simp [hl],fun i h h'=>?_⟩;by_cases hlt:i < xs.size;have e1:(xs.toList.map (aev τ)++caps)[i]=aev τ xs[i]:=(by rw [List.getElem_append_left (by simpa using hlt)];simp);have e2:(xs.map a.eval++vs)[i]=a.eval xs[i]:=(by rw [Array.getElem_append_left (by simpa using hlt)];simp);rw [e1,e2];exact hxs _ (by simp [Op.operands,Call.operands]);have e1:(xs.toList.map (aev τ)++caps)[i]=caps[i - xs.size]'(by simp at h; omega):=(by rw [List.getElem_append_right (by simpa using hlt)];simp);have e2:(xs.map a.eval++vs)[i]=vs[i - xs.size]'(by simp at h'; omega):=(by rw [Array.getElem_append_right (by simpa using hlt)];simp);rw [e1,e2];exact hi _ _ _
 have hrun:(execOp a.eval ⟨d,.call { callee:=.value g0,args:=xs,argTypes:=ats },ty,pos,af,g⟩).run P C.w=.ok (.enter f (xs.map a.eval++vs)) C.w:=by have e:(execOp a.eval ⟨d,.call { callee:=.value g0,args:=xs,argTypes:=ats },ty,pos,af,g⟩).run P C.w=(callFunc f (#[]++xs.map a.eval++vs)).run P C.w:=(by have e0:execOp a.eval ⟨d,.call { callee:=.value g0,args:=xs,argTypes:=ats },ty,pos,af,g⟩=(do let dd ← Deferred.ofValue (a.eval g0) (xs.map a.eval); invoke dd.target dd.args):=rfl;rw [e0,hv];rfl);rw [e,run_callFunc' hb];simp
 unfold Oper.wp
 rw [hrun]
 refine Calls.mono (hc C _ hg hargs hF hN) ?_
 rintro e w' ⟨x,C',rfl,rfl,h1,h2,h3,h4,h5⟩
 exact hK x C' h1 h2 h3 h4 h5
end
def OutsX (P:Program) (RD:Nat→Prop) (M N:Nat) (fn:Func) (s:St) (ret:AV):Prop :=
 ∀ DS C a,SRelX DS RD M N C s a→∃ x,(results fn a.tmps).run P C.w=.ok x C.w∧VR C ret x
theorem XCall.of_body {P:Program} {f:FuncId} {fn:Func} {c:Code} {N:Nat} {args:List AV} {η:Heap} {r:Rc} (hf:P.funcs[f]? = some fn) (hb:fn.body=some c) (hN:fn.ntmps=N) (hl:args.length≤N) {τ0:Nat→AV} (hτ0:τ0=frameOf args) (hfit:Fits η r) (hηn:∀ id,r.u0≤id→η id=none)
 (h:AWPX P (fun id=>r.F.testBit id=true∨(r.u0≤id∧id < r.u)) (fun id=>r.D id=true) r.u N c (fun e s'=>(e=.normal∨e=.ret)∧(∀ id,r.D id=true→s'.η id=r.η id)∧OutsX P (fun id=>r.F.testBit id=true∨(r.u0≤id∧id < r.u)) r.u N fn s' r.v) ⟨τ0,η,r.u0⟩):XCall P f args η r:=by
 intro C vals hg ⟨hlen,hv⟩ hF hNw
 subst hτ0
 have hnone:∀ id,r.u0≤id→id < r.u→C.η id=none:=fun id h1 h2=>by
  cases hb':C.η id with
  | none=>rfl
  | some b=>exact absurd (hg.used hb') (hNw id h1 h2)
 have hr:SRelX [] (fun id=>r.F.testBit id=true∨(r.u0≤id∧id < r.u)) r.u N C ⟨frameOf args,η,r.u0⟩ { tmps:=vals++Array.replicate (fn.ntmps - vals.size) undef,defers:=[] }:=by
  refine ⟨hg,fun id hid=>hid.elim (hF id) (fun h=>(hnone id h.1 h.2).trans (hηn id h.1).symm),hNw,rfl,by simp; omega,fun t=>?_⟩
  simp only [Act.eval,frameOf]
  by_cases ht:t < args.length
  ·have h1:args.getD t (.v undef)=args[t]:=by simp [List.getD,ht]
   have h2:(vals++Array.replicate (fn.ntmps - vals.size) undef).getD t undef=vals[t]'(by omega):=by
    rw [Array.getD_eq_getD_getElem?,Array.getElem?_append_left (by omega)]
    simp [show t < vals.size by omega]
   rw [h1,h2]
   exact hv t ht (by omega)
  ·have h1:args.getD t (.v undef)=.v undef:=by simp [List.getD,List.getElem?_eq_none (Nat.le_of_not_lt ht)]
   have h2:(vals++Array.replicate (fn.ntmps - vals.size) undef).getD t undef=undef:=by
    rw [Array.getD_eq_getD_getElem?,Array.getElem?_append_right (by omega)]
    rw [Array.getElem?_replicate]
    split <;> rfl
   rw [h1,h2]
   exact VR.v _ _
 refine calls_of_wp hf hb (wpIn_wide.1 (Code.wpIn_mono ?_ (h Fence.wide FOk.wide 0 [] C _ hr)))
 rintro e a' w' ⟨s',C',⟨he,hη',ho⟩,rfl,hr',hfr⟩
 obtain ⟨x,h1,h2⟩:=ho [] C' a' hr'
 have hgive:∃ x' C'',(Ending.returned x)=.returned x'∧C''.w=C'.w∧(∀ id,C''.η id=if r.D id=true then r.η id else C.η id)∧(∀ id,C''.U id→C.U id∨r.D id=true)∧Good C''∧Ev C C''∧VR C'' r.v x':=by
  refine ⟨x,C',rfl,rfl,fun id=>?_,hfr.U,hr'.good,hfr.ev,h2⟩
  by_cases hd:r.D id=true
  ·rw [if_pos hd,← hη' id hd]
   refine hr'.η id ?_
   rcases Rc.D_iff.1 hd with h3 | h3
   ·exact .inl (hfit.sub id h3)
   ·exact .inr h3
  ·rw [if_neg hd]
   exact hfr.η id hd
 rcases he with rfl | rfl
 ·exact ⟨hr'.defers,x,h1,hgive⟩
 ·exact ⟨hr'.defers,x,h1,hgive⟩
theorem PCall.of_X {P:Program} {f:FuncId} {args:List AV} {r:Rc} {ret:AV} {fp:List Nat} (hfit:Fits noHeap r) (hr:FzP fp r.η r.v ret) (h:XCall P f args noHeap r):PCall P f args ret:=by
 intro T w vals ⟨hlen,hv⟩ hT;let C:Ctx:=⟨fun _=>(0,0),fun _=>0,noHeap,fun _=>False,T,w⟩
 have hno:∀ k,¬ C.mine k:=by rintro k ⟨_,⟨_,h,_⟩,_⟩; cases h
 have hg:Good C:={ used:=fun h=>(by cases h),obj:=fun h=>(by cases h),blk:=fun h=>(by cases h),inj:=fun h _=>(by obtain ⟨_,h,_⟩:=h; cases h),tok:=hT,apart:=fun h _=>hno _ h,tight:=fun h=>(by cases h) };refine Calls.mono (h C vals hg ⟨hlen,fun i h h'=>.imm (hv i h h')⟩ (fun id hid=>rfl) (fun id _ _ hU=>hU)) ?_;rintro e w' ⟨x,C',rfl,rfl,h1,h2,hg',hev,hx⟩
 have hη:C'.η=r.η:=by
  funext id;rw [h1 id];by_cases hd:r.D id=true;rw [if_pos hd];rw [if_neg hd,hfit.same id (by simpa using hd)]
 have h2:=hr C' hg' (fun id _=>by rw [hη]) x hx;refine ⟨x,fun b=>C'.T b∨C'.mine b,rfl,h2.mono (fun b hb=>hb.imp (fun h=>h) Ctx.mineOf_mine) (fun _ _=>rfl),fun b hb=>.inl (hev.T b hb),?_,?_,⟨hev.os,hev.tape,hev.output,hev.size,fun k hk=>hev.keep k hk (hno k)⟩⟩;rintro b (hb | hb);rcases hev.Tnew b hb with h | h | h;exact .inl h;exact absurd h (hno b);exact .inr h;rcases hev.mine b hb with h | h;exact absurd h (hno b);exact .inr h;rintro b (hb | hb);exact hg'.tlt hb;exact Ctx.mine_lt hg' hb
def OutX (P:Program) (RD:Nat→Prop) (M N:Nat) (s:St) (r:ResultVar) (ret:AV):Prop :=
 ∀ DS C a,SRelX DS RD M N C s a→∃ x,(oneR a.tmps r).run P C.w=.ok x C.w∧VR C ret x
section
variable {P:Program} {RD:Nat→Prop} {M N:Nat} {s:St} {fn:Func}
theorem OutX.tmp {t:Nat} {v:AV} (h:s.τ t=v):OutX P RD M N s (.tmp t) v:=by subst h;exact fun DS C a hs=>⟨a.tmps.getD t undef,by simp [oneR],hs.τ t⟩
theorem OutX.cell1 {v:AV} {t ty id ver o:Nat} {b:Blk} (ht:rowOf P ty=some none) (hx:s.τ t=.ptr id ver o) (hb:s.η id=some b) (hR:RD id) (hv:b.ver=ver) (hn:b.nilp=false) (hc:b.cs[o]? = some v):OutX P RD M N s (.cell t ty) v:=by intro DS C a hs;have hb':C.η id=some b:=(by rw [hs.η id hR]; exact hb);have h1:=hs.τ t;rw [hx] at h1;have h2:=h1.ptr_inv hb' hv;simp only [Act.eval] at h2;obtain ⟨hlt,he⟩:=List.getElem?_eq_some_iff.1 hc;obtain ⟨y,hy,hvy⟩:=hs.good.cell hb' hn hlt;rw [he] at hvy;have hload:=run_loadAt1 (P:=P) ht (b:=(C.ρ id).1) (o:=(C.ρ id).2+o) (w:=C.w) hy;refine ⟨y,?_,hvy⟩;simp only [Instr.loadAt,Instr.sureAddr,Sem.run_bind,Sem.run_pure,Result.andThen_ok] at hload;simp only [oneR,h2,asAddr,Sem.run_bind,Sem.run_pure,Result.andThen_ok];exact hload
theorem OutX.cellN {t ty n id ver o:Nat} {b:Blk} {ds:List AV} (ht:rowOf P ty=some (some n)) (hx:s.τ t=.ptr id ver o) (hb:s.η id=some b) (hR:RD id) (hv:b.ver=ver) (hn:b.nilp=false) (hd:takeFrom o n b.cs=some ds):OutX P RD M N s (.cell t ty) (.agg ds):=by intro DS C a hs;have hb':C.η id=some b:=(by rw [hs.η id hR]; exact hb);have h1:=hs.τ t;rw [hx] at h1;have h2:=h1.ptr_inv hb' hv;simp only [Act.eval] at h2;obtain ⟨hl,rfl⟩:=takeFrom_eq _ _ _ _ hd;obtain ⟨fcell,hfc⟩:=choose_cells (n:=n) (p:=fun j y=>C.w.cell? ⟨(C.ρ id).1,(C.ρ id).2+o+j,none⟩=some y∧VR C (b.cs.getD (o+j) .unk) y) (fun j hj=>by obtain ⟨y,hy,hvy⟩:=hs.good.cell hb' hn (j:=o+j) (by omega);refine ⟨y,by rw [← hy]; congr 2; omega,have:b.cs.getD (o+j) .unk=b.cs[o+j]'(by omega):=(by simp [List.getD,show o+j < b.cs.length by omega]); ?_⟩;rw [this];exact hvy);have hlen:((List.range n).map fcell).length=n:=(by simp);have hload:=run_loadAtN (P:=P) ht (b:=(C.ρ id).1) (o:=(C.ρ id).2+o) (w:=C.w) hlen (fun j v hj=>by obtain ⟨hlt,he⟩:=List.getElem?_eq_some_iff.1 hj;simp only [List.getElem_map,List.getElem_range] at he;subst he;exact (hfc j (by simpa using hlt)).1);exact ⟨.agg ((List.range n).map fcell).toArray,by simp only [Instr.loadAt,Instr.sureAddr,Sem.run_bind,Sem.run_pure,Result.andThen_ok] at hload;simp only [oneR,h2,asAddr,Sem.run_bind,Sem.run_pure,Result.andThen_ok];exact hload,.agg (by simp; omega) (fun i hi hi'=>by have hin:i < n:=(by simpa using hi');simp only [List.getElem_toArray,List.getElem_map,List.getElem_range];have:=(hfc i hin).2;have e:(List.take n (List.drop o b.cs))[i]=b.cs.getD (o+i) .unk:=(by simp [List.getD,show o+i < b.cs.length by omega]);rw [e];exact this)⟩
inductive AllX (P:Program) (RD:Nat→Prop) (M N:Nat) (s:St):List ResultVar→List AV→Prop where
 | nil:AllX P RD M N s [] []
 | cons {r:ResultVar} {v:AV} {l:List ResultVar} {vs:List AV}:OutX P RD M N s r v→AllX P RD M N s l vs→AllX P RD M N s (r :: l) (v :: vs)
theorem AllX.run {l:List ResultVar} {vs:List AV} (h:AllX P RD M N s l vs):∀ DS C a,SRelX DS RD M N C s a→∃ xs:List Value,(l.mapM (oneR a.tmps)).run P C.w=.ok xs C.w∧vs.length=xs.length∧∀ i (h:i < vs.length) (h':i < xs.length),VR C vs[i] xs[i]:=by
 induction h with
 | nil=>intro DS C a hs; exact ⟨[],by simp,rfl,fun i h=>absurd h (by simp)⟩
 | cons h1 _ ih=>
  intro DS C a hs
  obtain ⟨x,e1,v1⟩:=h1 DS C a hs
  obtain ⟨xs,e2,hl,v2⟩:=ih DS C a hs
  refine ⟨x :: xs,by simp [Sem.run_bind,Result.andThen,e1,e2],by simp [hl],fun i h h'=>?_⟩
  cases i with
  | zero=>exact v1
  | succ i=>exact v2 i (by simpa using h) (by simpa using h')
def pack:List AV→AV
 | [v]=>v
 | vs=>.tup vs
theorem OutsX.of_all {vs:List AV} (h:AllX P RD M N s fn.results.toList vs):OutsX P RD M N fn s (pack vs):=by
 intro DS C a hs;obtain ⟨xs,e,hl,hv⟩:=h.run DS C a hs;have hh:results fn a.tmps=(do let vs ← fn.results.mapM (oneR a.tmps); pure (if h:vs.size=1 then vs[0] else .tuple vs)):=by unfold results;congr 1
 have hm:(fn.results.mapM (oneR a.tmps)).run P C.w=.ok xs.toArray C.w:=by rw [Array.mapM_eq_mapM_toList];simp [Sem.run_bind,Result.andThen,e]
 refine ⟨if h:xs.toArray.size=1 then xs.toArray[0] else .tuple xs.toArray,by rw [hh,Sem.run_bind,hm];rfl,?_⟩;match vs,xs,hl,hv with
 | [v],[x],_,hv=>exact hv 0 (by simp) (by simp)
 | [],[],_,_=>exact .tup rfl (fun i h=>absurd h (by simp))
 | v1 :: v2 :: vs,x1 :: x2 :: xs,hl,hv=>
  have:¬ ((x1 :: x2 :: xs).toArray.size=1):=by simp
  rw [dif_neg this]
  exact .tup (by simpa using hl) (fun i h h'=>by simpa using hv i h (by simpa using h'))
end
end Go.Proofs.YtbhhmbchdponjaaGreatDoor
namespace Go.Proofs.YtbhhmbchdponjaaGreatDoor
set_option linter.unusedVariables false
set_option linter.unusedSimpArgs false
open Go.RowKit
def force {α:Type} (n:Nat) (k:Nat→Option α):Option α:=match n with
 | 0=>k 0
 | .succ m=>k (.succ m)
theorem force_eq {α:Type} (n:Nat) (k:Nat→Option α):force n k=k n:=by cases n <;> rfl
structure ESX where
 t:Tri AV
 h:Tri (Option Blk)
 u:Nat
 rd:Nat
 wr:Nat
def ESX.st (E:ESX):St:=⟨triτ E.t,triη E.h,E.u⟩
structure Rx where
 F:Nat
 W:Nat
 u0:Nat
 u:Nat
 h:Tri (Option Blk)
 v:AV
def Rx.rc (r:Rx):Rc:=⟨r.F,r.W,r.u0,r.u,triη r.h,r.v⟩
def LowH (h:Tri (Option Blk)) (u:Nat):Prop:=∀ id,u≤id→triη h id=none
def OpRunX:=Oper→ESX→Option Rx
def OpRunX.Ok (P:Program) (f:OpRunX):Prop:=∀ o E r,LowH E.h E.u→f o E=some r→r.u0=E.u∧Fits (triη E.h) r.rc∧LOpX P o (triτ E.t) (triη E.h) r.rc
def forceI {α:Type} (i:Int) (k:Int→Option α):Option α:=match i with
 | .ofNat n=>force n fun n=>k (.ofNat n)
 | .negSucc n=>force n fun n=>k (.negSucc n)
theorem forceI_eq {α:Type} (i:Int) (k:Int→Option α):forceI i k=k i:=by cases i <;> simp [forceI,force_eq]
def forceB {α:Type} (b:Bool) (k:Bool→Option α):Option α:=match b with
 | true=>k true
 | false=>k false
theorem forceB_eq {α:Type} (b:Bool) (k:Bool→Option α):forceB b k=k b:=by cases b <;> rfl
def forceA {α:Type} (v:AV) (k:AV→Option α):Option α:=match v with
 | .v x=>match x with
  | .int j i=>forceI i fun i=>k (.v (.int j i))
  | .bool b=>forceB b fun b=>k (.v (.bool b))
  | x=>k (.v x)
 | .ptr a b c=>force a fun a=>force b fun b=>force c fun c=>k (.ptr a b c)
 | .sl a b c d=>force a fun a=>force b fun b=>force c fun c=>force d fun d=>k (.sl a b c d)
 | .tree n rows=>k (.tree n rows)
 | .tp cs o=>force o fun o=>k (.tp cs o)
 | .clo f caps=>k (.clo f caps)
 | .agg cs=>k (.agg cs)
 | .tup vs=>k (.tup vs)
 | .unk=>k .unk
 | .mp a b=>force a fun a=>force b fun b=>k (.mp a b)
 | .it a b=>force a fun a=>force b fun b=>k (.it a b)
theorem forceA_eq {α:Type} (v:AV) (k:AV→Option α):forceA v k=k v:=by unfold forceA;split;split <;> simp [forceI_eq,forceB_eq];all_goals simp [force_eq]
def ESX.step (E:ESX) (dst:Option Nat) (r:Rx):Option ESX :=
 force (Nat.lor E.rd r.F) fun rd=>force (Nat.lor E.wr r.W) fun wr=>force r.u fun u=>match dst with
  | none=>some ⟨E.t,r.h,u,rd,wr⟩
  | some d=>forceA r.v fun v=>match Tri.set 24 E.t d v with
   | some t=>some ⟨t,r.h,u,rd,wr⟩
   | none=>none
theorem ESX.step_eq {E E':ESX} {o:Oper} {r:Rx} (h:E.step o.dst r=some E'):E'.st=stepX o r.rc E.st∧E'.h=r.h∧E'.u=r.u∧E'.rd=E.rd ||| r.F∧E'.wr=E.wr ||| r.W:=by
 unfold ESX.step at h;rw [force_eq,force_eq,force_eq] at h;cases e2:o.dst with
 | none=>
  rw [e2] at h
  simp only [Option.some.injEq] at h
  subst h
  exact ⟨by simp only [ESX.st,stepX,e2,updO,Rx.rc],rfl,rfl,rfl,rfl⟩
 | some d=>
  rw [e2] at h
  simp only [forceA_eq] at h
  cases e3:Tri.set 24 E.t d r.v with
  | none=>rw [e3] at h; cases h
  | some t1=>
   rw [e3] at h
   simp only [Option.some.injEq] at h
   subst h
   exact ⟨by simp only [ESX.st,stepX,e2,updO,Rx.rc,triτ_set e3],rfl,rfl,rfl,rfl⟩
structure Mono (E E':ESX):Prop where
 rd:∀ id,E.rd.testBit id=true→E'.rd.testBit id=true
 wr:∀ id,E.wr.testBit id=true→E'.wr.testBit id=true
 u:E.u≤E'.u
 h:∀ id,id < E.u→E'.wr.testBit id=false→triη E'.h id=triη E.h id
 low:LowH E.h E.u→LowH E'.h E'.u
 sub:(∀ id,E.wr.testBit id=true→E.rd.testBit id=true)→∀ id,E'.wr.testBit id=true→E'.rd.testBit id=true
 lrd:(∀ id,E.rd.testBit id=true→id < E.u)→∀ id,E'.rd.testBit id=true→id < E'.u
theorem Mono.refl (E:ESX):Mono E E:=⟨fun _ h=>h,fun _ h=>h,Nat.le_refl _,fun _ _ _=>rfl,fun h=>h,fun h=>h,fun h=>h⟩
theorem Mono.trans {A B C:ESX} (h:Mono A B) (k:Mono B C):Mono A C where
 rd:=fun id hid=>k.rd id (h.rd id hid)
 wr:=fun id hid=>k.wr id (h.wr id hid)
 u:=Nat.le_trans h.u k.u
 h:=fun id hid hw=>by
  have:B.wr.testBit id=false:=by
   cases hb:B.wr.testBit id with
   | false=>rfl
   | true=>rw [k.wr id hb] at hw; cases hw
  rw [k.h id (Nat.lt_of_lt_of_le hid h.u) hw,h.h id hid this]
 low:=fun hl=>k.low (h.low hl)
 sub:=fun hs=>k.sub (h.sub hs)
 lrd:=fun hs=>k.lrd (h.lrd hs)
theorem Mono.of_step {E E':ESX} {r:Rx} (h1:E'.h=r.h) (h2:E'.u=r.u) (h3:E'.rd=E.rd ||| r.F) (h4:E'.wr=E.wr ||| r.W) (hu:r.u0=E.u) (hf:Fits (triη E.h) r.rc):Mono E E':=by
 have hu0:r.rc.u0=E.u:=hu
 have hle:r.rc.u0≤r.rc.u:=hf.le
 have hru:r.rc.u=r.u:=rfl
 refine ⟨fun id hid=>by rw [h3,Nat.testBit_or,hid]; rfl,fun id hid=>by rw [h4,Nat.testBit_or,hid]; rfl,by omega,fun id hid hw=>?_,fun hl id hid=>?_,fun hs id hid=>?_,fun hs id hid=>?_⟩
 ·rw [h1]
  refine hf.same id ?_
  cases hd:r.rc.D id with
  | false=>rfl
  | true=>
   rcases Rc.D_iff.1 hd with h5 | h5
   ·rw [h4,Nat.testBit_or,show r.W.testBit id=true from h5] at hw
    simp at hw
   ·omega
 ·rw [h1]
  have:r.rc.D id=false:=by
   cases hd:r.rc.D id with
   | false=>rfl
   | true=>
    rcases Rc.D_iff.1 hd with h5 | h5
    ·have:=hf.low id (hf.sub id h5); omega
    ·omega
  exact (hf.same id this).trans (hl id (by omega))
 ·rw [h4,Nat.testBit_or,Bool.or_eq_true] at hid
  rw [h3,Nat.testBit_or,Bool.or_eq_true]
  exact hid.imp (hs id) (hf.sub id)
 ·rw [h3,Nat.testBit_or,Bool.or_eq_true] at hid
  rcases hid with h5 | h5
  ·have:=hs id h5; omega
  ·have:=hf.low id h5; omega
def runOpsX (f:OpRunX) (ops:Array Oper):List Oper→ESX→Option (List Rx×ESX)
 | [],E=>some ([],E)
 | o :: l,E=>
  match want ops (triτ E.t) o with
  | none=>none
  | some false=>
   match E.step o.dst ⟨0,0,E.u,E.u,E.h,.v undef⟩ with
   | none=>none
   | some E'=>match runOpsX f ops l E' with
    | none=>none
    | some (rs,E'')=>some (⟨0,0,E.u,E.u,E.h,.v undef⟩ :: rs,E'')
  | some true=>
   match f o E with
   | none=>none
   | some r=>
    match E.step o.dst r with
    | none=>none
    | some E'=>match runOpsX f ops l E' with
     | none=>none
     | some (rs,E'')=>some (r :: rs,E'')
structure RunOk (E E':ESX) (r:Rx):Prop where
 F:∀ id,r.F.testBit id=true→E'.rd.testBit id=true
 W:∀ id,r.W.testBit id=true→E'.wr.testBit id=true
 u0:E.u≤r.u0
 u:r.u≤E'.u
theorem fits_skip {η:Heap} {u:Nat} {h:Tri (Option Blk)} {v:AV} (hη:triη h=η):Fits η (Rx.rc ⟨0,0,u,u,h,v⟩):=⟨Nat.le_refl _,fun id _=>by rw [← hη]; rfl,fun id hid=>hid,fun id hid=>by have:(0:Nat).testBit id=true:=hid;simp at this⟩
theorem runOpsX_ok {P:Program} {N:Nat} {f:OpRunX} (hf:f.Ok P) {ops:Array Oper}:∀ (l:List Oper) (E E':ESX) (rs:List Rx),(∀ o∈l,dstOk N ops o=true)→LowH E.h E.u→runOpsX f ops l E=some (rs,E') →
 SeqX P N ops l E.st (rs.map Rx.rc) E'.st∧Mono E E'∧∀ r∈rs,RunOk E E' r:=by
 intro l
 induction l with
 | nil=>
  intro E E' rs hd hl h
  simp only [runOpsX,Option.some.injEq,Prod.mk.injEq] at h
  obtain ⟨rfl,rfl⟩:=h
  exact ⟨.nil,Mono.refl _,fun r hr=>by cases hr⟩
 | cons o l ih=>
  intro E E' rs hd hl h
  simp only [runOpsX] at h
  have hdo:=hd o (by simp)
  have hdl:∀ o∈l,dstOk N ops o=true:=fun o ho=>hd o (by simp [ho])
  have main:∀ (r:Rx) (E1:ESX) (rs1:List Rx),r.u0=E.u→Fits (triη E.h) r.rc→((want ops E.st.τ o=some true∧LOpX P o E.st.τ E.st.η r.rc)∨(want ops E.st.τ o=some false∧r.rc.v=.v undef∧r.rc.F=0∧r.rc.u=E.st.u))→E.step o.dst r=some E1→runOpsX f ops l E1=some (rs1,E') →
   SeqX P N ops (o :: l) E.st ((r :: rs1).map Rx.rc) E'.st∧Mono E E'∧∀ r'∈r :: rs1,RunOk E E' r':=by
   intro r E1 rs1 hu hfit hhow hs hr
   obtain ⟨s1,s2,s3,s4,s5⟩:=ESX.step_eq hs
   have m1:Mono E E1:=Mono.of_step s2 s3 s4 s5 hu hfit
   obtain ⟨i1,i2,i3⟩:=ih E1 E' rs1 hdl (m1.low hl) hr
   refine ⟨.cons ⟨hdo,hu,hfit,hhow⟩ (by rw [← s1]; exact i1),m1.trans i2,fun r' hr'=>?_⟩
   rcases List.mem_cons.1 hr' with rfl | hr'
   ·refine ⟨fun id hid=>i2.rd id (by rw [s4,Nat.testBit_or,hid]; simp),fun id hid=>i2.wr id (by rw [s5,Nat.testBit_or,hid]; simp),by omega,?_⟩
    have:=i2.u
    omega
   ·have:=i3 r' hr'
    exact ⟨this.F,this.W,Nat.le_trans m1.u this.u0,this.u⟩
  split at h
  ·cases h
  ·rename_i hw
   split at h
   ·cases h
   ·rename_i E1 hs
    split at h
    ·cases h
    ·rename_i rs1 E2 hr
     simp only [Option.some.injEq,Prod.mk.injEq] at h
     obtain ⟨rfl,rfl⟩:=h
     exact main _ _ _ rfl (fits_skip rfl) (.inr ⟨hw,rfl,rfl,rfl⟩) hs hr
  ·rename_i hw
   split at h
   ·cases h
   ·rename_i r ho
    obtain ⟨q1,q2,q3⟩:=hf o E r hl ho
    split at h
    ·cases h
    ·rename_i E1 hs
     split at h
     ·cases h
     ·rename_i rs1 E2 hr
      simp only [Option.some.injEq,Prod.mk.injEq] at h
      obtain ⟨rfl,rfl⟩:=h
      exact main _ _ _ q1 q2 (.inl ⟨hw,q3⟩) hs hr
def bitB (m i:Nat):Bool:=Nat.beq (Nat.land (Nat.shiftRight m i) 1) 1
theorem bitB_iff {m i:Nat} (h:bitB m i=true):m.testBit i=true:=by have h1:=Nat.eq_of_beq_eq_true h;have h2:(m >>> i) &&& 1=1:=h1;unfold Nat.testBit;rw [Nat.and_comm] at h2;rw [h2];rfl
def statPrev (ops:Array Oper) (ok:Oper) (m:Nat):List Oper→Nat→Bool
 | [],_=>true
 | oi :: l,i=>(bitB m i||Oper.apart ops oi ok)&&statPrev ops ok m l (i+1)
def statGo (ops:Array Oper):List Oper→List Nat→Nat→Bool
 | [],_,_=>true
 | ok :: l,ms,k=>(bindsOn ok).all (fun i=>Nat.ble (i+1) k)&&(match ok.op with | .select _ _=>false | _=>true) &&
  (match ms with
  | []=>false
  | m :: ms=>statPrev ops ok m (ops.toList.take k) 0&&statGo ops l ms (k+1))
def statX (ops:Array Oper):Bool:=statGo ops ops.toList (masks ops.toList []) 0
theorem statPrev_ok {ops:Array Oper} {ok:Oper} {m:Nat}:∀ (l:List Oper) (i0:Nat),statPrev ops ok m l i0=true→∀ (i:Nat) (oi:Oper),l[i]? = some oi→m.testBit (i0+i)=true∨Oper.apart ops oi ok=true
 | [],_,_,i,oi,h=>by simp at h
 | o :: l,i0,h,i,oi,hi=>by
  simp only [statPrev,Bool.and_eq_true,Bool.or_eq_true] at h;cases i with
  | zero=>
   simp only [List.getElem?_cons_zero,Option.some.injEq] at hi
   subst hi
   exact h.1.imp bitB_iff (fun h=>h)
  | succ i=>
   have:=statPrev_ok l (i0+1) h.2 i oi (by simpa using hi)
   rwa [show i0+1+i=i0+(i+1) by omega] at this
theorem statGo_ok {ops:Array Oper}:∀ (l:List Oper) (ms:List Nat) (k0:Nat),statGo ops l ms k0=true→∀ (j:Nat) (ok:Oper),l[j]? = some ok→(∀ i∈bindsOn ok,i < k0+j)∧(∀ cs b,ok.op≠.select cs b)∧∃ m:Nat,ms[j]? = some m∧statPrev ops ok m (ops.toList.take (k0+j)) 0=true
 | [],_,_,_,j,ok,h=>by simp at h
 | o :: l,ms,k0,h,j,ok,hj=>by
  simp only [statGo,Bool.and_eq_true] at h
  obtain ⟨⟨h1,h2⟩,h3⟩:=h
  cases ms with
  | nil=>cases h3
  | cons m ms=>
   simp only [Bool.and_eq_true] at h3
   cases j with
   | zero=>
    simp only [List.getElem?_cons_zero,Option.some.injEq] at hj
    subst hj
    refine ⟨fun i hi=>Nat.le_of_ble_eq_true (List.all_eq_true.1 h1 i hi),fun cs b e=>(by rw [e] at h2; cases h2),m,rfl,h3.1⟩
   | succ j=>
    obtain ⟨g1,g2,m',g3,g4⟩:=statGo_ok l ms (k0+1) h3.2 j ok (by simpa using hj)
    rw [show k0+1+j=k0+(j+1) by omega] at g1 g4
    exact ⟨g1,g2,m',by simpa using g3,g4⟩
theorem statX_ok {l:List Oper} (h:statX l.toArray=true):(∀ (k:Nat) (ok:Oper),l[k]? = some ok→(∀ i∈bindsOn ok,i < k)∧∀ cs b,ok.op≠.select cs b) ∧
 ∀ (i k:Nat) (oi ok:Oper),i < k→l[i]? = some oi→l[k]? = some ok→Anc l.toArray k i∨Oper.apart l.toArray oi ok=true:=by
 have h1:=statGo_ok _ _ _ h
 refine ⟨fun k ok hk=>?_,fun i k oi ok hik hi hk=>?_⟩
 ·obtain ⟨g1,g2,_⟩:=h1 k ok (by simpa using hk)
  exact ⟨by simpa using g1,g2⟩
 ·obtain ⟨_,_,m,hm,hp⟩:=h1 k ok (by simpa using hk)
  have hi':(l.take (0+k))[i]? = some oi:=by rw [List.getElem?_take_of_lt (by omega)]; exact hi
  rcases statPrev_ok _ _ hp i oi (by simpa using hi') with h2 | h2
  ·left
   refine masks_anc l [] (fun j o hj=>by simpa using hj) (fun k i h=>by simp at h) k i ?_
   have:((masks l []).getD k 0)=m:=by simp only [List.getD];have:(masks l [])[k]? = some m:=(by simpa using hm);rw [this];rfl
   rw [this]
   simpa using h2
  ·exact .inr h2
def rangeM (a b:Nat):Nat:=Nat.shiftLeft (Nat.sub (Nat.shiftLeft 1 (Nat.sub b a)) 1) a
theorem rangeM_iff {a b id:Nat}:(rangeM a b).testBit id=true↔(a≤id∧id < b):=by have h:rangeM a b=(2 ^ (b - a) - 1) <<< a:=(by unfold rangeM;have h1:Nat.shiftLeft 1 (Nat.sub b a)=2 ^ (b - a):=(by show 1 <<< (b - a)=_;rw [Nat.one_shiftLeft]);rw [h1];rfl);rw [h,Nat.testBit_shiftLeft,Nat.testBit_two_pow_sub_one];simp only [Bool.and_eq_true,decide_eq_true_eq];omega
def Rx.dm (r:Rx):Nat:=bif Nat.beq r.u0 r.u then r.W else Nat.lor r.W (rangeM r.u0 r.u)
theorem Rx.dm_iff {r:Rx} {id:Nat}:r.dm.testBit id=true↔r.rc.D id=true:=by
 unfold Rx.dm;rw [Rc.D_iff];cases hb:Nat.beq r.u0 r.u with
 | true=>
  have:=Nat.eq_of_beq_eq_true hb
  simp only [cond_true,Rx.rc]
  constructor
  ·exact .inl
  ·rintro (h | h)
   ·exact h
   ·omega
 | false=>
  simp only [cond_false,Rx.rc]
  rw [show Nat.lor r.W (rangeM r.u0 r.u)=r.W ||| rangeM r.u0 r.u from rfl,Nat.testBit_or,Bool.or_eq_true,rangeM_iff]
def pairOk (f d f' d':Nat):Bool:=Nat.beq (Nat.land d (Nat.lor f' d')) 0&&Nat.beq (Nat.land d' f) 0
theorem land_zero {a b:Nat} (h:Nat.beq (Nat.land a b) 0=true) {x:Nat} (hx:a.testBit x=true):b.testBit x=false:=by have h1:=Nat.eq_of_beq_eq_true h;have h2:a &&& b=0:=h1;have h3:(a &&& b).testBit x=false:=(by rw [h2]; simp);rw [Nat.testBit_and,hx] at h3;simpa using h3
def dynGo:List Nat→List Rx→Nat→List (Nat×Nat×Nat)→Bool
 | m :: ms,r :: rs,k,acc=>bif Nat.beq r.F 0&&Nat.beq r.dm 0 then dynGo ms rs (k+1) acc else
  acc.all (fun q=>bitB m q.1||pairOk q.2.1 q.2.2 r.F r.dm)&&dynGo ms rs (k+1) ((k,r.F,r.dm) :: acc)
 | _,[],_,_=>true
 | [],_ :: _,_,_=>false
theorem dynGo_ok:∀ (ms:List Nat) (rs:List Rx) (k0:Nat) (acc:List (Nat×Nat×Nat)),dynGo ms rs k0 acc=true→∀ (j:Nat) (r:Rx),rs[j]? = some r→∃ m:Nat,ms[j]? = some m ∧
 ((r.F=0∧r.dm=0)∨((∀ q∈acc,m.testBit q.1=true∨pairOk q.2.1 q.2.2 r.F r.dm=true)∧∀ (i:Nat) (ri:Rx),i < j→rs[i]? = some ri→(ri.F=0∧ri.dm=0)∨m.testBit (k0+i)=true∨pairOk ri.F ri.dm r.F r.dm=true))
 | [],[],_,_,_,j,r,hj=>by simp at hj
 | _ :: _,[],_,_,_,j,r,hj=>by simp at hj
 | [],_ :: _,_,_,h,_,_,_=>by simp [dynGo] at h
 | m :: ms,r0 :: rs,k0,acc,h,j,r,hj=>by
  simp only [dynGo] at h;cases hz:(Nat.beq r0.F 0&&Nat.beq r0.dm 0) with
  | true=>
   rw [hz] at h
   simp only [cond_true] at h
   rw [Bool.and_eq_true] at hz
   have z1:=Nat.eq_of_beq_eq_true hz.1
   have z2:=Nat.eq_of_beq_eq_true hz.2
   cases j with
   | zero=>
    simp only [List.getElem?_cons_zero,Option.some.injEq] at hj
    subst hj
    exact ⟨m,rfl,.inl ⟨z1,z2⟩⟩
   | succ j=>
    obtain ⟨m',g1,g2⟩:=dynGo_ok ms rs (k0+1) acc h j r (by simpa using hj)
    refine ⟨m',by simpa using g1,g2.imp (fun h=>h) (fun ⟨g3,g4⟩=>⟨g3,fun i ri hij hi=>?_⟩)⟩
    cases i with
    | zero=>
     simp only [List.getElem?_cons_zero,Option.some.injEq] at hi
     subst hi
     exact .inl ⟨z1,z2⟩
    | succ i=>
     have:=g4 i ri (by omega) (by simpa using hi)
     rwa [show k0+1+i=k0+(i+1) by omega] at this
  | false=>
   rw [hz] at h
   simp only [cond_false,Bool.and_eq_true] at h
   obtain ⟨h1,h2⟩:=h
   cases j with
   | zero=>
    simp only [List.getElem?_cons_zero,Option.some.injEq] at hj
    subst hj
    refine ⟨m,rfl,.inr ⟨fun q hq=>?_,fun i ri hij=>by omega⟩⟩
    have:=List.all_eq_true.1 h1 q hq
    rw [Bool.or_eq_true] at this
    exact this.imp bitB_iff (fun h=>h)
   | succ j=>
    obtain ⟨m',g1,g2⟩:=dynGo_ok ms rs (k0+1) _ h2 j r (by simpa using hj)
    refine ⟨m',by simpa using g1,g2.imp (fun h=>h) (fun ⟨g3,g4⟩=>⟨fun q hq=>g3 q (by simp [hq]),fun i ri hij hi=>?_⟩)⟩
    cases i with
    | zero=>
     simp only [List.getElem?_cons_zero,Option.some.injEq] at hi
     subst hi
     exact .inr (by simpa using g3 (k0,r0.F,r0.dm) (by simp))
    | succ i=>
     have:=g4 i ri (by omega) (by simpa using hi)
     rwa [show k0+1+i=k0+(i+1) by omega] at this
def drawChk (ops:Array Oper) (u0:Nat) (rs:List Rx) (E':ESX):Bool :=
 statX ops&&((Nat.beq E'.wr 0&&Nat.beq (Nat.shiftRight E'.rd u0) 0)||dynGo (masks ops.toList []) rs 0 [])
theorem drawChk_ok {P:Program} {N:Nat} {l:List Oper} {E E':ESX} {rs:List Rx} (hseq:SeqX P N l.toArray l E.st (rs.map Rx.rc) E'.st) (hrun:∀ r∈rs,RunOk E E' r) (hc:drawChk l.toArray E.u rs E'=true):DrawOk l (rs.map Rx.rc):=by
 unfold drawChk at hc
 rw [Bool.and_eq_true,Bool.or_eq_true] at hc
 obtain ⟨hst,hdyn⟩:=hc
 obtain ⟨s1,s2⟩:=statX_ok hst
 obtain ⟨hlen,hend,hfact⟩:=hseq.facts
 refine ⟨fun i k oi ok ri rk hik hi hk hri hrk=>?_,s1⟩
 by_cases hA:Anc l.toArray k i
 ·exact .inl hA
 right
 have hap:=(s2 i k oi ok hik hi hk).resolve_left hA
 obtain ⟨a1,a2,a3⟩:=Oper.apart_spec hap
 rw [List.getElem?_map] at hri hrk
 cases hxi:rs[i]? with
 | none=>rw [hxi] at hri; cases hri
 | some xi=>
  cases hxk:rs[k]? with
  | none=>rw [hxk] at hrk; cases hrk
  | some xk=>
   rw [hxi] at hri
   rw [hxk] at hrk
   simp only [Option.map_some,Option.some.injEq] at hri hrk
   subst hri hrk
   have oi':=hrun xi (List.mem_of_getElem? hxi)
   have ok':=hrun xk (List.mem_of_getElem? hxk)
   have fi:=hfact i oi xi.rc hi (by rw [List.getElem?_map,hxi]; rfl)
   have fk:=hfact k ok xk.rc hk (by rw [List.getElem?_map,hxk]; rfl)
   rcases hdyn with hfast | hslow
   ·rw [Bool.and_eq_true] at hfast
    have w0:=Nat.eq_of_beq_eq_true hfast.1
    have r0:E'.rd >>> E.u=0:=Nat.eq_of_beq_eq_true hfast.2
    have noW:∀ (x:Rx),RunOk E E' x→∀ id,x.rc.D id=true→x.u0≤id∧id < x.u:=fun x hx id hd=>by
     rcases Rc.D_iff.1 hd with h | h
     ·have:=hx.W id h
      rw [w0] at this
      simp at this
     ·exact h
    have noF:∀ (x:Rx),RunOk E E' x→∀ id,E.u≤id→x.F.testBit id=false:=fun x hx id hle=>by
     cases hb:x.F.testBit id with
     | false=>rfl
     | true=>
      have h1:=hx.F id hb
      have h2:(E'.rd >>> E.u).testBit (id - E.u)=true:=by
       rw [Nat.testBit_shiftRight,show E.u+(id - E.u)=id by omega]; exact h1
      rw [r0] at h2
      simp at h2
    have hmu:xi.u≤xk.u0:=by
     have h1:=runX_u hfact hlen (k - (i+1)) (i+1) (by have:=(List.getElem?_eq_some_iff.1 hk).1; omega)
     rw [show i+1+(k - (i+1))=k by omega,runX_succ l (rs.map Rx.rc) i E.st oi xi.rc hi (by rw [List.getElem?_map,hxi]; rfl)] at h1
     have h2:xk.rc.u0=_:=fk.u
     have h3:xi.rc.u≤xk.rc.u0:=by rw [h2]; exact h1
     exact h3
    refine ⟨a1,a2,a3,fun x hx=>?_,fun x hx=>?_,fun x hx=>?_⟩
    ·have:=noW xi oi' x hx
     exact noF xk ok' x (by have:=oi'.u0; omega)
    ·have:=noW xk ok' x hx
     exact noF xi oi' x (by have:=ok'.u0; omega)
    ·cases hy:xk.rc.D x with
     | false=>rfl
     | true=>
      have h1:=noW xi oi' x hx
      have h2:=noW xk ok' x hy
      omega
   ·obtain ⟨m,hm,hh⟩:=dynGo_ok _ _ _ _ hslow k xk hxk
    have triv:∀ (x:Rx),x.F=0∧x.dm=0→(∀ id,x.rc.D id=false)∧∀ id,x.rc.F.testBit id=false:=fun x ⟨h1,h2⟩=>by
     refine ⟨fun id=>?_,fun id=>?_⟩
     ·cases hd:x.rc.D id with
      | false=>rfl
      | true=>
       have:=Rx.dm_iff.2 hd
       rw [h2] at this
       simp at this
     ·show x.F.testBit id=false
      rw [h1]; simp
    rcases hh with hh | ⟨_,hh⟩
    ·obtain ⟨t1,t2⟩:=triv xk hh
     exact ⟨a1,a2,a3,fun x _=>t2 x,fun x hx=>(by rw [t1 x] at hx; cases hx),fun x _=>t1 x⟩
    ·rcases hh i xi hik hxi with hh | hh | hh
     ·obtain ⟨t1,t2⟩:=triv xi hh
      exact ⟨a1,a2,a3,fun x hx=>(by rw [t1 x] at hx; cases hx),fun x _=>t2 x,fun x hx=>(by rw [t1 x] at hx; cases hx)⟩
     ·exfalso
      refine hA (masks_anc l [] (fun j o hj=>by simpa using hj) (fun k i h=>by simp at h) k i ?_)
      have:((masks l []).getD k 0)=m:=by
       simp only [List.getD]
       have:(masks l [])[k]? = some m:=by simpa using hm
       rw [this]; rfl
      rw [this]
      simpa using hh
     ·unfold pairOk at hh
      rw [Bool.and_eq_true] at hh
      have q1:∀ x,xi.rc.D x=true→xk.F.testBit x=false∧xk.dm.testBit x=false:=fun x hx=>by
       have:=land_zero hh.1 (Rx.dm_iff.2 hx)
       rw [show Nat.lor xk.F xk.dm=xk.F ||| xk.dm from rfl,Nat.testBit_or,Bool.or_eq_false_iff] at this
       exact this
      refine ⟨a1,a2,a3,fun x hx=>(q1 x hx).1,fun x hx=>land_zero hh.2 (Rx.dm_iff.2 hx),fun x hx=>?_⟩
      cases hy:xk.rc.D x with
      | false=>rfl
      | true=>
       have:=(q1 x hx).2
       rw [Rx.dm_iff.2 hy] at this
       cases this
def dstAll (N:Nat) (ops:Array Oper):Bool:=ops.toList.all (dstOk N ops)
structure Under (RD WD:Nat→Prop) (M:Nat) (ub:Nat) (E':ESX):Prop where
 rd:∀ id,E'.rd.testBit id=true→RD id
 wd:∀ id,E'.wr.testBit id=true→WD id
 u:E'.u≤M
 new:∀ id,ub≤id→id < M→RD id∧WD id
theorem Under.back {RD WD:Nat→Prop} {M u:Nat} {E1 E':ESX} (h:Under RD WD M u E') (m:Mono E1 E'):Under RD WD M u E1 :=
 ⟨fun id hid=>h.rd id (m.rd id hid),fun id hid=>h.wd id (m.wr id hid),Nat.le_trans m.u h.u,h.new⟩
theorem Under.up {RD WD:Nat→Prop} {M u u1:Nat} {E':ESX} (h:Under RD WD M u E') (hu:u≤u1):Under RD WD M u1 E' :=
 ⟨h.rd,h.wd,h.u,fun id h1 h2=>h.new id (Nat.le_trans hu h1) h2⟩
end Go.Proofs.YtbhhmbchdponjaaGreatDoor
namespace Go.Proofs.YtbhhmbchdponjaaGreatDoor
set_option linter.unusedVariables false
set_option linter.unusedSimpArgs false
open Go.RowKit
def eqS:AV→AV→Bool
 | .v (.int k i),.v (.int k' i')=>decide (k=k')&&decide (i=i')
 | .v (.bool b),.v (.bool b')=>b==b'
 | .v (.slice none a c),.v (.slice none a' c')=>Nat.beq a a'&&Nat.beq c c'
 | .v (.pointer none),.v (.pointer none)=>true
 | .v (.map none),.v (.map none)=>true
 | .ptr a b c,.ptr a' b' c'=>Nat.beq a a'&&(Nat.beq b b'&&Nat.beq c c')
 | .sl a b c d,.sl a' b' c' d'=>Nat.beq a a'&&(Nat.beq b b'&&(Nat.beq c c'&&Nat.beq d d'))
 | .mp a b,.mp a' b'=>Nat.beq a a'&&Nat.beq b b'
 | .tree n [],.tree n' []=>Nat.beq n n'
 | _,_=>false
theorem eqS_ok {x y:AV} (h:eqS x y=true):x=y:=by
 unfold eqS at h;split at h <;> try simp only [Bool.and_eq_true,decide_eq_true_eq,beq_iff_eq] at h
 all_goals first
  | (obtain ⟨rfl,rfl⟩:=h; rfl)
  | (subst h; rfl)
  | (obtain ⟨h1,h2⟩:=h; have:=Nat.eq_of_beq_eq_true h1; have:=Nat.eq_of_beq_eq_true h2; subst_vars; rfl)
  | (obtain ⟨h1,h2,h3⟩:=h; have:=Nat.eq_of_beq_eq_true h1; have:=Nat.eq_of_beq_eq_true h2; have:=Nat.eq_of_beq_eq_true h3; subst_vars; rfl)
  | (obtain ⟨h1,h2,h3,h4⟩:=h; have:=Nat.eq_of_beq_eq_true h1; have:=Nat.eq_of_beq_eq_true h2; have:=Nat.eq_of_beq_eq_true h3; have:=Nat.eq_of_beq_eq_true h4; subst_vars; rfl)
  | (have:=Nat.eq_of_beq_eq_true h; subst_vars; rfl)
  | rfl
  | cases h
def softR (a:Nat) (r:Rx):Rx:=bif Nat.beq r.dm 0&&bitB r.F a then ⟨Nat.xor r.F (Nat.shiftLeft 1 a),r.W,r.u0,r.u,r.h,r.v⟩ else r
theorem softR_dm (a:Nat) (r:Rx):(softR a r).dm=r.dm:=by unfold softR;cases (Nat.beq r.dm 0&&bitB r.F a) <;> rfl
theorem softR_F {a:Nat} {r:Rx} {x:Nat} (h:(softR a r).F.testBit x=false):r.F.testBit x=false∨(x=a∧r.dm=0):=by
 unfold softR at h
 cases hc:(Nat.beq r.dm 0&&bitB r.F a) with
 | false=>rw [hc] at h; exact .inl h
 | true=>
  rw [hc] at h
  rw [Bool.and_eq_true] at hc
  have h1:(r.F ^^^ (1 <<< a)).testBit x=false:=h
  rw [Nat.testBit_xor,Nat.one_shiftLeft,Nat.testBit_two_pow] at h1
  by_cases e:a=x
  ·exact .inr ⟨e.symm,Nat.eq_of_beq_eq_true hc.1⟩
  ·rw [decide_eq_false e,Bool.xor_false] at h1; exact .inl h1
theorem softR_none {a:Nat} {r:Rx} (h:(softR a r).F=0∧(softR a r).dm=0):(∀ id,r.rc.D id=false)∧∀ id,r.rc.F.testBit id=false∨(id=a∧∀ y,r.rc.D y=false):=by
 have h2:r.dm=0:=by rw [← softR_dm a r]; exact h.2
 have hD:∀ id,r.rc.D id=false:=fun id=>by
  cases hd:r.rc.D id with
  | false=>rfl
  | true=>have:=Rx.dm_iff.2 hd; rw [h2] at this; simp at this
 refine ⟨hD,fun id=>?_⟩
 have:(softR a r).F.testBit id=false:=by rw [h.1]; simp
 exact (softR_F this).imp (fun h=>h) (fun h=>⟨h.1,hD⟩)
def contA (E:ESX) (a:Nat) (rs:List Rx):List (Option Blk):=triη E.h a :: rs.map fun r=>triη r.h a
def sameRx (x r:Rx):Bool:=eqS x.v r.v&&(Nat.beq x.F r.F&&Nat.beq x.dm 0)
def softRun (f:OpRunX) (a:Nat) (cs:List (Option Blk)):List Oper→List Rx→ESX→Bool
 | o :: l,r :: rs,E=>(bif Nat.beq r.dm 0&&bitB r.F a then cs.all (fun c=>match Tri.set 24 E.h a c with
  | none=>false
  | some h'=>match f o ⟨E.t,h',E.u,E.rd,E.wr⟩ with
   | none=>false
   | some x=>sameRx x r) else true)&&(match E.step o.dst r with
  | none=>false
  | some E1=>softRun f a cs l rs E1)
 | _,_,_=>true
def softOk (f:OpRunX) (ops:Array Oper) (E:ESX) (rs:List Rx) (a:Nat):Bool:=dynGo (masks ops.toList []) (rs.map (softR a)) 0 []&&softRun f a (contA E a rs) ops.toList rs E
def wroteL (E:ESX) (rs:List Rx):List Nat:=(List.range E.u).filter fun i=>rs.any fun r=>bitB r.W i
def softChk (f:OpRunX) (ops:Array Oper) (E:ESX) (rs:List Rx):Bool:=statX ops&&(wroteL E rs).any (softOk f ops E rs)
theorem LOpX.same {P:Program} {o:Oper} {τ:Nat→AV} {η:Heap} {r x:Rc} (h:LOpX P o τ η x) (hv:x.v=r.v) (hF:x.F=r.F) (hx:∀ id,x.D id=false) (hr:∀ id,r.D id=false):LOpX P o τ η r:=by intro C a hg hxs hfp hnew K Q hK;exact h C a hg hxs (fun id hid=>hfp id (by rw [← hF]; exact hid)) (fun id h1 h2=>by have:=Rc.D_iff.2 (.inr ⟨h1,h2⟩);rw [hx id] at this;cases this) K Q fun y C' h1 h2 h3 h4 h5=>hK y C' (fun id=>by rw [h1 id,hx id,hr id];simp) (fun id hid=>(h2 id hid).elim .inl (fun h=>by rw [hx id] at h; cases h)) h3 h4 (by rw [← hv]; exact h5)
theorem bitB_of {m i:Nat} (h:m.testBit i=true):bitB m i=true:=by unfold bitB;have h1:(m >>> i) &&& 1=1:=(by have:m.testBit i=((m >>> i) &&& 1==1):=(by unfold Nat.testBit;rw [Nat.and_comm];have:(m >>> i) &&& 1=(m >>> i) % 2:=Nat.and_one_is_mod _;rw [this];rcases Nat.mod_two_eq_zero_or_one (m >>> i) with e | e <;> rw [e] <;> rfl);rw [this] at h;simpa using h);show Nat.beq ((m >>> i) &&& 1) 1=true;rw [h1];rfl
theorem softRun_ok {P:Program} {N:Nat} {f:OpRunX} (hf:f.Ok P) {ops:Array Oper} {a:Nat} {cs:List (Option Blk)}:∀ (l:List Oper) (rs:List Rx) (E:ESX) (s':St),SeqX P N ops l E.st (rs.map Rx.rc) s'→LowH E.h E.u→softRun f a cs l rs E=true →
 ∀ (i:Nat) (oi:Oper) (ri:Rx),l[i]? = some oi→rs[i]? = some ri→(∀ y,ri.rc.D y=false)→ri.F.testBit a=true→∀ c∈cs,LOpX P oi (runX l (rs.map Rx.rc) i E.st).τ ((runX l (rs.map Rx.rc) i E.st).η.set a c) ri.rc
 | [],rs,E,s',_,_,_,i,oi,ri,hi,_,_,_,c,_=>by simp at hi
 | o :: l,[],E,s',_,_,_,i,oi,ri,_,hr,_,_,c,_=>by simp at hr
 | o :: l,r :: rs,E,s',hseq,hlow,hs,i,oi,ri,hi,hr,hD,hF,c,hc=>by
  simp only [softRun] at hs
  rw [Bool.and_eq_true] at hs
  obtain ⟨h1,h2⟩:=hs
  cases hseq with
  | cons hfact hrest=>
  cases i with
  | zero=>
   simp only [List.getElem?_cons_zero,Option.some.injEq] at hi hr
   subst hi hr
   rw [runX_zero]
   have hdm:Nat.beq r.dm 0=true:=by
    have:r.dm=0:=by
     apply Nat.eq_of_testBit_eq
     intro y
     cases hy:r.dm.testBit y with
     | false=>simp
     | true=>have:=Rx.dm_iff.1 hy; rw [hD y] at this; cases this
    rw [this]; rfl
   rw [hdm,bitB_of hF] at h1
   simp only [Bool.and_self,cond_true] at h1
   have h3:=List.all_eq_true.1 h1 c hc
   cases hset:Tri.set 24 E.h a c with
   | none=>rw [hset] at h3; cases h3
   | some h'=>
    rw [hset] at h3
    simp only at h3
    have ha:a < E.u:=by
     have:=hfact.fits.low a hF
     have hu:r.rc.u0=E.st.u:=hfact.u
     have:a < E.st.u:=by omega
     exact this
    cases hfo:f o ⟨E.t,h',E.u,E.rd,E.wr⟩ with
    | none=>rw [hfo] at h3; cases h3
    | some x=>
     rw [hfo] at h3
     simp only [sameRx,Bool.and_eq_true] at h3
     obtain ⟨e1,e2,e3⟩:=h3
     have hη':triη h'=(triη E.h).set a c:=triη_set hset
     obtain ⟨_,_,q3⟩:=hf o ⟨E.t,h',E.u,E.rd,E.wr⟩ x (fun id hid=>by
      show triη h' id=none
      rw [hη',Heap.set_other _ _ (by have:E.u≤id:=hid; omega)]
      exact hlow id hid) hfo
     have hxD:∀ id,x.rc.D id=false:=fun id=>by
      cases hd:x.rc.D id with
      | false=>rfl
      | true=>have:=Rx.dm_iff.2 hd; rw [Nat.eq_of_beq_eq_true e3] at this; simp at this
     have q4:LOpX P o (triτ E.t) (triη h') x.rc:=q3
     rw [hη'] at q4
     exact q4.same (eqS_ok e1) (Nat.eq_of_beq_eq_true e2) hxD hD
  | succ i=>
   cases hst:E.step o.dst r with
   | none=>rw [hst] at h2; cases h2
   | some E1=>
    rw [hst] at h2
    simp only at h2
    obtain ⟨s1,s2,s3,s4,s5⟩:=ESX.step_eq hst
    have m1:Mono E E1:=Mono.of_step s2 s3 s4 s5 hfact.u hfact.fits
    have:=softRun_ok hf l rs E1 s' (by rw [s1]; exact hrest) (m1.low hlow) h2 i oi ri (by simpa using hi) (by simpa using hr) hD hF c hc
    rw [s1] at this
    exact this
theorem runX_cont {a:Nat}:∀ (rs:List Rx) (l:List Oper) (s:St) (m:Nat),m≤l.length→rs.length=l.length→(runX l (rs.map Rx.rc) m s).η a=s.η a∨∃ r∈rs,(runX l (rs.map Rx.rc) m s).η a=triη r.h a
 | _,l,s,0,_,_=>by rw [runX_zero]; exact .inl rfl
 | [],[],s,m+1,h,_=>by simp at h
 | [],o :: l,s,m+1,_,h=>by simp at h
 | r :: rs,[],s,m+1,h,_=>by simp at h
 | r :: rs,o :: l,s,m+1,h,hl=>by have:=runX_cont (a:=a) rs l (stepX o r.rc s) m (by simpa using h) (by simpa using hl);right;rcases this with e | ⟨r',h1,h2⟩;exact ⟨r,by simp,e⟩;exact ⟨r',by simp [h1],h2⟩
theorem softOk_ok {P:Program} {N:Nat} {f:OpRunX} (hf:f.Ok P) {l:List Oper} {E E':ESX} {rs:List Rx} {a:Nat} (hlow:LowH E.h E.u) (hseq:SeqX P N l.toArray l E.st (rs.map Rx.rc) E'.st) (hst:statX l.toArray=true) (hc:softOk f l.toArray E rs a=true):DrawA P E.st a l (rs.map Rx.rc):=by
 unfold softOk at hc
 rw [Bool.and_eq_true] at hc
 obtain ⟨hdyn,hsr⟩:=hc
 obtain ⟨s1,s2⟩:=statX_ok hst
 obtain ⟨hlen,hend,hfact⟩:=hseq.facts
 rw [List.length_map] at hlen
 refine ⟨fun i k oi ok ri rk hik hi hk hri hrk=>?_,s1,fun i oi ri hi hri hD hF m hm=>?_⟩
 ·by_cases hA:Anc l.toArray k i
  ·exact .inl hA
  right
  have hap:=(s2 i k oi ok hik hi hk).resolve_left hA
  obtain ⟨a1,a2,a3⟩:=Oper.apart_spec hap
  rw [List.getElem?_map] at hri hrk
  cases hxi:rs[i]? with
  | none=>rw [hxi] at hri; cases hri
  | some xi=>
   cases hxk:rs[k]? with
   | none=>rw [hxk] at hrk; cases hrk
   | some xk=>
    rw [hxi] at hri
    rw [hxk] at hrk
    simp only [Option.map_some,Option.some.injEq] at hri hrk
    subst hri hrk
    obtain ⟨m,hm,hh⟩:=dynGo_ok _ _ _ _ hdyn k (softR a xk) (by rw [List.getElem?_map,hxk]; rfl)
    rcases hh with hh | ⟨_,hh⟩
    ·obtain ⟨t1,t2⟩:=softR_none hh
     exact ⟨a1,a2,a3,fun x _=>t2 x,fun x hx=>(by rw [t1 x] at hx; cases hx),fun x _=>t1 x⟩
    ·rcases hh i (softR a xi) hik (by rw [List.getElem?_map,hxi]; rfl) with hh | hh | hh
     ·obtain ⟨t1,t2⟩:=softR_none hh
      exact ⟨a1,a2,a3,fun x hx=>(by rw [t1 x] at hx; cases hx),fun x _=>t2 x,fun x hx=>(by rw [t1 x] at hx; cases hx)⟩
     ·exfalso
      refine hA (masks_anc l [] (fun j o hj=>by simpa using hj) (fun k i h=>by simp at h) k i ?_)
      have:((masks l []).getD k 0)=m:=by
       simp only [List.getD]
       have:(masks l [])[k]? = some m:=by simpa using hm
       rw [this]; rfl
      rw [this]
      simpa using hh
     ·unfold pairOk at hh
      rw [Bool.and_eq_true,softR_dm,softR_dm] at hh
      have em:∀ {r:Rx},r.dm=0→∀ y,r.rc.D y=false:=fun {r} h2 y=>by
       cases hd:r.rc.D y with
       | false=>rfl
       | true=>have:=Rx.dm_iff.2 hd; rw [h2] at this; simp at this
      have q1:∀ x,xi.rc.D x=true→(softR a xk).F.testBit x=false∧xk.dm.testBit x=false:=fun x hx=>by
       have:=land_zero hh.1 (Rx.dm_iff.2 hx)
       rw [show Nat.lor (softR a xk).F xk.dm=(softR a xk).F ||| xk.dm from rfl,Nat.testBit_or,Bool.or_eq_false_iff] at this
       exact this
      refine ⟨a1,a2,a3,fun x hx=>(softR_F (q1 x hx).1).imp (fun h=>h) (fun h=>⟨h.1,em h.2⟩),fun x hx=>(softR_F (land_zero hh.2 (Rx.dm_iff.2 hx))).imp (fun h=>h) (fun h=>⟨h.1,em h.2⟩),fun x hx=>?_⟩
      cases hy:xk.rc.D x with
      | false=>rfl
      | true=>
       have:=(q1 x hx).2
       rw [Rx.dm_iff.2 hy] at this
       cases this
 ·rw [List.getElem?_map] at hri
  cases hxi:rs[i]? with
  | none=>rw [hxi] at hri; cases hri
  | some xi=>
   rw [hxi] at hri
   simp only [Option.map_some,Option.some.injEq] at hri
   subst hri
   refine softRun_ok hf (N:=N) (ops:=l.toArray) (cs:=contA E a rs) l rs E E'.st hseq hlow (by simpa using hsr) i oi xi hi hxi hD hF _ ?_
   unfold contA
   rcases runX_cont (a:=a) rs l E.st m hm hlen with e | ⟨r,h1,h2⟩
   ·rw [e]; exact List.mem_cons_self
   ·rw [h2]; exact List.mem_cons_of_mem _ (List.mem_map.2 ⟨r,h1,rfl⟩)
theorem softChk_ok {P:Program} {N:Nat} {f:OpRunX} (hf:f.Ok P) {l:List Oper} {E E':ESX} {rs:List Rx} (hlow:LowH E.h E.u) (hseq:SeqX P N l.toArray l E.st (rs.map Rx.rc) E'.st) (hc:softChk f l.toArray E rs=true):∃ a,DrawA P E.st a l (rs.map Rx.rc):=by unfold softChk at hc;rw [Bool.and_eq_true] at hc;obtain ⟨a,_,ha⟩:=List.any_eq_true.1 hc.2;exact ⟨a,softOk_ok hf hlow hseq hc.1 ha⟩
end Go.Proofs.YtbhhmbchdponjaaGreatDoor
namespace Go.Proofs.YtbhhmbchdponjaaGreatDoor
set_option linter.unusedVariables false
set_option linter.unusedSimpArgs false
open Go.RowKit
def ofRec (E:ESX) (r:Rec):Option Rx :=
 bif r.fp.all (fun id=>Nat.ble (id+1) E.u) then match r.δ with
  | []=>bif Nat.beq r.u E.u then some ⟨maskL r.fp,0,E.u,E.u,E.h,r.v⟩ else none
  | [p]=>bif Nat.beq p.1 E.u then (bif Nat.beq r.u (E.u+1) then (match Tri.set 24 E.h E.u p.2 with
   | some h=>some ⟨maskL r.fp,0,E.u,E.u+1,h,r.v⟩
   | none=>none) else none)
   else bif r.fp.contains p.1&&Nat.beq r.u E.u then (match Tri.set 24 E.h p.1 p.2 with
    | some h=>some ⟨maskL r.fp,Nat.shiftLeft 1 p.1,E.u,E.u,h,r.v⟩
    | none=>none) else none
  | _=>none
 else none
theorem ofRec_ok {P:Program} {E:ESX} {o:Oper} {r:Rec} {x:Rx} (h:ofRec E r=some x) (hL:LOp P o (triτ E.t) (triη E.h) r.fp r.δ r.v):x.u0=E.u∧Fits (triη E.h) x.rc∧LOpX P o (triτ E.t) (triη E.h) x.rc:=by
 unfold ofRec at h
 cases ha:r.fp.all (fun id=>Nat.ble (id+1) E.u) with
 | false=>rw [ha] at h; simp at h
 | true=>
  rw [ha] at h
  simp only [cond_true] at h
  have hlow:∀ id,(maskL r.fp).testBit id=true→id < E.u:=fun id hid=>Nat.le_of_ble_eq_true (List.all_eq_true.1 ha id (maskL_iff.1 hid))
  split at h
  ·rename_i hδ
   cases hb:Nat.beq r.u E.u with
   | false=>rw [hb] at h; simp at h
   | true=>
    rw [hb] at h
    simp only [cond_true,Option.some.injEq] at h
    subst h
    rw [hδ] at hL
    refine ⟨rfl,⟨Nat.le_refl _,fun id _=>rfl,fun id hid=>?_,hlow⟩,hL.toX⟩
    have:(0:Nat).testBit id=true:=hid
    simp at this
  ·rename_i p hδ
   obtain ⟨pid,pb⟩:=p
   rw [hδ] at hL
   simp only at h
   cases hb:Nat.beq pid E.u with
   | true=>
    rw [hb] at h
    simp only [cond_true] at h
    obtain rfl:=Nat.eq_of_beq_eq_true hb
    cases hu:Nat.beq r.u (E.u+1) with
    | false=>rw [hu] at h; simp at h
    | true=>
     rw [hu] at h
     simp only [cond_true] at h
     split at h
     ·rename_i h' hs
      simp only [Option.some.injEq] at h
      subst h
      refine ⟨rfl,⟨Nat.le_succ _,fun id hid=>?_,fun id hid=>?_,hlow⟩,?_⟩
      ·show triη h' id=_
       rw [triη_set hs]
       have:id≠E.u:=fun e=>by
        have h2:=hid
        rw [show Rc.D (Rx.rc ⟨maskL r.fp,0,E.u,E.u+1,h',r.v⟩) id=true from Rc.D_iff.2 (.inr ⟨by show E.u≤id; omega,by show id < E.u+1; omega⟩)] at h2
        cases h2
       rw [Heap.set_other _ _ this]
      ·have:(0:Nat).testBit id=true:=hid
       simp at this
      ·have:=hL.toX_new
       have e:triη h'=(triη E.h).set E.u pb:=triη_set hs
       show LOpX P o (triτ E.t) (triη E.h) ⟨maskL r.fp,0,E.u,E.u+1,triη h',r.v⟩
       rw [e]
       exact this
     ·cases h
   | false=>
    rw [hb] at h
    simp only [cond_false] at h
    cases hc:(r.fp.contains pid&&Nat.beq r.u E.u) with
    | false=>rw [hc] at h; simp at h
    | true=>
     rw [hc] at h
     simp only [cond_true] at h
     rw [Bool.and_eq_true,List.contains_iff_mem] at hc
     split at h
     ·rename_i h' hs
      simp only [Option.some.injEq] at h
      subst h
      have e:triη h'=(triη E.h).set pid pb:=triη_set hs
      refine ⟨rfl,⟨Nat.le_refl _,fun id hid=>?_,fun id hid=>?_,hlow⟩,?_⟩
      ·show triη h' id=_
       rw [e]
       have:id≠pid:=fun e=>by
        subst e
        have h2:=hid
        rw [show Rc.D (Rx.rc ⟨maskL r.fp,Nat.shiftLeft 1 id,E.u,E.u,h',r.v⟩) id=true from Rc.D_iff.2 (.inl (bit_iff.2 rfl))] at h2
        cases h2
       rw [Heap.set_other _ _ this]
      ·have:(Nat.shiftLeft 1 pid).testBit id=true:=hid
       rw [bit_iff] at this
       subst this
       exact maskL_iff.2 hc.1
      ·have:=hL.toX_old (u:=E.u) hc.1
       show LOpX P o (triτ E.t) (triη E.h) ⟨maskL r.fp,Nat.shiftLeft 1 pid,E.u,E.u,triη h',r.v⟩
       rw [e]
       exact this
     ·cases h
  ·cases h
theorem put_gone {η:Heap}:∀ {l:List Nat} {i:Nat},(η.put (l.map fun id=>(id,none))) i=if i∈l then none else η i
 | [],i=>by simp [Heap.put]
 | k :: l,i=>by show ((η.set k none).put (l.map fun id=>(id,none))) i=_;rw [put_gone];by_cases h:i∈l;rw [if_pos h,if_pos (List.mem_cons_of_mem _ h)];rw [if_neg h];by_cases e:i=k;subst e;rw [Heap.set_same,if_pos (by simp)];rw [Heap.set_other _ _ e,if_neg (by simp [e,h])]
theorem LOp.toX_gone {P:Program} {o:Oper} {τ:Nat→AV} {η:Heap} {fp:List Nat} {u:Nat} {v:AV} (h:LOp P o τ η fp (fp.map fun id=>(id,none)) v):LOpX P o τ η ⟨maskL fp,maskL fp,u,u,η.put (fp.map fun id=>(id,none)),v⟩:=by
 intro C a hg hx hF hN K Q hK
 have hD:∀ i,(⟨maskL fp,maskL fp,u,u,η.put (fp.map fun id=>(id,none)),v⟩:Rc).D i=true↔i∈fp:=fun i=>by
  rw [Rc.D_iff];simp only [maskL_iff];constructor;rintro (h1 | ⟨h1,h2⟩);exact h1;omega;exact .inl
 refine h C a hg hx (fun id hid=>hF id (maskL_iff.2 hid)) (fun p hp hnp=>by obtain ⟨id,hid,rfl⟩:=List.mem_map.1 hp;exact absurd hid hnp) K Q (fun x C' hη hU hg' he hv=>hK x C' (fun i=>?_) (fun i hi=>?_) hg' he hv);rw [hη,put_gone];by_cases e:i∈fp;rw [if_pos e,if_pos ((hD i).2 e)];show _=(η.put (fp.map fun id=>(id,none))) i
 rw [put_gone,if_pos e];rw [if_neg e,if_neg (fun h=>e ((hD i).1 h))];rcases (hU i).1 hi with h1 | h1;exact .inl h1;obtain ⟨q,hq,rfl⟩:=List.mem_map.1 h1;obtain ⟨id,hid,rfl⟩:=List.mem_map.1 hq;exact .inr ((hD id).2 hid)
def dropT:List Nat→Tri (Option Blk)→Option (Tri (Option Blk))
 | [],t=>some t
 | id :: r,t=>match Tri.set 24 t id none with
  | some t'=>dropT r t'
  | none=>none
theorem dropT_eq:∀ {l:List Nat} {t t':Tri (Option Blk)},dropT l t=some t'→triη t'=(triη t).put (l.map fun id=>(id,none))
 | [],t,t',h=>by cases h; rfl
 | id :: l,t,t',h=>by unfold dropT at h;split at h;rename_i t1 h1;rw [dropT_eq h,triη_set h1];rfl;cases h
def isGone:List (Nat×Option Blk)→List Nat→Bool
 | [],[]=>true
 | (i,none) :: r,j :: s=>Nat.beq i j&&isGone r s
 | _,_=>false
theorem isGone_eq:∀ {δ:List (Nat×Option Blk)} {fp:List Nat},isGone δ fp=true→δ=fp.map fun id=>(id,none)
 | [],[],_=>rfl
 | [],_ :: _,h=>by cases h
 | (_,none) :: _,[],h=>by cases h
 | (_,some _) :: _,[],h=>by cases h
 | (_,some _) :: _,_ :: _,h=>by cases h
 | (i,none) :: r,j :: s,h=>by simp only [isGone,Bool.and_eq_true] at h;rw [Nat.eq_of_beq_eq_true h.1,isGone_eq h.2];rfl
def goneE (E:ESX) (r:Rec):Option Rx:=bif r.fp.all (fun id=>Nat.ble (id+1) E.u)&&(isGone r.δ r.fp&&Nat.beq r.u E.u) then (match dropT r.fp E.h with
 | some h=>some ⟨maskL r.fp,maskL r.fp,E.u,E.u,h,r.v⟩
 | none=>none) else none
theorem goneE_ok {P:Program} {E:ESX} {o:Oper} {r:Rec} {x:Rx} (h:goneE E r=some x) (hL:LOp P o (triτ E.t) (triη E.h) r.fp r.δ r.v):x.u0=E.u∧Fits (triη E.h) x.rc∧LOpX P o (triτ E.t) (triη E.h) x.rc:=by
 unfold goneE at h
 cases hc:(r.fp.all (fun id=>Nat.ble (id+1) E.u)&&(isGone r.δ r.fp&&Nat.beq r.u E.u)) with
 | false=>rw [hc] at h; cases h
 | true=>
  rw [hc] at h
  simp only [cond_true] at h
  simp only [Bool.and_eq_true] at hc
  obtain ⟨ha,hg,_⟩:=hc
  have hlow:∀ id,(maskL r.fp).testBit id=true→id < E.u:=fun id hid=>Nat.le_of_ble_eq_true (List.all_eq_true.1 ha id (maskL_iff.1 hid))
  split at h
  ·rename_i h' hs
   simp only [Option.some.injEq] at h
   subst h
   have e:triη h'=(triη E.h).put (r.fp.map fun id=>(id,none)):=dropT_eq hs
   rw [isGone_eq hg] at hL
   refine ⟨rfl,⟨Nat.le_refl _,fun id hid=>?_,fun id hid=>hid,hlow⟩,?_⟩
   ·show triη h' id=_
    rw [e,put_gone]
    have:id∉r.fp:=fun e=>by
     have h2:=hid
     rw [show Rc.D (Rx.rc ⟨maskL r.fp,maskL r.fp,E.u,E.u,h',r.v⟩) id=true from Rc.D_iff.2 (.inl (maskL_iff.2 e))] at h2
     cases h2
    rw [if_neg this]
   ·show LOpX P o (triτ E.t) (triη E.h) ⟨maskL r.fp,maskL r.fp,E.u,E.u,triη h',r.v⟩
    rw [e]
    exact hL.toX_gone
  ·cases h
def ofRecG (E:ESX) (r:Rec):Option Rx:=match ofRec E r with
 | some x=>some x
 | none=>goneE E r
theorem ofRecG_ok {P:Program} {E:ESX} {o:Oper} {r:Rec} {x:Rx} (h:ofRecG E r=some x) (hL:LOp P o (triτ E.t) (triη E.h) r.fp r.δ r.v):x.u0=E.u∧Fits (triη E.h) x.rc∧LOpX P o (triτ E.t) (triη E.h) x.rc:=by grind [ofRecG,Option.some.injEq,ofRec_ok,goneE_ok]
abbrev CallX:=FuncId→List AV→Tri (Option Blk)→Nat→Option Rx
def CallX.Ok (P:Program) (call:CallX):Prop:=∀ f ys h u r,LowH h u→call f ys h u=some r→r.u0=u∧Fits (triη h) r.rc∧XCall P f ys (triη h) r.rc
def looked (E:ESX) (v:AV):Rx:=⟨0,0,E.u,E.u,E.h,v⟩
theorem looked_ok {P:Program} {E:ESX} {o:Oper} {v:AV} (hL:LOp P o (triτ E.t) (triη E.h) [] [] v):(looked E v).u0=E.u∧Fits (triη E.h) (looked E v).rc∧LOpX P o (triτ E.t) (triη E.h) (looked E v).rc:=⟨rfl,⟨Nat.le_refl _,fun id _=>rfl,fun id hid=>hid,fun id hid=>by have:(0:Nat).testBit id=true:=hid;simp at this⟩,hL.toX⟩
section
variable {P:Program} {τ:Nat→AV} {η:Heap} {d:Option Tmp} {ty:TypeId} {pos:String} {af:Array Edge} {g:Option (Nat×Bool)}
theorem LOp.makeFunc {f:FuncId} {caps:Array Operand}:LOp P ⟨d,.makeFunc (.func f) #[] caps,ty,pos,af,g⟩ τ η [] [] (.clo f (caps.toList.map (aev τ))) :=
 .look [] fun C a hg hx _=>by refine ⟨.func (.func f) #[] (caps.map a.eval),by simp [execOp,Instr.makeFunc],.clo (by simp) (fun i h h'=>?_)⟩;simp only [List.getElem_map,Array.getElem_toList,Array.getElem_map];exact hx _ (by simp [Op.operands])
end
def inI64 (n:Int):Bool:=match n with
 | .ofNat m=>Nat.ble m 9223372036854775807
 | .negSucc m=>Nat.ble m 9223372036854775807
theorem inI64_ok {n:Int} (h:inI64 n=true):IntKind.i64.wrap n=n:=by
 apply IntWalk.i64_in;cases n with
 | ofNat m=>
  have:=Nat.le_of_ble_eq_true h
  simp only [Int.ofNat_eq_natCast]
  omega
 | negSucc m=>
  have:=Nat.le_of_ble_eq_true h
  omega
def ltI:Int→Int→Bool
 | .ofNat a,.ofNat b=>Nat.blt a b
 | .ofNat _,.negSucc _=>false
 | .negSucc _,.ofNat _=>true
 | .negSucc a,.negSucc b=>Nat.blt b a
theorem ltI_eq (a b:Int):ltI a b=decide (a < b):=by rw [Bool.eq_iff_iff,decide_eq_true_eq];cases a <;> cases b <;> simp [ltI] <;> omega
theorem nlt_eq (a b:Int):(!ltI b a)=decide (a≤b):=by grind [ltI_eq]
def eqI:Int→Int→Bool
 | .ofNat a,.ofNat b=>Nat.beq a b
 | .negSucc a,.negSucc b=>Nat.beq a b
 | _,_=>false
theorem eqI_eq (a b:Int):eqI a b=(a==b):=by rw [Bool.eq_iff_iff,beq_iff_eq];cases a <;> cases b <;> simp [eqI] <;> omega
def fastI (op:BinOp) (a b:Int):Option Value:=match op with
 | .add=>bif inI64 (a+b) then some (.int .i64 (a+b)) else none
 | .sub=>bif inI64 (a - b) then some (.int .i64 (a - b)) else none
 | .eql=>some (.bool (eqI a b))
 | .neq=>some (.bool (!eqI a b))
 | .lss=>some (.bool (ltI a b))
 | .gtr=>some (.bool (ltI b a))
 | .leq=>some (.bool (!ltI b a))
 | .geq=>some (.bool (!ltI a b))
 | _=>none
def fastE (τ:Nat→AV) (op:Op):Option Value:=match op with
 | .binOp bop _ x y _=>match aev τ x with
  | .v (.int .i64 a)=>match aev τ y with
   | .v (.int .i64 b)=>fastI bop a b
   | _=>none
  | _=>none
 | .unOp .not _ x=>match aev τ x with
  | .v (.bool b)=>some (.bool !b)
  | _=>none
 | _=>none
theorem fastE_ok {P:Program} {τ:Nat→AV} {η:Heap} {o:Oper} {y:Value} (h:fastE τ o.op=some y):LOp P o τ η [] [] (.v y):=by
 obtain ⟨d,op,ty,pos,af,g⟩:=o
 refine .look [] fun C a hg hxs _=>⟨y,?_,VR.v C y⟩
 unfold fastE at h
 simp only at h hxs
 split at h
 ·rename_i bop t x z t'
  split at h
  ·rename_i m hx
   split at h
   ·rename_i n hz
    have e1:=hxs x (by simp [Op.operands])
    have e2:=hxs z (by simp [Op.operands])
    rw [hx] at e1
    rw [hz] at e2
    have e1':=e1.v_inv
    have e2':=e2.v_inv
    have hgd:∀ w:World,(eqGuard bop t x z (.int .i64 m) (.int .i64 n)).run P w=.ok () w:=by
     intro w
     unfold eqGuard
     split <;> rfl
    unfold fastI at h
    split at h
    ·cases hc:inI64 (m+n) with
     | false=>rw [hc] at h; simp at h
     | true=>
      rw [hc] at h
      simp only [cond_true,Option.some.injEq] at h
      subst h
      simp only [execOp,e1',e2',Sem.run_bind,hgd,Result.andThen_ok]
      simp [binOp,Op.intArith,inI64_ok hc,Sem.run_bind]
    ·cases hc:inI64 (m - n) with
     | false=>rw [hc] at h; simp at h
     | true=>
      rw [hc] at h
      simp only [cond_true,Option.some.injEq] at h
      subst h
      simp only [execOp,e1',e2',Sem.run_bind,hgd,Result.andThen_ok]
      simp [binOp,Op.intArith,inI64_ok hc,Sem.run_bind]
    all_goals first
     | (cases h; done)
     |(
      have h':=Option.some.inj h
      subst h'
      simp only [execOp,e1',e2',Sem.run_bind,hgd,Result.andThen_ok]
      first
       | (rw [nlt_eq]; rfl)
       | (rw [ltI_eq]; rfl)
       | (rw [eqI_eq]; rfl))
   ·cases h
  ·cases h
 ·rename_i t x
  split at h
  ·rename_i b hx
   have e1:=hxs x (by simp [Op.operands])
   rw [hx] at e1
   have e1':=e1.v_inv
   simp only [Option.some.injEq] at h
   subst h
   simp [execOp,e1',Op.unary,Sem.run_bind]
  ·cases h
 ·cases h
def opX (P:Program) (ov:FuncId→Bool) (ovr:CallRun) (call:CallX) (ext:OpRunX):OpRunX:=fun o E=>
 match o.op with
 | .call ⟨.value g,xs,ats⟩=>match aev (triτ E.t) g with
  | .clo f caps=>bif bodied P f then
   (bif ov f then (match g with
    | .func f'=>match callE P ovr (triτ E.t) (triη E.h) E.u f' xs with
     | some r=>ofRecG E r
     | none=>none
    | _=>none)
   else call f (xs.toList.map (aev (triτ E.t))++caps) E.h E.u)
   else ext o E
  | _=>none
 | .makeFunc (.func f) ⟨[]⟩ caps=>some (looked E (.clo f (caps.toList.map (aev (triτ E.t)))))
 | _=>match fastE (triτ E.t) o.op with
  | some y=>some (looked E (.v y))
  | none=>match opE P (fun _ _=>none) o ⟨E.t,E.h,E.u⟩ with
   | some r=>ofRec E r
   | none=>ext o E
theorem opX_ok {P:Program} {ov:FuncId→Bool} {ovr:CallRun} {call:CallX} {ext:OpRunX} (ho:∀ f ys ret,ovr f ys=some ret→PCall P f ys ret) (hc:call.Ok P) (he:ext.Ok P):(opX P ov ovr call ext).Ok P:=by
 intro o E r hl h;obtain ⟨d,op,ty,pos,af,g⟩:=o
 have rest:∀ (r:Rx),(match fastE (triτ E.t) op with
  | some y=>some (looked E (.v y))
  | none=>match opE P (fun _ _=>none) ⟨d,op,ty,pos,af,g⟩ ⟨E.t,E.h,E.u⟩ with
   | some r=>ofRec E r
   | none=>ext ⟨d,op,ty,pos,af,g⟩ E)=some r→r.u0=E.u∧Fits (triη E.h) r.rc∧LOpX P ⟨d,op,ty,pos,af,g⟩ (triτ E.t) (triη E.h) r.rc:=by
  intro r h
  split at h
  ·rename_i y hy
   simp only [Option.some.injEq] at h
   subst h
   exact looked_ok (fastE_ok (o:=⟨d,op,ty,pos,af,g⟩) hy)
  ·split at h
   ·rename_i r' hr
    exact ofRec_ok h (opE_ok (fun _ _ _ h=>by cases h) _ _ _ hr)
   ·exact he _ _ _ hl h
 unfold opX at h;simp only at h;split at h;rename_i g0 xs ats;split at h;rename_i f caps hg;cases hb:bodied P f with
 | false=>
  rw [hb] at h
  simp only [cond_false] at h
  exact he _ _ _ hl h
 | true=>
  rw [hb] at h
  simp only [cond_true] at h
  cases hov:ov f with
  | true=>
   rw [hov] at h
   simp only [cond_true] at h
   split at h
   ·split at h
    ·rename_i r' hr
     exact ofRecG_ok h (callE_ok ho hr)
    ·cases h
   ·cases h
  | false=>
   rw [hov] at h
   simp only [cond_false] at h
   obtain ⟨q1,q2,q3⟩:=hc _ _ _ _ _ hl h
   exact ⟨q1,q2,LOpX.call hb hg q3⟩
 cases h;rename_i f caps;simp only [Option.some.injEq] at h;subst h;exact looked_ok LOp.makeFunc;exact rest r h
def outX (P:Program) (E:ESX):ResultVar→Option (Nat×AV)
 | .tmp t=>some (0,triτ E.t t)
 | .cell t ty=>match triτ E.t t with
  | .ptr id ver o=>match liveB (triη E.h) id ver with
   | none=>none
   | some b=>match rowOf P ty with
    | none=>none
    | some none=>match b.cs[o]? with
     | some v=>some (Nat.shiftLeft 1 id,v)
     | none=>none
    | some (some n)=>match takeFrom o n b.cs with
     | some ds=>some (Nat.shiftLeft 1 id,.agg ds)
     | none=>none
  | _=>none
def outsX (P:Program) (E:ESX):List ResultVar→Option (Nat×List AV)
 | []=>some (0,[])
 | r :: l=>match outX P E r with
  | none=>none
  | some (m,v)=>match outsX P E l with
   | none=>none
   | some (m',vs)=>some (Nat.lor m m',v :: vs)
theorem outX_ok {P:Program} {RD:Nat→Prop} {M N:Nat} {E:ESX} {r:ResultVar} {m:Nat} {v:AV} (hR:∀ id b,triη E.h id=some b→m.testBit id=true→RD id) (h:outX P E r=some (m,v)):OutX P RD M N E.st r v:=by unfold outX at h;split at h;simp only [Option.some.injEq,Prod.mk.injEq] at h;obtain ⟨rfl,rfl⟩:=h;exact OutX.tmp rfl;rename_i t ty;split at h;rename_i id ver o hx;split at h;cases h;rename_i b hb;obtain ⟨h1,h2,h3⟩:=liveB_ok hb;split at h;cases h;rename_i hr;split at h;rename_i v' hv;simp only [Option.some.injEq,Prod.mk.injEq] at h;obtain ⟨rfl,rfl⟩:=h;exact OutX.cell1 hr hx h1 (hR id b h1 (bit_iff.2 rfl)) h2 h3 hv;cases h;rename_i n hr;split at h;rename_i ds hv;simp only [Option.some.injEq,Prod.mk.injEq] at h;obtain ⟨rfl,rfl⟩:=h;exact OutX.cellN hr hx h1 (hR id b h1 (bit_iff.2 rfl)) h2 h3 hv;cases h;cases h
theorem outsX_ok {P:Program} {RD:Nat→Prop} {M N:Nat} {E:ESX}:∀ (l:List ResultVar) (m:Nat) (vs:List AV),(∀ id b,triη E.h id=some b→m.testBit id=true→RD id)→outsX P E l=some (m,vs)→AllX P RD M N E.st l vs
 | [],m,vs,_,h=>by simp only [outsX,Option.some.injEq,Prod.mk.injEq] at h;obtain ⟨rfl,rfl⟩:=h;exact .nil
 | r :: l,m,vs,hR,h=>by simp only [outsX] at h;split at h;cases h;rename_i m1 v h1;split at h;cases h;rename_i m2 vs2 h2;simp only [Option.some.injEq,Prod.mk.injEq] at h;obtain ⟨rfl,rfl⟩:=h;have hor:∀ id,(Nat.lor m1 m2).testBit id=(m1.testBit id||m2.testBit id):=fun id=>Nat.testBit_or ..;exact .cons (outX_ok (fun id b hb hm=>hR id b hb (by rw [hor,hm]; rfl)) h1) (outsX_ok l m2 vs2 (fun id b hb hm=>hR id b hb (by rw [hor,hm]; simp)) h2)
def lowM (m u:Nat):Nat:=Nat.mod m (Nat.shiftLeft 1 u)
theorem lowM_iff {m u id:Nat}:(lowM m u).testBit id=true↔(id < u∧m.testBit id=true):=by have h:lowM m u=m % 2 ^ u:=(by show m % (1 <<< u)=_;rw [Nat.one_shiftLeft]);rw [h,Nat.testBit_mod_two_pow,Bool.and_eq_true,decide_eq_true_eq]
def finX (P:Program) (fn:Func) (E:ESX) (u:Nat):Option Rx:=match outsX P E fn.results.toList with
 | none=>none
 | some (m,vs)=>force (lowM (Nat.lor E.rd m) u) fun F=>force (lowM E.wr u) fun W=>some ⟨F,W,u,E.u,E.h,pack vs⟩
theorem frame_putArgs {ys:List AV} {t:Tri AV} (ht:putArgs 0 ys .nil=some t):triτ t=frameOf ys:=by funext i;rw [putArgs_eq _ _ _ _ ht i];simp only [frameOf,List.getD];by_cases hi:i < ys.length;rw [dif_pos (by omega)];simp [hi];rw [dif_neg (by omega),List.getElem?_eq_none (Nat.le_of_not_lt hi),triτ_nil];rfl
end Go.Proofs.YtbhhmbchdponjaaGreatDoor
namespace Go.Proofs.YtbhhmbchdponjaaGreatDoor
set_option linter.unusedVariables false
set_option linter.unusedSimpArgs false
open Go.RowKit
def Ctx.allocO (C:Ctx) (u:Nat) (o:Obj) (b:Blk):Ctx :=
 { ρ:=fun i=>if i=u then (C.w.heap.size,0) else C.ρ i,sz:=C.sz,η:=C.η.set u (some b),U:=fun i=>C.U i∨i=u,T:=C.T,w:=C.w.alloc o }
section
variable {C:Ctx} {u:Nat} {o:Obj} {b:Blk}
theorem Ctx.allocO_ev (hg:Good C) (hu:¬ C.U u):Ev C (C.allocO u o b) where
 os:=rfl
 tape:=rfl
 output:=rfl
 size:=by simp [Ctx.allocO]
 keep:=fun k hk _=>Below.heap_alloc _ _ _ hk
 mine:=fun k ⟨id,⟨b',hb',hn'⟩,hk⟩=>by by_cases e:id=u;right;subst e;simp only [Ctx.allocO,if_true] at hk;omega;left;simp only [Ctx.allocO] at hb' hk;rw [Heap.set_other _ _ e] at hb';simp only [e,if_false] at hk;exact ⟨id,⟨b',hb',hn'⟩,hk⟩
 T:=fun _ h=>h
 Tnew:=fun _ h=>.inl h
 U:=fun _ h=>.inl h
 old:=fun id b' hid hb'=>by have e:id≠u:=fun e=>hu (e ▸ hid);simp only [Ctx.allocO] at hb';rw [Heap.set_other _ _ e] at hb';exact ⟨b',hb',Nat.le_refl _,fun _=>⟨by simp [Ctx.allocO,e],rfl,rfl,rfl⟩⟩
theorem Ctx.allocO_good (hg:Good C) (hu:¬ C.U u) (hk:b.kind=2) (ho:ObjR C b.cs o):Good (C.allocO u o b):=by
 have he:=Ctx.allocO_ev (C:=C) (u:=u) (o:=o) (b:=b) hg hu
 have hlive:∀ {id b'},(C.allocO u o b).η id=some b'→(id=u∧b'=b)∨(id≠u∧C.η id=some b'):=by
  intro id b' hb';simp only [Ctx.allocO] at hb';by_cases e:id=u;subst e;rw [Heap.set_same] at hb';cases hb';exact .inl ⟨rfl,rfl⟩;rw [Heap.set_other _ _ e] at hb';exact .inr ⟨e,hb'⟩
 have hlt:∀ {id b'},C.η id=some b'→b'.kind≠1→(C.ρ id).1 < C.w.heap.size:=fun hb' hk=>hg.lt ⟨_,hb',hk⟩;refine ⟨?_,?_,?_,?_,?_,?_,?_⟩;intro id b' hb';rcases hlive hb' with ⟨rfl,rfl⟩ | ⟨e,hb'⟩;exact .inr rfl;exact .inl (hg.used hb');intro id b' hb' hn';rcases hlive hb' with ⟨rfl,rfl⟩ | ⟨e,hb'⟩;refine ⟨o,?_,ho.mono hg he⟩;simp only [Ctx.allocO,if_true];exact heap_alloc_new C.w _;obtain ⟨ob,h1,h2⟩:=hg.obj hb' hn';have e1:(C.allocO u o b).ρ id=C.ρ id:=by simp [Ctx.allocO,e]
 rw [e1];exact ⟨ob,(Below.heap_alloc _ _ _ (hlt hb' (by rw [hn']; decide))).trans h1,h2.mono hg he⟩;intro id b' hb' hn';rcases hlive hb' with ⟨rfl,rfl⟩ | ⟨e,hb'⟩;rw [Blk.k0 hn'] at hk;cases hk;obtain ⟨c,t',h1,h2,h3,h4⟩:=hg.blk hb' hn';have e1:(C.allocO u o b).ρ id=C.ρ id:=by simp [Ctx.allocO,e]
 rw [e1];exact ⟨c,t',(Below.heap_alloc _ _ _ (hlt hb' (Blk.k0' hn'))).trans h1,h2,h3,fun j h h'=>(h4 j h h').mono hg he⟩;rintro id id' ⟨b1,hb1,hn1⟩ ⟨b2,hb2,hn2⟩ h;rcases hlive hb1 with ⟨h1,_⟩ | ⟨e1,hb3⟩ <;> rcases hlive hb2 with ⟨h2,_⟩ | ⟨e2,hb4⟩;exact h1.trans h2.symm;have:=hlt hb4 hn2
 simp only [Ctx.allocO,h1,if_true,e2,if_false] at h;omega;have:=hlt hb3 hn1
 simp only [Ctx.allocO,h2,if_true,e1,if_false] at h;omega;simp only [Ctx.allocO,e1,e2,if_false] at h;exact hg.inj ⟨b1,hb3,hn1⟩ ⟨b2,hb4,hn2⟩ h;refine hg.tokE he.toFr0 fun k hk=>have:=hg.tlt (k:=k) hk; ?_
 simp [Ctx.allocO];omega;rintro k ⟨id,⟨b',hb',hn'⟩,hk⟩ hT;rcases hlive hb' with ⟨rfl,rfl⟩ | ⟨e,hb'⟩;have:=hg.tlt (k:=k) hT
 simp only [Ctx.allocO,if_true] at hk;omega;simp only [Ctx.allocO,e,if_false] at hk;exact hg.apart ⟨id,⟨b',hb',hn'⟩,hk⟩ hT;intro id b' hb' hv' hn';rcases hlive hb' with ⟨rfl,rfl⟩ | ⟨e,hb'⟩;rw [Blk.k0 hn'] at hk;cases hk;have e1:(C.allocO u o b).ρ id=C.ρ id:=by simp [Ctx.allocO,e]
 rw [e1];exact hg.tight hb' hv' hn'
def Ctx.setO (C:Ctx) (id:Nat) (b:Blk) (o:Obj):Ctx :=
 { C with η:=C.η.set id (some b),w:={ C.w with heap:=C.w.heap.setIfInBounds (C.ρ id).1 o } }
variable {id:Nat} {b0:Blk}
theorem setO_same {w:World} {k:Nat} (h:k < w.heap.size):(w.heap.setIfInBounds k o)[k]? = some o:=by rw [Array.getElem?_setIfInBounds,if_pos rfl,if_pos h]
theorem setO_other {w:World} {k j:Nat} (h:j≠k):(w.heap.setIfInBounds k o)[j]? = w.heap[j]?:=by rw [Array.getElem?_setIfInBounds,if_neg (fun e=>h e.symm)]
theorem Ctx.setO_ev (hg:Good C) (hb:C.η id=some b0) (hk0:b0.kind=2) (hk:b.kind=2) (hv:b.ver=b0.ver) (hz:b.esz=b0.esz):Ev C (C.setO id b o) where
 os:=rfl
 tape:=rfl
 output:=rfl
 size:=by simp [Ctx.setO]
 keep:=fun k _ hm=>setO_other (fun e=>hm ⟨id,⟨b0,hb,by rw [hk0]; decide⟩,e.symm⟩)
 mine:=fun k ⟨id',⟨b',hb',hn'⟩,hk'⟩=>by left;by_cases e:id'=id;subst e;exact ⟨id',⟨b0,hb,by rw [hk0]; decide⟩,hk'⟩;simp only [Ctx.setO] at hb';rw [Heap.set_other _ _ e] at hb';exact ⟨id',⟨b',hb',hn'⟩,hk'⟩
 T:=fun _ h=>h
 Tnew:=fun _ h=>.inl h
 U:=fun _ h=>h
 old:=fun id' b' hid hb'=>by simp only [Ctx.setO] at hb';by_cases e:id'=id;subst e;rw [Heap.set_same] at hb';cases hb';exact ⟨b0,hb,by omega,fun _=>⟨rfl,rfl,hk.trans hk0.symm,hz⟩⟩;rw [Heap.set_other _ _ e] at hb';exact ⟨b',hb',Nat.le_refl _,fun _=>⟨rfl,rfl,rfl,rfl⟩⟩
theorem Ctx.setO_good (hg:Good C) (hb:C.η id=some b0) (hk0:b0.kind=2) (hk:b.kind=2) (hv:b.ver=b0.ver) (hz:b.esz=b0.esz) (ho:ObjR C b.cs o):Good (C.setO id b o):=by
 have he:=Ctx.setO_ev (C:=C) (o:=o) hg hb hk0 hk hv hz;have hlive0:C.live id:=⟨b0,hb,by rw [hk0]; decide⟩
 have hlt0:=hg.lt hlive0
 have hlive:∀ {id' b'},(C.setO id b o).η id'=some b'→(id'=id∧b'=b)∨(id'≠id∧C.η id'=some b'):=by
  intro id' b' hb';simp only [Ctx.setO] at hb';by_cases e:id'=id;subst e;rw [Heap.set_same] at hb';cases hb';exact .inl ⟨rfl,rfl⟩;rw [Heap.set_other _ _ e] at hb';exact .inr ⟨e,hb'⟩
 have hold:∀ {id' b'},(C.setO id b o).η id'=some b'→b'.kind≠1→C.live id':=by
  intro id' b' hb' hn';rcases hlive hb' with ⟨rfl,rfl⟩ | ⟨_,h⟩;exact hlive0;exact ⟨b',h,hn'⟩
 have hne:∀ {id' b'},id'≠id→C.η id'=some b'→b'.kind≠1→(C.ρ id').1≠(C.ρ id).1:=fun hi hb' hn' e=>hi (hg.inj ⟨_,hb',hn'⟩ hlive0 e);refine ⟨?_,?_,?_,?_,?_,?_,?_⟩;intro id' b' hb';rcases hlive hb' with ⟨rfl,rfl⟩ | ⟨e,hb'⟩;exact hg.used hb;exact hg.used hb';intro id' b' hb' hn';rcases hlive hb' with ⟨rfl,rfl⟩ | ⟨e,hb'⟩;exact ⟨o,setO_same hlt0,ho.mono hg he⟩;obtain ⟨ob,h1,h2⟩:=hg.obj hb' hn';exact ⟨ob,(setO_other (hne e hb' (by rw [hn']; decide))).trans h1,h2.mono hg he⟩;intro id' b' hb' hn';rcases hlive hb' with ⟨rfl,rfl⟩ | ⟨e,hb'⟩;rw [Blk.k0 hn'] at hk;cases hk;obtain ⟨c,t',h1,h2,h3,h4⟩:=hg.blk hb' hn';exact ⟨c,t',(setO_other (hne e hb' (Blk.k0' hn'))).trans h1,h2,h3,fun j h h'=>(h4 j h h').mono hg he⟩;rintro i i' ⟨b1,hb1,hn1⟩ ⟨b2,hb2,hn2⟩ h;exact hg.inj (hold hb1 hn1) (hold hb2 hn2) h;refine hg.tokE he.toFr0 fun k hk=>?_
 have:=hg.tlt (k:=k) hk;simpa [Ctx.setO] using this;rintro k ⟨i,⟨b',hb',hn'⟩,hk⟩ hT;exact hg.apart ⟨i,hold hb' hn',hk⟩ hT;intro id' b' hb' hv' hn';rcases hlive hb' with ⟨rfl,rfl⟩ | ⟨e,hb'⟩;rw [Blk.k0 hn'] at hk;cases hk;exact hg.tight hb' hv' hn'
end
def unEs:List AV→Option (List (Value×AV×Nat))
 | []=>some []
 | .agg [.v k,a,.v (.int .i64 (.ofNat n))] :: l=>match unEs l with
  | some r=>some ((k,a,n) :: r)
  | none=>none
 | _=>none
theorem unEs_ok:∀ (l:List AV) (es:List (Value×AV×Nat)),unEs l=some es→l=es.map fun e=>.agg [.v e.1,e.2.1,.v (.int .i64 (Int.ofNat e.2.2))]:=by
 intro l
 induction l with
 | nil=>intro es h; simp only [unEs,Option.some.injEq] at h; subst h; rfl
 | cons x l ih=>
  intro es h
  unfold unEs at h
  split at h
  ·rename_i e; cases e
  ·rename_i k a n l' e
   obtain ⟨rfl,rfl⟩:=List.cons.inj e
   split at h
   ·rename_i r hr
    simp only [Option.some.injEq] at h
    subst h
    rw [List.map_cons,← ih _ hr]
   ·cases h
  ·cases h
def unMap:List AV→Option (Nat×List (Value×AV×Nat))
 | .v (.int .i64 (.ofNat 0)) :: .v (.int .i64 (.ofNat clock)) :: l=>match unEs l with
  | some es=>some (clock,es)
  | none=>none
 | _=>none
theorem unMap_ok {cs:List AV} {clock:Nat} {es:List (Value×AV×Nat)} (h:unMap cs=some (clock,es)):cs=mapCs clock es:=by unfold unMap at h;split at h;rename_i clock' l;split at h;rename_i es' he;simp only [Option.some.injEq,Prod.mk.injEq] at h;obtain ⟨rfl,rfl⟩:=h;unfold mapCs;rw [← unEs_ok _ _ he];rfl;cases h;cases h
def mapBlk (ver esz clock:Nat) (es:List (Value×AV×Nat)):Blk:=⟨ver,mapCs clock es,esz,true⟩
theorem mapEs_inj:∀ {es es':List (Value×AV×Nat)},(es.map fun e=>AV.agg [.v e.1,e.2.1,.v (.int .i64 (Int.ofNat e.2.2))])=(es'.map fun e=>.agg [.v e.1,e.2.1,.v (.int .i64 (Int.ofNat e.2.2))])→es=es'
 | [],[],_=>rfl
 | [],_ :: _,h=>by cases h
 | _ :: _,[],h=>by cases h
 | (k,a,n) :: l,(k',a',n') :: l',h=>by simp only [List.map_cons,List.cons.injEq,AV.agg.injEq,AV.v.injEq,Value.int.injEq,Int.ofNat.injEq,and_true,true_and] at h;obtain ⟨⟨rfl,rfl,h3⟩,h4⟩:=h;have h3':n=n':=(by first | exact h3 | exact Int.ofNat.inj h3 | simpa using h3);subst h3';rw [mapEs_inj h4]
theorem ObjR.map_inv {C:Ctx} {clock:Nat} {es:List (Value×AV×Nat)} {o:Obj} (h:ObjR C (mapCs clock es) o):∃ entries,o=.map entries clock∧es.length=entries.size∧∀ i (h:i < es.length) (h':i < entries.size),entries[i].key=es[i].1∧VR C es[i].2.1 entries[i].val∧entries[i].born=es[i].2.2:=by
 generalize hc:mapCs clock es=cs at h;cases h with
 | map hl hi=>
  rename_i es' entries clock'
  unfold mapCs at hc
  simp only [List.cons.injEq,AV.v.injEq,Value.int.injEq,true_and] at hc
  obtain ⟨h1,h2⟩:=hc
  have h1':clock=clock':=Int.ofNat.inj h1
  subst h1'
  obtain rfl:=mapEs_inj h2
  exact ⟨entries,rfl,hl,hi⟩
 | siter=>exact absurd (List.cons.inj hc).1 (by simp)
 | miter0=>exact absurd (List.cons.inj hc).1 (by simp)
 | miter _=>exact absurd (List.cons.inj hc).1 (by simp)
def liveM (η:Heap) (id ver:Nat):Option (Blk×Nat×List (Value×AV×Nat)):=match η id with
 | some b=>bif Nat.beq b.ver ver&&b.nilp then (match unMap b.cs with
  | some (clock,es)=>some (b,clock,es)
  | none=>none) else none
 | none=>none
theorem liveM_ok {η:Heap} {id ver clock:Nat} {b:Blk} {es:List (Value×AV×Nat)} (h:liveM η id ver=some (b,clock,es)):η id=some b∧b=mapBlk ver b.esz clock es:=by
 unfold liveM at h
 cases hb:η id with
 | none=>rw [hb] at h; cases h
 | some b'=>
  rw [hb] at h
  simp only at h
  cases hc:(Nat.beq b'.ver ver&&b'.nilp) with
  | false=>rw [hc] at h; simp at h
  | true=>
   rw [hc] at h
   simp only [cond_true] at h
   rw [Bool.and_eq_true] at hc
   split at h
   ·rename_i cl es' hm
    simp only [Option.some.injEq,Prod.mk.injEq] at h
    obtain ⟨rfl,rfl,rfl⟩:=h
    refine ⟨rfl,?_⟩
    obtain ⟨v,cs,z,n⟩:=b'
    have e1:=Nat.eq_of_beq_eq_true hc.1
    have e2:=hc.2
    have e3:=unMap_ok hm
    simp only at e1 e2 e3
    subst e1 e2 e3
    rfl
   ·cases h
theorem VR.mp_inv {C:Ctx} {id ver:Nat} {b:Blk} {x:Value} (h:VR C (.mp id ver) x) (hb:C.η id=some b) (hv:b.ver=ver):x=.map (some (C.ρ id).1):=by
 cases h with
 | imm h=>cases h
 | mp _ _ _=>rfl
 | stalem _ _ hs=>have:=hs b hb; omega
theorem VR.it_inv {C:Ctx} {id ver:Nat} {b:Blk} {x:Value} (h:VR C (.it id ver) x) (hb:C.η id=some b) (hv:b.ver=ver):x=.pointer (some ⟨(C.ρ id).1,0,none⟩):=by
 cases h with
 | imm h=>cases h
 | it _ _ _=>rfl
 | stalei _ _ hs=>have:=hs b hb; omega
theorem quiet_bind {α β:Type} {P:Program}:∀ (s:Sem α) (f:α→Sem β) (b:β),quiet P (s.bind f)=some b→∃ a,quiet P s=some a∧quiet P (f a)=some b:=by
 intro s
 induction s with
 | pure a=>intro f b h; exact ⟨a,rfl,h⟩
 | program k ih=>intro f b h; exact ih P f b h
 | mark m k ih=>intro f b h; exact ih f b h
 | choose q k ih=>
  intro f b h
  simp only [Sem.bind,quiet] at h
  cases hq:q.forced with
  | false=>rw [hq] at h; simp at h
  | true=>
   rw [hq] at h
   simp only [cond_true] at h
   obtain ⟨a,h1,h2⟩:=ih 0 f b h
   exact ⟨a,by simp only [quiet,hq,cond_true]; exact h1,h2⟩
 | _=>intro f b h; simp [Sem.bind,quiet] at h
def foundAs (es:List MapEntry) (i0:Nat) (r0 r1:Option (Nat×Value)):Prop:=match r0 with
 | none=>r1=none
 | some (i,_)=>∃ j e,i=i0+j∧es[j]? = some e∧r1=some (i,e.val)
theorem foundAs_cons {e:MapEntry} {es:List MapEntry} {i0:Nat} {r0 r1:Option (Nat×Value)} (h:foundAs es (i0+1) r0 r1):foundAs (e :: es) i0 r0 r1:=by
 unfold foundAs at h ⊢
 cases r0 with
 | none=>exact h
 | some q=>
  obtain ⟨j,e',h1,h2,h3⟩:=h
  exact ⟨j+1,e',by omega,by simpa using h2,h3⟩
theorem findNow_keys {kd:TypeDesc} {k:Value}:∀ (es es':List MapEntry) (i:Nat) (r0:Option (Nat×Value)),es.map (·.key)=es'.map (·.key)→Instr.findNow kd k es i=some r0→∃ r1,Instr.findNow kd k es' i=some r1∧foundAs es' i r0 r1
 | [],[],i,r0,_,h=>by
  simp only [Instr.findNow,Option.some.injEq] at h
  subst h
  exact ⟨none,rfl,rfl⟩
 | [],_ :: _,_,_,hk,_=>by simp at hk
 | _ :: _,[],_,_,hk,_=>by simp at hk
 | e :: es,e' :: es',i,r0,hk,h=>by
  simp only [List.map_cons,List.cons.injEq] at hk
  simp only [Instr.findNow,hk.1] at h ⊢
  cases hs:Instr.sameNow kd k e'.key with
  | none=>rw [hs] at h; cases h
  | some b=>
   rw [hs] at h
   cases b with
   | true=>
    simp only [Option.some.injEq] at h
    subst h
    exact ⟨_,rfl,0,e',rfl,rfl,rfl⟩
   | false=>
    obtain ⟨r1,h1,h2⟩:=findNow_keys es es' (i+1) r0 hk.2 h
    exact ⟨r1,h1,foundAs_cons h2⟩
theorem findNow_none {kd:TypeDesc} {k:Value}:∀ (es es':List MapEntry) (i:Nat),es.map (·.key)=es'.map (·.key)→Instr.findNow kd k es i=none→Instr.findNow kd k es' i=none
 | [],[],i,_,h=>by simp [Instr.findNow] at h
 | [],_ :: _,_,hk,_=>by simp at hk
 | _ :: _,[],_,hk,_=>by simp at hk
 | e :: es,e' :: es',i,hk,h=>by
  simp only [List.map_cons,List.cons.injEq] at hk
  simp only [Instr.findNow,hk.1] at h ⊢
  cases hs:Instr.sameNow kd k e'.key with
  | none=>rfl
  | some b=>
   rw [hs] at h
   cases b with
   | true=>cases h
   | false=>exact findNow_none es es' (i+1) hk.2 h
theorem findAsking_keys {P:Program} {kt:TypeId} {k:Value}:∀ (es es':List MapEntry) (i:Nat) (r0:Option (Nat×Value)),es.map (·.key)=es'.map (·.key)→quiet P (Instr.findAsking kt k es i)=some r0→∃ r1,quiet P (Instr.findAsking kt k es' i)=some r1∧foundAs es' i r0 r1
 | [],[],i,r0,_,h=>by
  have h':some (none:Option (Nat×Value))=some r0:=h
  simp only [Option.some.injEq] at h'
  subst h'
  exact ⟨none,rfl,rfl⟩
 | [],_ :: _,_,_,hk,_=>by simp at hk
 | _ :: _,[],_,_,hk,_=>by simp at hk
 | e :: es,e' :: es',i,r0,hk,h=>by
  simp only [List.map_cons,List.cons.injEq] at hk
  simp only [Instr.findAsking] at h ⊢
  rw [hk.1] at h
  obtain ⟨b,h1,h2⟩:=quiet_bind _ _ _ h
  have up:∀ (f g:Bool→Sem (Option (Nat×Value))) r1,quiet P (g b)=some r1→quiet P ((Op.equal kt k e'.key).bind g)=some r1:=by
   intro f g r1 hg
   have key:∀ (s:Sem Bool) (b:Bool),quiet P s=some b→quiet P (g b)=some r1→quiet P (s.bind g)=some r1:=by
    intro s
    induction s with
    | pure a=>intro b h hg; simp only [quiet,Option.some.injEq] at h; subst h; exact hg
    | program k ih=>intro b h hg; exact ih P b h hg
    | mark m k ih=>intro b h hg; exact ih b h hg
    | choose q k ih=>
     intro b h hg
     simp only [Sem.bind,quiet] at h ⊢
     cases hq:q.forced with
     | false=>rw [hq] at h; simp at h
     | true=>
      rw [hq] at h
      simp only [cond_true] at h ⊢
      exact ih 0 b h hg
    | _=>intro b h hg; simp [quiet] at h
   exact key _ b h1 hg
  cases b with
  | true=>
   have h2':some (some (i,e.val))=some r0:=h2
   simp only [Option.some.injEq] at h2'
   subst h2'
   exact ⟨some (i,e'.val),up (fun _=>.pure none) _ _ rfl,0,e',rfl,rfl,rfl⟩
  | false=>
   obtain ⟨r1,g1,g2⟩:=findAsking_keys es es' (i+1) r0 hk.2 h2
   exact ⟨r1,up (fun _=>.pure none) _ _ g1,foundAs_cons g2⟩
theorem quiet_underlying {P:Program} {t:TypeId} {d:TypeDesc} (h:quiet P (underlying t)=some d):P.underlying t=some d:=by
 have h':quiet P (match P.underlying t with | some d=>(pure d:Sem TypeDesc) | none=>stuck "no such type")=some d:=h
 cases hu:P.underlying t with
 | none=>rw [hu] at h'; cases h'
 | some d'=>
  rw [hu] at h'
  have h'':some d'=some d:=h'
  exact h''
theorem findKey_keys {P:Program} {kt:TypeId} {k:Value} {es es':List MapEntry} {r0:Option (Nat×Value)} (hk:es.map (·.key)=es'.map (·.key)) (h:quiet P (Instr.findKey kt k es)=some r0) (w:World):∃ r1,(Instr.findKey kt k es').run P w=.ok r1 w∧foundAs es' 0 r0 r1:=by
 unfold Instr.findKey at h ⊢;obtain ⟨d,h1,h2⟩:=quiet_bind _ _ _ h;have hu:=quiet_underlying h1
 rw [Sem.run_bind,run_underlying hu];simp only [Result.andThen_ok];cases hn:Instr.findNow d k es 0 with
 | some r=>
  rw [hn] at h2
  have h2':some r=some r0:=h2
  simp only [Option.some.injEq] at h2'
  subst h2'
  obtain ⟨r1,g1,g2⟩:=findNow_keys es es' 0 r hk hn
  rw [g1]
  exact ⟨r1,rfl,g2⟩
 | none=>
  rw [hn] at h2
  rw [findNow_none es es' 0 hk hn]
  obtain ⟨r1,g1,g2⟩:=findAsking_keys es es' 0 r0 hk h2
  exact ⟨r1,quiet_run _ _ g1 w,g2⟩
def dummies (es:List (Value×AV×Nat)):List MapEntry:=es.map fun e=>⟨e.1,undef,e.2.2⟩
def findE (P:Program) (kt:TypeId) (k:Value) (es:List (Value×AV×Nat)):Option (Option Nat) :=
 match quiet P (Instr.checkKey es.isEmpty 10000 kt k) with
 | none=>none
 | some _=>match quiet P (Instr.findKey kt k (dummies es)) with
  | none=>none
  | some none=>some none
  | some (some (i,_))=>some (some i)
theorem findE_ok {P:Program} {kt:TypeId} {k:Value} {C:Ctx} {es:List (Value×AV×Nat)} {entries:Array MapEntry} {r:Option Nat} (hl:es.length=entries.size) (hi:∀ i (h:i < es.length) (h':i < entries.size),entries[i].key=es[i].1∧VR C es[i].2.1 entries[i].val∧entries[i].born=es[i].2.2)
 (h:findE P kt k es=some r) (w:World):(∀ e,(Instr.checkKey e 10000 kt k).run P w=.ok () w∨e≠es.isEmpty)∧(r=none∧(Instr.findKey kt k entries.toList).run P w=.ok none w∨∃ i,r=some i∧∃ (h1:i < entries.size),(Instr.findKey kt k entries.toList).run P w=.ok (some (i,entries[i].val)) w):=by
 unfold findE at h
 split at h
 ·cases h
 ·rename_i q hq
  have hck:=quiet_run _ _ hq w
  have hkeys:(dummies es).map (·.key)=entries.toList.map (·.key):=by apply List.ext_getElem;simp [dummies,hl];intro i h1 h2;simp only [dummies,List.length_map] at h1;simp only [List.length_map,Array.length_toList] at h2;simp [dummies,(hi i h1 h2).1]
  refine ⟨fun e=>?_,?_⟩
  ·by_cases he:e=es.isEmpty
   ·subst he; exact .inl hck
   ·exact .inr he
  ·split at h
   ·cases h
   ·rename_i hf
    simp only [Option.some.injEq] at h
    subst h
    obtain ⟨r1,g1,g2⟩:=findKey_keys hkeys hf w
    have g2':r1=none:=g2
    subst g2'
    exact .inl ⟨rfl,g1⟩
   ·rename_i i v hf
    simp only [Option.some.injEq] at h
    subst h
    obtain ⟨r1,g1,j,e,e1,e2,e3⟩:=findKey_keys hkeys hf w
    subst e3
    have e1':i=j:=by omega
    subst e1'
    rw [Array.getElem?_toList] at e2
    obtain ⟨hlt,he⟩:=Array.getElem?_eq_some_iff.1 e2
    subst he
    exact .inr ⟨i,rfl,hlt,g1⟩
end Go.Proofs.YtbhhmbchdponjaaGreatDoor
