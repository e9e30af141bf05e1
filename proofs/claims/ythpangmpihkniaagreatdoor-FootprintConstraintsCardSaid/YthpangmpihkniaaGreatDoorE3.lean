/- Texts of the claim. -/
import Derived.RangeFuncIn
import Derived.LoopNIn
import Derived.Laws.IdiomStrings
import Derived.Test.YthpangmpihkniaaGreatDoorE1
import Derived.Test.YthpangmpihkniaaGreatDoorE2
namespace Go.Proofs.YthpangmpihkniaaGreatDoor
set_option linter.unusedVariables false
set_option linter.unusedSimpArgs false
open Go.RowKit
section
variable {α:Type}
noncomputable def Pw (p:List Bool):Tri α->α->Option (Tri α) :=
 List.rec (motive:=fun _=>Tri α->α->Option (Tri α))
  (fun t a=>Tri.rec (motive:=fun _=>Option (Tri α)) (some (.node (some a) .nil .nil)) (fun _ l r _ _=>some (.node (some a) l r)) t)
  (fun b _ ih t a=>Tri.rec (motive:=fun _=>Option (Tri α))
   (Bool.rec (motive:=fun _=>Option (Tri α)) (Option.rec (motive:=fun _=>Option (Tri α)) none (fun r=>some (.node none .nil r)) (ih .nil a)) (Option.rec (motive:=fun _=>Option (Tri α)) none (fun l=>some (.node none l .nil)) (ih .nil a)) b)
   (fun v l r _ _=>Bool.rec (motive:=fun _=>Option (Tri α)) (Option.rec (motive:=fun _=>Option (Tri α)) none (fun r'=>some (.node v l r')) (ih r a)) (Option.rec (motive:=fun _=>Option (Tri α)) none (fun l'=>some (.node v l' r)) (ih l a)) b) t) p
theorem td:∀ (p:List Bool) (t:Tri α) (a:α),Pw p t a=cg p t a
 | [],t,a=>by cases t <;> rfl
 | b :: p,t,a=>by
  have e:Pw (b :: p) t a=Tri.rec (motive:=fun _=>Option (Tri α))
   (Bool.rec (motive:=fun _=>Option (Tri α)) (Option.rec (motive:=fun _=>Option (Tri α)) none (fun r=>some (.node none .nil r)) (Pw p .nil a)) (Option.rec (motive:=fun _=>Option (Tri α)) none (fun l=>some (.node none l .nil)) (Pw p .nil a)) b)
   (fun v l r _ _=>Bool.rec (motive:=fun _=>Option (Tri α)) (Option.rec (motive:=fun _=>Option (Tri α)) none (fun r'=>some (.node v l r')) (Pw p r a)) (Option.rec (motive:=fun _=>Option (Tri α)) none (fun l'=>some (.node v l' r)) (Pw p l a)) b) t:=rfl
  rw [e]
  cases t with
  | nil=>
   cases b with
   | true=>simp only [td p,cg]; cases cg p .nil a <;> rfl
   | false=>simp only [td p,cg]; cases cg p .nil a <;> rfl
  | node v l r=>
   cases b with
   | true=>simp only [td p,cg]; cases cg p l a <;> rfl
   | false=>simp only [td p,cg]; cases cg p r a <;> rfl
noncomputable def W9 (k:Nat) (t:Tri α) (a:α):Option (Tri α):=Bool.rec (motive:=fun _=>Option (Tri α)) none (Pw (vg 24 k) t a) (Nat.ble k 16777214)
theorem Px (k:Nat) (t:Tri α) (a:α):W9 k t a=Tri.set 24 t k a:=by
 unfold W9 Tri.set
 cases Nat.ble k 16777214 with
 | true=>exact td _ _ _
 | false=>rfl
end
noncomputable def Ed (dst:Option Nat) (E:ESX) (r:Rx):Option ESX :=
 Option.rec (motive:=fun _=>Option ESX) (some ⟨E.t,r.h,r.u,Nat.lor E.rd r.F,Nat.lor E.wr r.W⟩) (fun d=>Option.rec (motive:=fun _=>Option ESX) none (fun t=>some ⟨t,r.h,r.u,Nat.lor E.rd r.F,Nat.lor E.wr r.W⟩) (W9 d E.t r.v)) dst
theorem Ky (dst:Option Nat) (E:ESX) (r:Rx):Ed dst E r=E.step dst r:=by
 unfold Ed ESX.step
 rw [il,il,il]
 cases dst with
 | none=>rfl
 | some d=>
  simp only [Px,zw]
  cases Tri.set 24 E.t d r.v <;> rfl
/-- The operations of a region; the records last first. -/
noncomputable def Lg (f:df) (ops:Array Oper) (l:List Oper):ESX->List Rx->Option (List Rx×ESX) :=
 List.rec (motive:=fun _=>ESX->List Rx->Option (List Rx×ESX)) (fun E acc=>some (acc,E))
  (fun o _ ih E acc=>Option.rec (motive:=fun _=>Option (List Rx×ESX)) none
   (fun w=>Bool.rec (motive:=fun _=>Option (List Rx×ESX))
    (Option.rec (motive:=fun _=>Option (List Rx×ESX)) none (fun E'=>ih E' (⟨0,0,E.u,E.u,E.h,.v undef⟩ :: acc)) (Ed o.dst E ⟨0,0,E.u,E.u,E.h,.v undef⟩))
    (Option.rec (motive:=fun _=>Option (List Rx×ESX)) none (fun r=>Option.rec (motive:=fun _=>Option (List Rx×ESX)) none (fun E'=>ih E' (r :: acc)) (Ed o.dst E r)) (f o E)) w)
   (Option.rec (motive:=fun _=>Option Bool) (some true) (fun _=>ly ops (bm E.t) o) o.guard)) l
theorem A9 {f:df} {ops:Array Oper}:∀ (l:List Oper) (E:ESX) (acc:List Rx),Lg f ops l E acc=(iv f ops l E).map fun q=>(q.1.reverse++acc,q.2)
 | [],E,acc=>rfl
 | o :: l,E,acc=>by
  have hw:(Option.rec (motive:=fun _=>Option Bool) (some true) (fun _=>ly ops (bm E.t) o) o.guard)=ly ops (bm E.t) o:=by
   unfold ly
   cases hg:o.guard <;> rfl
  have e:Lg f ops (o :: l) E acc=Option.rec (motive:=fun _=>Option (List Rx×ESX)) none
   (fun w=>Bool.rec (motive:=fun _=>Option (List Rx×ESX))
    (Option.rec (motive:=fun _=>Option (List Rx×ESX)) none (fun E'=>Lg f ops l E' (⟨0,0,E.u,E.u,E.h,.v undef⟩ :: acc)) (Ed o.dst E ⟨0,0,E.u,E.u,E.h,.v undef⟩))
    (Option.rec (motive:=fun _=>Option (List Rx×ESX)) none (fun r=>Option.rec (motive:=fun _=>Option (List Rx×ESX)) none (fun E'=>Lg f ops l E' (r :: acc)) (Ed o.dst E r)) (f o E)) w)
   (Option.rec (motive:=fun _=>Option Bool) (some true) (fun _=>ly ops (bm E.t) o) o.guard):=rfl
  rw [e,hw]
  simp only [iv,Ky]
  cases ly ops (bm E.t) o with
  | none=>rfl
  | some w=>
   cases w with
   | false=>
    simp only
    cases E.step o.dst ⟨0,0,E.u,E.u,E.h,.v undef⟩ with
    | none=>rfl
    | some E'=>
     simp only [A9 l]
     cases iv f ops l E' with
     | none=>rfl
     | some q=>simp
   | true=>
    simp only
    cases f o E with
    | none=>rfl
    | some r=>
     simp only
     cases E.step o.dst r with
     | none=>rfl
     | some E'=>
      simp only [A9 l]
      cases iv f ops l E' with
      | none=>rfl
      | some q=>simp
noncomputable def Dp {β:Type} (n:Nat) (k:Nat->Option β):Option β:=Nat.rec (motive:=fun _=>Option β) (k 0) (fun m _=>k (m+1)) n
theorem uk {β:Type} (n:Nat) (k:Nat->Option β):Dp n k=k n:=by cases n <;> rfl
noncomputable def Cs {β:Type} (E:ESX) (w:Nat) (k:ESX->Option β):Option β:=Dp E.rd fun rd=>Dp (Nat.lor E.wr w) fun wr=>Dp E.u fun u=>k ⟨E.t,E.h,u,rd,wr⟩
theorem y9 {β:Type} (E:ESX) (w:Nat) (k:ESX->Option β):Cs E w k=k ⟨E.t,E.h,E.u,E.rd,Nat.lor E.wr w⟩:=by
 unfold Cs
 rw [uk,uk,uk]
abbrev Out:=Option (Exit×ESX)
noncomputable def H4 (r:ESX->Out) (fuel:Nat):ESX->Out :=
 Nat.rec (motive:=fun _=>ESX->Out) (fun _=>none) (fun _ ih E=>match r E with
  | none=>none
  | some (e,E')=>match e with
   | .normal=>ih E'
   | .exit id=>some (.exit id,E')
   | .ret=>some (.ret,E')
   | _=>none) fuel
noncomputable def jc (N fuel:Nat) (f:df):Code->ESX->Out
 | .skip=>fun E=>some (.normal,E)
 | .ret=>fun E=>some (.ret,E)
 | .exit id=>fun E=>some (.exit id,E)
 | .seq x y=>fun E=>match jc N fuel f x E with
  | none=>none
  | some (e,E')=>match e with
   | .normal=>jc N fuel f y E'
   | .exit id=>some (.exit id,E')
   | .ret=>some (.ret,E')
   | _=>none
 | .cond c x y=>fun E=>match wi c E with
  | .v (.bool true)=>jc N fuel f x E
  | .v (.bool false)=>jc N fuel f y E
  | _=>none
 | .block id c=>fun E=>match jc N fuel f c E with
  | none=>none
  | some (e,E')=>match e with
   | .normal=>some (.normal,E')
   | .exit id'=>bif Nat.beq id' id then some (.normal,E') else some (.exit id',E')
   | .ret=>some (.ret,E')
   | _=>none
 | .loop c=>H4 (jc N fuel f c) fuel
 | .region id ops drawn=>bif Om N ops then
   (bif drawn then
    (fun E=>match Lg f ops ops.toList ⟨E.t,E.h,E.u,E.rd,0⟩ [] with
    | none=>none
    | some (rs,E')=>bif (yb ops E.u rs.reverse E'||w8 f ops ⟨E.t,E.h,E.u,E.rd,0⟩ rs.reverse) then Cs E' E.wr fun E'=>some (.normal,E') else none)
   else fun E=>match Lg f ops ops.toList E [] with
    | none=>none
    | some (_,E')=>Cs E' 0 fun E'=>some (.normal,E'))
   else fun _=>none
 | _=>fun _=>none
/-- .. whole functions. -/
noncomputable def G5 (P:Program) (ov:FuncId->Bool) (ovr:iy) (ext:df) (steps:Nat):Nat->F4
 | 0,_,_,_,_=>none
 | n+1,f,ys,h,u=>match P.funcs[f]? with
  | none=>none
  | some fn=>match fn.body with
   | none=>none
   | some c=>bif Nat.ble ys.length fn.ntmps then
     match oh 0 ys .nil with
     | none=>none
     | some t=>match jc fn.ntmps steps (opF P ov ovr (G5 P ov ovr ext steps n) ext) c ⟨t,h,u,0,0⟩ with
      | some (.normal,E)=>We P fn E u
      | some (.ret,E)=>We P fn E u
      | _=>none
    else none
noncomputable def Xb (P:Program) (ov:FuncId->Bool) (ovr:iy) (ext:df) (steps depth:Nat) (f:FuncId) (ys:List AV):Option AV:=match G5 P ov ovr ext steps depth f ys .nil 0 with
 | none=>none
 | some r=>match fz (bc r.h) 64 r.v with
  | none=>none
  | some (_,ret)=>some ret
theorem C6 {f:df} {ops:Array Oper} {l:List Oper} {E E':ESX} {rs:List Rx} (h:Lg f ops l E []=some (rs,E')):iv f ops l E=some (rs.reverse,E'):=by
 rw [A9] at h
 cases hr:iv f ops l E with
 | none=>rw [hr] at h; cases h
 | some q=>
  rw [hr] at h
  simp only [Option.map_some,Zh,Prod.mk.injEq,List.append_nil] at h
  obtain ⟨h1,h2⟩:=h
  rw [<- h1,List.reverse_reverse,<- h2]
/-- What a run of a piece of code says. -/
def J2 (P:Program) (N:Nat) (c:Code) (E:ESX) (e:Exit) (E':ESX):Prop :=
 Mono E E'/\∀ (RD WD:Nat->Prop) (M:Nat) (Q:Exit->St->Prop),Under RD WD M E.u E'->Q e E'.st->ry P RD WD M N c Q E.st
theorem Dy {P:Program} {N fuel:Nat} {f:df} (hf:f.Ok P) (hm:P.follows .mixedOrders=true):∀ (c:Code) (E:ESX) (e:Exit) (E':ESX),J4 E.h E.u->jc N fuel f c E=some (e,E')->J2 P N c E e E':=by
 intro c
 induction c with
 | skip=>
  intro E e E' hl h
  simp only [jc,Zh,Prod.mk.injEq] at h
  obtain ⟨rfl,rfl⟩:=h
  exact ⟨Mono.refl _,fun RD WD M Q _ hq=>ry.skip hq⟩
 | ret=>
  intro E e E' hl h
  simp only [jc,Zh,Prod.mk.injEq] at h
  obtain ⟨rfl,rfl⟩:=h
  exact ⟨Mono.refl _,fun RD WD M Q _ hq=>ry.ret hq⟩
 | exit id=>
  intro E e E' hl h
  simp only [jc,Zh,Prod.mk.injEq] at h
  obtain ⟨rfl,rfl⟩:=h
  exact ⟨Mono.refl _,fun RD WD M Q _ hq=>ry.exit hq⟩
 | seq x y ihx ihy=>
  intro E e E' hl h
  simp only [jc] at h
  cases h1:jc N fuel f x E with
  | none=>rw [h1] at h; cases h
  | some q=>
   obtain ⟨e1,E1⟩:=q
   rw [h1] at h
   obtain ⟨m1,k1⟩:=ihx E e1 E1 hl h1
   cases e1 with
   | normal=>
    obtain ⟨m2,k2⟩:=ihy E1 e E' (m1.low hl) h
    exact ⟨m1.trans m2,fun RD WD M Q hun hq=>ry.seq (k1 RD WD M _ (hun.back m2) (k2 RD WD M Q (hun.up m1.u) hq))⟩
   | exit id=>
    simp only [Zh,Prod.mk.injEq] at h
    obtain ⟨rfl,rfl⟩:=h
    exact ⟨m1,fun RD WD M Q hun hq=>ry.seq (k1 RD WD M _ hun hq)⟩
   | ret=>
    simp only [Zh,Prod.mk.injEq] at h
    obtain ⟨rfl,rfl⟩:=h
    exact ⟨m1,fun RD WD M Q hun hq=>ry.seq (k1 RD WD M _ hun hq)⟩
   | _=>simp at h
 | cond c x y ihx ihy=>
  intro E e E' hl h
  simp only [jc] at h
  split at h
  ·rename_i hc
   rw [cx] at hc
   obtain ⟨m1,k1⟩:=ihx E e E' hl h
   exact ⟨m1,fun RD WD M Q hun hq=>ry.condT hc (k1 RD WD M Q hun hq)⟩
  ·rename_i hc
   rw [cx] at hc
   obtain ⟨m1,k1⟩:=ihy E e E' hl h
   exact ⟨m1,fun RD WD M Q hun hq=>ry.condF hc (k1 RD WD M Q hun hq)⟩
  ·cases h
 | block id c ih=>
  intro E e E' hl h
  simp only [jc] at h
  cases h1:jc N fuel f c E with
  | none=>rw [h1] at h; cases h
  | some q=>
   obtain ⟨e1,E1⟩:=q
   rw [h1] at h
   obtain ⟨m1,k1⟩:=ih E e1 E1 hl h1
   cases e1 with
   | normal=>
    simp only [Zh,Prod.mk.injEq] at h
    obtain ⟨rfl,rfl⟩:=h
    exact ⟨m1,fun RD WD M Q hun hq=>ry.block (k1 RD WD M _ hun hq)⟩
   | exit id'=>
    simp only at h
    cases hb:Nat.beq id' id with
    | true=>
     rw [hb] at h
     simp only [cond_true,Zh,Prod.mk.injEq] at h
     obtain ⟨rfl,rfl⟩:=h
     exact ⟨m1,fun RD WD M Q hun hq=>ry.block (k1 RD WD M _ hun (by simp only [ou,hb,cond_true]; exact hq))⟩
    | false=>
     rw [hb] at h
     simp only [cond_false,Zh,Prod.mk.injEq] at h
     obtain ⟨rfl,rfl⟩:=h
     exact ⟨m1,fun RD WD M Q hun hq=>ry.block (k1 RD WD M _ hun (by simp only [ou,hb,cond_false]; exact hq))⟩
   | ret=>
    simp only [Zh,Prod.mk.injEq] at h
    obtain ⟨rfl,rfl⟩:=h
    exact ⟨m1,fun RD WD M Q hun hq=>ry.block (k1 RD WD M _ hun hq)⟩
   | _=>simp at h
 | loop c ih=>
  intro E e E' hl h
  simp only [jc] at h
  have key:∀ (n:Nat) (E:ESX) (e:Exit) (E':ESX),J4 E.h E.u->H4 (jc N fuel f c) n E=some (e,E')->Mono E E'/\∀ (RD WD:Nat->Prop) (M:Nat) (Q:Exit->St->Prop),Under RD WD M E.u E'->Q e E'.st ->
    ∃ I:Nat->St->Prop,(∀ m s,I m s->ry P RD WD M N c (andThen (fun s'=>∃ m',m' < m/\I m' s') Q) s)/\I n E.st:=by
   intro n
   induction n with
   | zero=>intro E e E' hl h; simp [H4] at h
   | succ n ihn=>
    intro E e E' hl h
    have hstep:H4 (jc N fuel f c) (n+1) E=(match jc N fuel f c E with
      | none=>none
      | some (e,E')=>match e with
       | .normal=>H4 (jc N fuel f c) n E'
       | .exit id=>some (.exit id,E')
       | .ret=>some (.ret,E')
       | _=>none):=rfl
    rw [hstep] at h
    cases h1:jc N fuel f c E with
    | none=>rw [h1] at h; cases h
    | some q=>
     obtain ⟨e1,E1⟩:=q
     rw [h1] at h
     obtain ⟨m1,k1⟩:=ih E e1 E1 hl h1
     have once:∀ (e2:Exit),e1=e2->e2≠.normal->e=e2->E'=E1->Mono E E'/\∀ (RD WD:Nat->Prop) (M:Nat) (Q:Exit->St->Prop),Under RD WD M E.u E'->Q e E'.st ->
       ∃ I:Nat->St->Prop,(∀ m s,I m s->ry P RD WD M N c (andThen (fun s'=>∃ m',m' < m/\I m' s') Q) s)/\I (n+1) E.st:=by
      rintro e2 rfl hne rfl rfl
      refine ⟨m1,fun RD WD M Q hun hq=>⟨fun m s=>s=E.st,fun m s hs=>?_,rfl⟩⟩
      subst hs
      refine k1 RD WD M _ hun ?_
      cases e <;> first | exact absurd rfl hne | exact hq
     cases e1 with
     | normal=>
      obtain ⟨m2,k2⟩:=ihn E1 e E' (m1.low hl) h
      refine ⟨m1.trans m2,fun RD WD M Q hun hq=>?_⟩
      obtain ⟨I,i1,i2⟩:=k2 RD WD M Q (hun.up m1.u) hq
      refine ⟨fun m s=>(m<=n/\I m s)\/(m=n+1/\s=E.st),fun m s hms=>?_,.inr ⟨rfl,rfl⟩⟩
      rcases hms with ⟨hle,hI⟩ | ⟨rfl,rfl⟩
      ·refine (i1 m s hI).mono fun e s' hq'=>?_
       cases e with
       | normal=>
        obtain ⟨m',hm',hI'⟩:=hq'
        exact ⟨m',hm',.inl ⟨by omega,hI'⟩⟩
       | _=>exact hq'
      ·exact k1 RD WD M _ (hun.back m2) ⟨n,Nat.lt_succ_self n,.inl ⟨Nat.le_refl _,i2⟩⟩
     | exit id=>
      simp only [Zh,Prod.mk.injEq] at h
      exact once (.exit id) rfl (by intro e; cases e) h.1.symm h.2.symm
     | ret=>
      simp only [Zh,Prod.mk.injEq] at h
      exact once .ret rfl (by intro e; cases e) h.1.symm h.2.symm
     | _=>simp at h
  obtain ⟨m1,k1⟩:=key fuel E e E' hl h
  refine ⟨m1,fun RD WD M Q hun hq=>?_⟩
  obtain ⟨I,i1,i2⟩:=k1 RD WD M Q hun hq
  exact ry.loop I i1 i2
 | region id ops drawn=>
  intro E e E' hl h
  simp only [jc] at h
  cases hd:Om N ops with
  | false=>rw [hd] at h; simp at h
  | true=>
   rw [hd] at h
   simp only [cond_true] at h
   have hd':∀ o∈ops.toList,ic N ops o=true:=List.all_eq_true.1 hd
   have eo:ops=ops.toList.toArray:=by simp
   have hinn:∀ (Eb E1:ESX) (r:Rx) (RD WD:Nat->Prop) (M:Nat),(∀ id,E.u<=id->id < M->RD id/\WD id)->RunOk Eb E1 r->Eb.u=E.u->(∀ id,E1.rd.testBit id=true->RD id)->(∀ id,E1.wr.testBit id=true->WD id)->E1.u<=M->Inn RD WD M r.rc:=by
    intro Eb E1 r RD WD M hn hr hu h1 h2 h3
    have:=hr.u0
    have:=hr.u
    refine ⟨fun id hid=>h1 id (hr.F id hid),fun id a b=>(hn id ?_ ?_).1,fun id hid=>?_,Nat.le_trans hr.u h3⟩
    ·have ha:r.u0<=id:=a
     omega
    ·have hb:id < r.u:=b
     omega
    ·rcases Rc.D_iff.1 hid with h5 | ⟨h5,h6⟩
     ·exact h2 id (hr.W id h5)
     ·have ha:r.u0<=id:=h5
      have hb:id < r.u:=h6
      exact (hn id (by omega) (by omega)).2
   cases drawn with
   | true=>
    simp only [cond_true] at h
    cases h1:Lg f ops ops.toList ⟨E.t,E.h,E.u,E.rd,0⟩ [] with
    | none=>rw [h1] at h; cases h
    | some q=>
     obtain ⟨rs,E1⟩:=q
     rw [h1] at h
     simp only at h
     cases hc:(yb ops E.u rs.reverse E1||w8 f ops ⟨E.t,E.h,E.u,E.rd,0⟩ rs.reverse) with
     | false=>rw [hc] at h; simp at h
     | true=>
      rw [hc] at h
      simp only [cond_true,y9,Zh,Prod.mk.injEq] at h
      obtain ⟨rfl,rfl⟩:=h
      obtain ⟨hs,m1,hr⟩:=vy hf (N:=N) _ ⟨E.t,E.h,E.u,E.rd,0⟩ _ _ hd' hl (C6 h1)
      have hwr:∀ id,(Nat.lor E1.wr E.wr).testBit id=(E1.wr.testBit id||E.wr.testBit id):=fun id=>Nat.testBit_or ..
      refine ⟨⟨m1.rd,fun id hid=>?_,m1.u,fun id hid hw=>?_,m1.low,fun hs id hid=>?_,m1.lrd⟩,fun RD WD M Q hun hq=>?_⟩
      ·show (Nat.lor E1.wr E.wr).testBit id=true
       rw [hwr,hid,Bool.or_true]
      ·have hw':(Nat.lor E1.wr E.wr).testBit id=false:=hw
       rw [hwr,Bool.or_eq_false_iff] at hw'
       exact m1.h id hid hw'.1
      ·have hid':(Nat.lor E1.wr E.wr).testBit id=true:=hid
       rw [hwr,Bool.or_eq_true] at hid'
       rcases hid' with h5 | h5
       ·exact m1.sub (fun id h=>by simp at h) id h5
       ·exact m1.rd id (hs id h5)
      ·have hI:∀ r∈rs.reverse.map Rx.rc,Inn RD WD M r:=fun r hr'=>by
        obtain ⟨x,hx,rfl⟩:=List.mem_map.1 hr'
        exact hinn _ _ x RD WD M hun.new (hr x hx) rfl hun.rd (fun id hid=>hun.wd id (by
         show (Nat.lor E1.wr E.wr).testBit id=true
         rw [hwr,hid,Bool.true_or])) hun.u
       rw [Bool.or_eq_true] at hc
       rw [eo]
       rcases hc with hc | hc
       ·have hdr:DrawOk ops.toList (rs.reverse.map Rx.rc):=E9 (E:=⟨E.t,E.h,E.u,E.rd,0⟩) (by rw [<- eo]; exact hs) hr (by rw [<- eo]; exact hc)
        exact ry.regionD hm (by rw [<- eo]; exact hs) hdr hI hq
       ·obtain ⟨sa,hdr⟩:=Ef hf (P:=P) (N:=N) (l:=ops.toList) (E:=⟨E.t,E.h,E.u,E.rd,0⟩) (E':=E1) hl (by rw [<- eo]; exact hs) (by rw [<- eo]; exact hc)
        exact As hm (by rw [<- eo]; exact hs) hdr hI hq
   | false=>
    simp only [cond_false] at h
    cases h1:Lg f ops ops.toList E [] with
    | none=>rw [h1] at h; cases h
    | some q=>
     obtain ⟨rs,E1⟩:=q
     rw [h1] at h
     simp only [y9,Zh,Prod.mk.injEq] at h
     have e1:(⟨E1.t,E1.h,E1.u,E1.rd,Nat.lor E1.wr 0⟩:ESX)=E1:=by
      have:Nat.lor E1.wr 0=E1.wr:=Nat.or_zero _
      rw [this]
     rw [e1] at h
     obtain ⟨rfl,rfl⟩:=h
     obtain ⟨hs,m1,hr⟩:=vy hf (N:=N) _ _ _ _ hd' hl (C6 h1)
     refine ⟨m1,fun RD WD M Q hun hq=>?_⟩
     rw [eo]
     refine ry.region (by rw [<- eo]; exact hs) (fun r hr'=>?_) hq
     obtain ⟨x,hx,rfl⟩:=List.mem_map.1 hr'
     exact hinn _ _ x RD WD M hun.new (hr x hx) rfl hun.rd hun.wd hun.u
 | _=>intro E e E' hl h; simp [jc] at h
theorem I1 {P:Program} {f:FuncId} {fn:Func} {c:Code} {ys:List AV} {h:Tri (Option Blk)} {u:Nat} {t:Tri AV} {e:Exit} {E:ESX} {r:Rx} (hf:P.funcs[f]? = some fn) (hb:fn.body=some c) (hl:ys.length<=fn.ntmps) (ht:oh 0 ys .nil=some t)
  (hlow:J4 h u) (he:e=.normal\/e=.ret) (hrun:J2 P fn.ntmps c ⟨t,h,u,0,0⟩ e E) (hfin:We P fn E u=some r):r.u0=u/\Fits (bc h) r.rc/\Jz P f ys (bc h) r.rc:=by
 unfold We at hfin
 split at hfin
 ·cases hfin
 ·rename_i m vs hout
  rw [il,il] at hfin
  simp only [Zh] at hfin
  subst hfin
  obtain ⟨mo,hsay⟩:=hrun
  have hlowE:=mo.low hlow
  have hsub:=mo.sub (fun id hid=>by simp at hid)
  have hlrd:=mo.lrd (fun id hid=>by simp at hid)
  have hu:u<=E.u:=mo.u
  have hor:∀ id,(Nat.lor E.rd m).testBit id=(E.rd.testBit id||m.testBit id):=fun id=>Nat.testBit_or ..
  have hF:∀ id,(H3 (Nat.lor E.rd m) u).testBit id=true↔(id < u/\(E.rd.testBit id=true\/m.testBit id=true)):=fun id=>by rw [Dh,hor,Bool.or_eq_true]
  have hW:∀ id,(H3 E.wr u).testBit id=true↔(id < u/\E.wr.testBit id=true):=fun id=>Dh
  have hD:∀ id,(Rx.rc ⟨H3 (Nat.lor E.rd m) u,H3 E.wr u,u,E.u,E.h,Sp vs⟩).D id=true↔((id < u/\E.wr.testBit id=true)\/(u<=id/\id < E.u)):=fun id=>by
   rw [Rc.D_iff]
   show ((H3 E.wr u).testBit id=true\/(u<=id/\id < E.u))↔_
   rw [hW]
  have hfit:Fits (bc h) (Rx.rc ⟨H3 (Nat.lor E.rd m) u,H3 E.wr u,u,E.u,E.h,Sp vs⟩):=by
   refine ⟨hu,fun id hid=>?_,fun id hid=>?_,fun id hid=>((hF id).1 hid).1⟩
   ·show bc E.h id=bc h id
    by_cases h1:id < u
    ·refine mo.h id h1 ?_
     cases hw:E.wr.testBit id with
     | false=>rfl
     | true=>rw [(hD id).2 (.inl ⟨h1,hw⟩)] at hid; cases hid
    ·by_cases h2:id < E.u
     ·rw [(hD id).2 (.inr ⟨by omega,h2⟩)] at hid; cases hid
     ·rw [hlowE id (by omega),hlow id (by omega)]
   ·obtain ⟨h1,h2⟩:=(hW id).1 hid
    exact (hF id).2 ⟨h1,.inl (hsub id h2)⟩
  refine ⟨rfl,hfit,Jz.of_body hf hb rfl hl (xx ht) hfit hlow ?_⟩
  refine hsay _ _ _ _ ⟨fun id hid=>?_,fun id hid=>(hD id).2 ?_,Nat.le_refl _,fun id h1 h2=>⟨.inr ⟨h1,h2⟩,(hD id).2 (.inr ⟨h1,h2⟩)⟩⟩ ⟨he,fun id _=>rfl,rr (C5 _ _ _ (fun id b hb' hm'=>?_) hout)⟩
  ·by_cases h1:id < u
   ·exact .inl ((hF id).2 ⟨h1,.inl hid⟩)
   ·exact .inr ⟨by show u<=id; omega,hlrd id hid⟩
  ·by_cases h1:id < u
   ·exact .inl ⟨h1,hid⟩
   ·exact .inr ⟨by omega,hlrd id (hsub id hid)⟩
  ·by_cases h1:id < u
   ·exact .inl ((hF id).2 ⟨h1,.inr hm'⟩)
   ·refine .inr ⟨by show u<=id; omega,?_⟩
    show id < E.u
    by_cases h2:id < E.u
    ·exact h2
    ·rw [hlowE id (by omega)] at hb'; cases hb'
theorem K4 {P:Program} {ov:FuncId->Bool} {ovr:iy} {ext:df} (hm:P.follows .mixedOrders=true) (ho:∀ f ys ret,ovr f ys=some ret->ep P f ys ret) (hext:ext.Ok P) {steps:Nat}:∀ (n:Nat),F4.Ok P (G5 P ov ovr ext steps n):=by
 intro n
 induction n with
 | zero=>intro f ys h u r _ hr; simp [G5] at hr
 | succ n ih=>
  intro f ys h u r hlow hr
  simp only [G5] at hr
  split at hr
  ·cases hr
  ·rename_i fn hf
   split at hr
   ·cases hr
   ·rename_i c hb
    cases hl:Nat.ble ys.length fn.ntmps with
    | false=>rw [hl] at hr; simp at hr
    | true=>
     rw [hl] at hr
     simp only [cond_true] at hr
     split at hr
     ·cases hr
     ·rename_i t ht
      split at hr
      ·rename_i E hrun
       exact I1 hf hb (Nat.le_of_ble_eq_true hl) ht hlow (.inl rfl) (Dy (N4 ho ih hext) hm _ _ _ _ hlow hrun) hr
      ·rename_i E hrun
       exact I1 hf hb (Nat.le_of_ble_eq_true hl) ht hlow (.inr rfl) (Dy (N4 ho ih hext) hm _ _ _ _ hlow hrun) hr
      ·cases hr
theorem Pz {P:Program} {ov:FuncId->Bool} {ovr:iy} {ext:df} (hm:P.follows .mixedOrders=true) (ho:∀ f ys ret,ovr f ys=some ret->ep P f ys ret) (hext:ext.Ok P) {steps depth:Nat} {f:FuncId} {ys:List AV} {ret:AV} (h:Xb P ov ovr ext steps depth f ys=some ret):ep P f ys ret:=by
 unfold Xb at h
 split at h
 ·cases h
 ·rename_i r hr
  split at h
  ·cases h
  ·rename_i fp ret' hz
   simp only [Zh] at h
   subst h
   have hη0:bc .nil=pu:=Gm
   obtain ⟨h1,h2,h3⟩:=K4 hm ho hext depth f ys .nil 0 r (fun id _=>by rw [hη0]; rfl) hr
   rw [hη0] at h2 h3
   exact Fm h2 (Um 64 _ _ _ hz) h3
/-- A step of several outcomes on one block. -/
def LOps (P:Program) (o:Oper) (τ:Nat->AV) (η:au) (fp:List Nat) (id:Nat) (outs:List (Blk×AV)):Prop :=
 ∀ (C:Ctx) (a:Act),Good C->(∀ x∈o.op.operands,VR C (aev τ x) (a.eval x))->(∀ i∈fp,C.η i=η i) ->
  ∀ (K:Act->World->Prop) (Q:Exit->Act->World->Prop),
   (∀ q∈outs,∀ x C',C'.η=C.η.set id (some q.1)->C'.U=C.U->Good C'->Ev C C'->VR C' q.2 x->K (a.put o.dst x) C'.w)->o.wp P a C.w K Q
section
variable {P:Program} {τ:Nat->AV} {η:au} {d:Option Tmp} {ty:TypeId} {pos:String} {af:Array Edge} {g:Option (Nat×Bool)}
/-- The next entry of an iteration over a map: any of those that are left. -/
def C9 (P:Program) (τ:Nat->AV) (η:au) (x:Operand):Option (Nat×Nat×List (Blk×AV)):=match aev τ x with
 | .it id ver=>match Bg η id ver with
  | some (b,.ofm mid mver since seen last)=>match nv η mid mver with
   | none=>none
   | some (mb,clock,es)=>
    bif !seen.isEmpty&&!es.isEmpty&&es.all (fun e=>Nat.ble last e.2.2) then none else
    match (es.filter fun e=>!seen.contains e.2.2).filter (fun e=>Nat.blt e.2.2 since),(es.filter fun e=>!seen.contains e.2.2).filter (fun e=>Nat.ble since e.2.2) with
    | e1 :: e2 :: l,[]=>some (id,mid,(e1 :: e2 :: l).map fun e=>(cd ver b.esz (.mp mid mver) since (seen++[e.2.2]) clock,.tup [.v (.bool true),.v e.1,e.2.1]))
    | _,_=>none
  | _=>none
 | _=>none
theorem Ht {x:Operand} {id mid:Nat} {outs:List (Blk×AV)} (h:C9 P τ η x=some (id,mid,outs)):(∃ b,η id=some b)/\LOps P ⟨d,.next x false,ty,pos,af,g⟩ τ η [id,mid] id outs:=by
 unfold C9 at h
 split at h
 ·rename_i id' ver hx
  split at h
  ·rename_i b mid' mver since seen last hb
   obtain ⟨hb1,hb2⟩:=sn hb
   have hcs:b.cs=d5 (.mp mid' mver) since seen last:=by rw [hb2]; rfl
   split at h
   ·cases h
   ·rename_i mb clock es hm
    obtain ⟨hm1,hm2⟩:=gp hm
    cases hgone:(!seen.isEmpty&&!es.isEmpty&&es.all (fun e=>Nat.ble last e.2.2)) with
    | true=>rw [hgone] at h; simp at h
    | false=>
     rw [hgone] at h
     simp only [cond_false] at h
     split at h
     ·rename_i a1 a2 al f1 f2
      simp only [Zh,Prod.mk.injEq] at h
      obtain ⟨rfl,rfl,rfl⟩:=h
      refine ⟨⟨b,hb1⟩,fun C a hg hxs hfp K Q hK=>?_⟩
      have hbC:C.η id'=some b:=(hfp id' (by simp)).trans hb1
      have hmC:C.η mid'=some mb:=(hfp mid' (by simp)).trans hm1
      have e1:=hxs x (by simp [Op.operands])
      rw [hx] at e1
      have e1':=e1.it_inv hbC (by rw [hb2]; rfl)
      have hk0:b.kind=2:=by rw [hb2]; rfl
      obtain ⟨ob,g1,g2⟩:=hg.obj hbC hk0
      rw [hcs] at g2
      obtain ⟨m,rfl,hvm⟩:=g2.miter_inv
      have hmv:=hvm.mp_inv hmC (by rw [hm2]; rfl)
      have hmm:m=(C.ρ mid').1:=by simpa using hmv
      subst hmm
      obtain ⟨entries,q1,q2,q3⟩:=tw hg hmC hm2
      have hall:All2 (fun (x:Value×AV×Nat) (e:MapEntry)=>e.key=x.1/\VR C x.2.1 e.val/\e.born=x.2.2) es entries.toList:=ln (by simpa using q2) (fun i h1 h2=>by simpa using q3 i h1 (by simpa using h2))
      have hleft:All2 (fun (x:Value×AV×Nat) (e:MapEntry)=>e.key=x.1/\VR C x.2.1 e.val/\e.born=x.2.2) (es.filter fun e=>!seen.contains e.2.2) (entries.filter fun e=>!seen.toArray.contains e.born).toList:=by
       rw [Array.toList_filter]
       refine hall.filter (fun a b hab=>?_)
       rw [hab.2.2]
       simp
      have t1:(!seen.toArray.isEmpty&&!entries.isEmpty&&entries.all (·.born≥last))=false:=by
       rw [<- hgone]
       congr 1
       ·congr 1
        ·simp
        ·have:=hall.isEmpty
         rw [this]
         simp
       ·rw [hall.all (q:=fun e=>decide (e.born≥last)) (fun a b hab=>by
         rw [hab.2.2]
         rw [Bool.eq_iff_iff]
         simp [Nat.ble_eq])]
        simp
      have t2:All2 (fun (x:Value×AV×Nat) (e:MapEntry)=>e.key=x.1/\VR C x.2.1 e.val/\e.born=x.2.2) ((es.filter fun e=>!seen.contains e.2.2).filter (fun e=>Nat.blt e.2.2 since)) ((entries.filter fun e=>!seen.toArray.contains e.born).filter (·.born < since)).toList:=by
       rw [Array.toList_filter]
       refine hleft.filter (fun a b hab=>?_)
       rw [hab.2.2,Bool.eq_iff_iff]
       simp
      have t3:All2 (fun (x:Value×AV×Nat) (e:MapEntry)=>e.key=x.1/\VR C x.2.1 e.val/\e.born=x.2.2) ((es.filter fun e=>!seen.contains e.2.2).filter (fun e=>Nat.ble since e.2.2)) ((entries.filter fun e=>!seen.toArray.contains e.born).filter (·.born≥since)).toList:=by
       rw [Array.toList_filter]
       refine hleft.filter (fun a b hab=>?_)
       rw [hab.2.2,Bool.eq_iff_iff]
       simp [Nat.ble_eq]
      rw [f1] at t2
      rw [f2] at t3
      generalize hold:((entries.filter fun e=>!seen.toArray.contains e.born).filter (·.born < since))=old at t2
      generalize hnw:((entries.filter fun e=>!seen.toArray.contains e.born).filter (·.born≥since))=nw at t3
      obtain ⟨ol⟩:=old
      obtain ⟨nl⟩:=nw
      have hnl:nl=[]:=by
       cases t3; rfl
      subst hnl
      have hlen:∀ {l:List (Value×AV×Nat)} {m:List MapEntry} {R},All2 R l m->l.length=m.length:=fun h=>by
       induction h with
       | nil=>rfl
       | cons _ _ ih=>simp [ih]
      have hol:2<=ol.length:=by
       have:=hlen t2
       simp at this
       omega
      have hne:(⟨ol⟩:Array MapEntry).isEmpty=false:=by
       cases ol with
       | nil=>simp at hol
       | cons=>rfl
      have hget:∀ {l:List (Value×AV×Nat)} {m:List MapEntry},All2 (fun (x:Value×AV×Nat) (e:MapEntry)=>e.key=x.1/\VR C x.2.1 e.val/\e.born=x.2.2) l m->∀ (k:Nat) (h':k < m.length),∃ e∈l,m[k].key=e.1/\VR C e.2.1 m[k].val/\m[k].born=e.2.2:=by
       intro l m h
       induction h with
       | nil=>intro k h'; simp at h'
       | cons hr _ ih=>
        intro k h'
        cases k with
        | zero=>exact ⟨_,List.mem_cons_self ..,hr⟩
        | succ k=>
         obtain ⟨e,he,hh⟩:=ih k (by simpa using h')
         exact ⟨e,List.mem_cons_of_mem _ he,hh⟩
      obtain ⟨gd,ed⟩:=gz hg
      have hcands:((if (⟨ol⟩:Array MapEntry).isEmpty=true then (#[none]:Array (Option MapEntry)) else #[])++((⟨ol⟩:Array MapEntry)++(⟨[]⟩:Array MapEntry)).map some)=(⟨ol⟩:Array MapEntry).map some:=by
       rw [hne]
       simp
      have hsz:((⟨ol⟩:Array MapEntry).map some).size=ol.length:=by simp
      -- the choice
      have hnf:(Question.mapNext ol.length).forced=false:=by
       simp [Question.forced]; omega
      have hch:(choose (.mapNext ol.length)).run P C.w=.ok ((Question.mapNext ol.length).cut (C.w.tape C.w.drawn (.mapNext ol.length))) C.w.drew:=by
       simp [choose,Sem.run,hnf]
      generalize hk:(Question.mapNext ol.length).cut (C.w.tape C.w.drawn (.mapNext ol.length))=k at hch
      have hklt:k < ol.length:=by
       rw [<- hk]
       exact Nat.mod_lt _ (by omega)
      obtain ⟨e,he,k1,k2,k3⟩:=hget t2 k hklt
      have hki:((⟨ol⟩:Array MapEntry).map some)[k]? = some (some ol[k]):=by simp [hklt]
      have gd':C.w.drew.heap[(C.ρ id').1]? = some (.mapIter (some (C.ρ mid').1) since seen.toArray last):=g1
      have hrun:(execOp a.eval ⟨d,.next x false,ty,pos,af,g⟩).run P C.w=.ok (.value (.tuple #[.bool true,ol[k].key,ol[k].val])) { C.w.drew with heap:=C.w.drew.heap.setIfInBounds (C.ρ id').1 (.mapIter (some (C.ρ mid').1) since (seen++[e.2.2]).toArray clock) }:=by
       have hseen:(seen++[e.2.2]).toArray=seen.toArray.push ol[k].born:=by rw [k3]; simp
       rw [hseen]
       have hex:(execOp a.eval ⟨d,.next x false,ty,pos,af,g⟩).run P C.w=((Instr.next (a.eval x) false ty).run P C.w).andThen fun x w=>.ok (.value x) w:=by
        simp only [execOp,Sem.run_bind]
        rfl
       rw [hex,e1']
       simp only [Instr.next,Sem.run_bind,dl g1 (fun _ _ _ e=>by cases e),Result.andThen_ok,dl q1 (fun _ _ _ e=>by cases e),t1,Bool.false_eq_true,if_false,hold,hnw,hcands,hsz,hch,hki,ej gd' (fun _ _ _ e=>by cases e),Sem.run_pure]
      unfold Oper.wp
      rw [hrun]
      have hb2':(cd ver b.esz (.mp mid' mver) since (seen++[e.2.2]) clock).ver=b.ver:=by rw [hb2]; rfl
      have hob:ObjR { C with w:=C.w.drew } (cd ver b.esz (.mp mid' mver) since (seen++[e.2.2]) clock).cs (.mapIter (some (C.ρ mid').1) since (seen++[e.2.2]).toArray clock):=.miter (hvm.mono hg ed)
      have hev:=lh (C:={ C with w:=C.w.drew }) (o:=.mapIter (some (C.ρ mid').1) since (seen++[e.2.2]).toArray clock) (b:=cd ver b.esz (.mp mid' mver) since (seen++[e.2.2]) clock) gd hbC hk0 rfl hb2' rfl
      have hgd:=lg (C:={ C with w:=C.w.drew }) (o:=.mapIter (some (C.ρ mid').1) since (seen++[e.2.2]).toArray clock) (b:=cd ver b.esz (.mp mid' mver) since (seen++[e.2.2]) clock) gd hbC hk0 rfl hb2' rfl hob
      refine hK _ (List.mem_map.2 ⟨e,he,rfl⟩) _ (Ctx.setO { C with w:=C.w.drew } id' (cd ver b.esz (.mp mid' mver) since (seen++[e.2.2]) clock) (.mapIter (some (C.ρ mid').1) since (seen++[e.2.2]).toArray clock)) rfl rfl hgd (ed.trans hev) (J0 (VR.v _ _) ?_ ?_)
      ·rw [k1]; exact VR.v _ _
      ·exact (k2.mono hg ed).mono gd hev
     ·cases h
  ·cases h
 ·cases h
end
section
variable (P:Program) (fuel:Nat) (f:df) (No:Nat) (t0:Tri AV) (ps:List Nat) (assign body:Code)
end
section
variable {P:Program} {fuel:Nat} {f:df} {No Ni:Nat} {t0:Tri AV} {pa:Array Tmp} {assign body:Code}
variable {RD WD:Nat->Prop} {M:Nat} {C0:Ctx} {l D:Nat} {Dl:List Nat} {fn:FuncId} {tm:Array Value} {q:Nat}
end
section
variable {P:Program} {fuel:Nat} {f:df} {No Ni:Nat} {t0:Tri AV} {pa:Array Tmp} {assign body:Code}
variable {RD WD:Nat->Prop} {M:Nat} {C0:Ctx} {l D:Nat} {Dl:List Nat} {fn:FuncId} {tm:Array Value} {q:Nat}
end
section
variable {P:Program} {fuel:Nat} {f:df} {No Ni:Nat} {t0:Tri AV} {pa:Array Tmp} {assign body:Code}
variable {RD WD:Nat->Prop} {M:Nat} {C0:Ctx} {l D:Nat} {Dl:List Nat} {fn:FuncId} {tm:Array Value} {q:Nat}
end
theorem VR.tup_inv' {C:Ctx} {cs:List AV} {x:Value} (h:VR C (.tup cs) x):∃ vs:Array Value,x=.tuple vs/\cs.length=vs.size/\∀ i (h:i < cs.length) (h':i < vs.size),VR C cs[i] vs[i]:=by
 cases h with
 | tup hl hi=>exact ⟨_,rfl,hl,hi⟩
 | imm h=>cases h with
  | tup hl hi=>exact ⟨_,rfl,hl,fun i h h'=>.imm (hi i h h')⟩
section
variable {P:Program} {τ:Nat->AV} {η:au} {d:Option Tmp} {ty:TypeId} {pos:String} {af:Array Edge} {g:Option (Nat×Bool)}
end
end Go.Proofs.YthpangmpihkniaaGreatDoor
