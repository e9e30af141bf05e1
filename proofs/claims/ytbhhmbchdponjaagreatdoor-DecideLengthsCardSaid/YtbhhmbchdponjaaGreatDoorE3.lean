/- Texts of the claim. -/
import Derived.RangeFuncIn
import Derived.LoopNIn
import Derived.Laws.IdiomStrings
import Derived.Test.YtbhhmbchdponjaaGreatDoorE1
import Derived.Test.YtbhhmbchdponjaaGreatDoorE2
namespace Go.Proofs.YtbhhmbchdponjaaGreatDoor
set_option linter.unusedVariables false
set_option linter.unusedSimpArgs false
open Go.RowKit
section
variable{α:Type}
noncomputable def Ut(p:List Bool):Tri α->α->Option (Tri α):=
 List.rec (motive:=fun _=>Tri α->α->Option (Tri α))
  (fun t a=>Tri.rec (motive:=fun _=>Option (Tri α)) (some (.node (some a) .nil .nil)) (fun _ l r _ _=>some (.node (some a) l r)) t)
  (fun b _ ih t a=>Tri.rec (motive:=fun _=>Option (Tri α))
   (Bool.rec (motive:=fun _=>Option (Tri α)) (Option.rec (motive:=fun _=>Option (Tri α)) none (fun r=>some (.node none .nil r)) (ih .nil a)) (Option.rec (motive:=fun _=>Option (Tri α)) none (fun l=>some (.node none l .nil)) (ih .nil a)) b)
   (fun v l r _ _=>Bool.rec (motive:=fun _=>Option (Tri α)) (Option.rec (motive:=fun _=>Option (Tri α)) none (fun r'=>some (.node v l r')) (ih r a)) (Option.rec (motive:=fun _=>Option (Tri α)) none (fun l'=>some (.node v l' r)) (ih l a)) b) t) p
theorem vj:∀(p:List Bool) (t:Tri α) (a:α),Ut p t a=cg p t a
 |[],t,a=>by cases t<;>rfl
 |b::p,t,a=>by
  have e:Ut (b::p) t a=Tri.rec (motive:=fun _=>Option (Tri α))
   (Bool.rec (motive:=fun _=>Option (Tri α)) (Option.rec (motive:=fun _=>Option (Tri α)) none (fun r=>some (.node none .nil r)) (Ut p .nil a)) (Option.rec (motive:=fun _=>Option (Tri α)) none (fun l=>some (.node none l .nil)) (Ut p .nil a)) b)
   (fun v l r _ _=>Bool.rec (motive:=fun _=>Option (Tri α)) (Option.rec (motive:=fun _=>Option (Tri α)) none (fun r'=>some (.node v l r')) (Ut p r a)) (Option.rec (motive:=fun _=>Option (Tri α)) none (fun l'=>some (.node v l' r)) (Ut p l a)) b) t:=rfl
  rw[e];cases t with
  |nil=>
   cases b with
   |true=>simp only[vj p,cg];cases cg p .nil a<;>rfl
   |false=>simp only[vj p,cg];cases cg p .nil a<;>rfl
  |node v l r=>
   cases b with
   |true=>simp only[vj p,cg];cases cg p l a<;>rfl
   |false=>simp only[vj p,cg];cases cg p r a<;>rfl
noncomputable def adb(k:Nat)(t:Tri α)(a:α):Option (Tri α):=Bool.rec (motive:=fun _=>Option (Tri α)) none (Ut (xm 24 k) t a) (Nat.ble k 16777214)
theorem Uu(k:Nat)(t:Tri α)(a:α):adb k t a=Tri.set 24 t k a:=by
 unfold adb Tri.set
 cases Nat.ble k 16777214 with
 |true=>exact vj _ _ _
 |false=>rfl
end
noncomputable def H1(dst:Option Nat)(E:ESX)(r:Rx):Option ESX:=
 Option.rec (motive:=fun _=>Option ESX) (some ⟨E.t,r.h,r.u,Nat.lor E.rd r.F,Nat.lor E.wr r.W⟩) (fun d=>Option.rec (motive:=fun _=>Option ESX) none (fun t=>some ⟨t,r.h,r.u,Nat.lor E.rd r.F,Nat.lor E.wr r.W⟩) (adb d E.t r.v)) dst
theorem Oz(dst:Option Nat)(E:ESX)(r:Rx):H1 dst E r=E.step dst r:=by
 unfold H1 ESX.step
 rw[iu,iu,iu]
 cases dst with
 |none=>rfl
 |some d=>
  simp only[Uu,Ca]
  cases Tri.set 24 E.t d r.v<;>rfl
noncomputable def Pn(f:ct)(ops:Array Oper)(l:List Oper):ESX->List Rx->Option (List Rx×ESX):=
 List.rec (motive:=fun _=>ESX->List Rx->Option (List Rx×ESX)) (fun E acc=>some (acc,E))
  (fun o _ ih E acc=>Option.rec (motive:=fun _=>Option (List Rx×ESX)) none
   (fun w=>Bool.rec (motive:=fun _=>Option (List Rx×ESX))
    (Option.rec (motive:=fun _=>Option (List Rx×ESX)) none (fun E'=>ih E' (⟨0,0,E.u,E.u,E.h,.v undef⟩::acc)) (H1 o.dst E ⟨0,0,E.u,E.u,E.h,.v undef⟩))
    (Option.rec (motive:=fun _=>Option (List Rx×ESX)) none (fun r=>Option.rec (motive:=fun _=>Option (List Rx×ESX)) none (fun E'=>ih E' (r::acc)) (H1 o.dst E r)) (f o E)) w)
   (Option.rec (motive:=fun _=>Option Bool) (some true) (fun _=>m8 ops (bf E.t) o) o.guard)) l
theorem Du{f:ct}{ops:Array Oper}:∀(l:List Oper) (E:ESX) (acc:List Rx),Pn f ops l E acc=(kg f ops l E).map fun q=>(q.1.reverse++acc,q.2)
 |[],E,acc=>rfl
 |o::l,E,acc=>by
  have hw:(Option.rec (motive:=fun _=>Option Bool) (some true) (fun _=>m8 ops (bf E.t) o) o.guard)=m8 ops (bf E.t) o:=by
   unfold m8
   cases hg:o.guard<;>rfl
  have e:Pn f ops (o::l) E acc=Option.rec (motive:=fun _=>Option (List Rx×ESX)) none
   (fun w=>Bool.rec (motive:=fun _=>Option (List Rx×ESX))
    (Option.rec (motive:=fun _=>Option (List Rx×ESX)) none (fun E'=>Pn f ops l E' (⟨0,0,E.u,E.u,E.h,.v undef⟩::acc)) (H1 o.dst E ⟨0,0,E.u,E.u,E.h,.v undef⟩))
    (Option.rec (motive:=fun _=>Option (List Rx×ESX)) none (fun r=>Option.rec (motive:=fun _=>Option (List Rx×ESX)) none (fun E'=>Pn f ops l E' (r::acc)) (H1 o.dst E r)) (f o E)) w)
   (Option.rec (motive:=fun _=>Option Bool) (some true) (fun _=>m8 ops (bf E.t) o) o.guard):=rfl
  rw[e,hw]
  simp only[kg,Oz]
  cases m8 ops (bf E.t) o with
  |none=>rfl
  |some w=>
   cases w with
   |false=>
    simp only
    cases E.step o.dst ⟨0,0,E.u,E.u,E.h,.v undef⟩with
    |none=>rfl
    |some E'=>
     simp only[Du l]
     cases kg f ops l E' with
     |none=>rfl
     |some q=>simp
   |true=>
    simp only
    cases f o E with
    |none=>rfl
    |some r=>
     simp only
     cases E.step o.dst r with
     |none=>rfl
     |some E'=>
      simp only[Du l]
      cases kg f ops l E' with
      |none=>rfl
      |some q=>simp
noncomputable def yk{β:Type}(n:Nat)(k:Nat->Option β):Option β:=Nat.rec (motive:=fun _=>Option β) (k 0) (fun m _=>k (m+1)) n
theorem od{β:Type}(n:Nat)(k:Nat->Option β):yk n k=k n:=by cases n<;>rfl
noncomputable def Fx{β:Type}(E:ESX)(w:Nat)(k:ESX->Option β):Option β:=yk E.rd fun rd=>yk (Nat.lor E.wr w) fun wr=>yk E.u fun u=>k ⟨E.t,E.h,u,rd,wr⟩
theorem Bk{β:Type}(E:ESX)(w:Nat)(k:ESX->Option β):Fx E w k=k ⟨E.t,E.h,E.u,E.rd,Nat.lor E.wr w⟩:=by unfold Fx;rw[od,od,od]
abbrev Out:=Option (Exit×ESX)
noncomputable def K3(r:ESX->Out)(fuel:Nat):ESX->Out:=
 Nat.rec (motive:=fun _=>ESX->Out) (fun _=>none) (fun _ ih E=>match r E with
  |none=>none
  |some (e,E')=>match e with
   |.normal=>ih E'
   |.exit id=>some (.exit id,E')
   |.ret=>some (.ret,E')
   |_=>none) fuel
noncomputable def jo(N fuel:Nat)(f:ct):Code->ESX->Out
 |.skip=>fun E=>some (.normal,E)
 |.ret=>fun E=>some (.ret,E)
 |.exit id=>fun E=>some (.exit id,E)
 |.seq x y=>fun E=>match jo N fuel f x E with
  |none=>none
  |some (e,E')=>match e with
   |.normal=>jo N fuel f y E'
   |.exit id=>some (.exit id,E')
   |.ret=>some (.ret,E')
   |_=>none
 |.cond c x y=>fun E=>match yj c E with
  |.v (.bool true)=>jo N fuel f x E
  |.v (.bool false)=>jo N fuel f y E
  |_=>none
 |.block id c=>fun E=>match jo N fuel f c E with
  |none=>none
  |some (e,E')=>match e with
   |.normal=>some (.normal,E')
   |.exit id'=>bif Nat.beq id' id then some (.normal,E')else some (.exit id',E')
   |.ret=>some (.ret,E')
   |_=>none
 |.loop c=>K3 (jo N fuel f c) fuel
 |.region id ops drawn=>bif G7 N ops then
  (bif drawn then
   (fun E=>match Pn f ops ops.toList ⟨E.t,E.h,E.u,E.rd,0⟩ []with
   |none=>none
   |some (rs,E')=>bif (Aj ops E.u rs.reverse E'||yz f ops ⟨E.t,E.h,E.u,E.rd,0⟩ rs.reverse)then Fx E' E.wr fun E'=>some (.normal,E')else none)
  else fun E=>match Pn f ops ops.toList E []with
   |none=>none
   |some (_,E')=>Fx E' 0 fun E'=>some (.normal,E'))
  else fun _=>none
 |_=>fun _=>none
noncomputable def J3(P:Program)(ov:FuncId->Bool)(ovr:d7)(ext:ct)(steps:Nat):Nat->Fe
 |0,_,_,_,_=>none
 |n+1,f,ys,h,u=>match P.funcs[f]? with
  |none=>none
  |some fn=>match fn.body with
   |none=>none
   |some c=>bif Nat.ble ys.length fn.ntmps then
    match ll 0 ys .nil with
    |none=>none
    |some t=>match jo fn.ntmps steps (opF P ov ovr (J3 P ov ovr ext steps n) ext) c ⟨t,h,u,0,0⟩with
     |some (.normal,E)=>N2 P fn E u
     |some (.ret,E)=>N2 P fn E u
     |_=>none
    else none
noncomputable def vt(P:Program)(ov:FuncId->Bool)(ovr:d7)(ext:ct)(steps depth:Nat)(f:FuncId)(ys:List AV):Option AV:=match J3 P ov ovr ext steps depth f ys .nil 0 with
 |none=>none
 |some r=>match fz (be r.h) 64 r.v with
  |none=>none
  |some (_,ret)=>some ret
theorem Gb{f:ct}{ops:Array Oper}{l:List Oper}{E E':ESX}{rs:List Rx}(h:Pn f ops l E []=some (rs,E')):kg f ops l E=some (rs.reverse,E'):=by
 rw[Du]at h
 cases hr:kg f ops l E with
 |none=>rw[hr]at h;cases h
 |some q=>
  rw[hr]at h
  simp only[ahn,agv,Prod.mk.injEq,List.append_nil]at h
  obtain⟨h1,h2⟩:=h
  rw[<-h1,List.reverse_reverse,<-h2]
def Ey(P:Program)(N:Nat)(c:Code)(E:ESX)(e:Exit)(E':ESX):Prop:=
 Mono E E'/\∀(RD WD:Nat->Prop) (M:Nat) (Q:Exit->St->Prop),Under RD WD M E.u E'->Q e E'.st->t8 P RD WD M N c Q E.st
theorem mz{P:Program}{N fuel:Nat}{f:ct}(hf:f.Ok P)(hm:P.follows .mixedOrders=true):∀(c:Code) (E:ESX) (e:Exit) (E':ESX),At E.h E.u->jo N fuel f c E=some (e,E')->Ey P N c E e E':=by
 intro c;induction c with
 |skip=>
  intro E e E' hl h
  simp only[jo,agv,Prod.mk.injEq]at h
  obtain⟨rfl,rfl⟩:=h
  exact⟨Mono.refl _,fun RD WD M Q _ hq=>t8.skip hq⟩
 |ret=>
  intro E e E' hl h
  simp only[jo,agv,Prod.mk.injEq]at h
  obtain⟨rfl,rfl⟩:=h
  exact⟨Mono.refl _,fun RD WD M Q _ hq=>t8.ret hq⟩
 |exit id=>
  intro E e E' hl h
  simp only[jo,agv,Prod.mk.injEq]at h
  obtain⟨rfl,rfl⟩:=h
  exact⟨Mono.refl _,fun RD WD M Q _ hq=>t8.exit hq⟩
 |seq x y ihx ihy=>
  intro E e E' hl h
  simp only[jo]at h
  cases h1:jo N fuel f x E with
  |none=>rw[h1]at h;cases h
  |some q=>
   obtain⟨e1,E1⟩:=q
   rw[h1]at h
   obtain⟨m1,k1⟩:=ihx E e1 E1 hl h1
   cases e1 with
   |normal=>
    obtain⟨m2,k2⟩:=ihy E1 e E' (m1.low hl) h
    exact⟨m1.trans m2,fun RD WD M Q he hq=>t8.seq (k1 RD WD M _ (he.back m2) (k2 RD WD M Q (he.up m1.u) hq))⟩
   |exit id=>
    simp only[agv,Prod.mk.injEq]at h
    obtain⟨rfl,rfl⟩:=h
    exact⟨m1,fun RD WD M Q he hq=>t8.seq (k1 RD WD M _ he hq)⟩
   |ret=>
    simp only[agv,Prod.mk.injEq]at h
    obtain⟨rfl,rfl⟩:=h
    exact⟨m1,fun RD WD M Q he hq=>t8.seq (k1 RD WD M _ he hq)⟩
   |_=>simp at h
 |cond c x y ihx ihy=>
  intro E e E' hl h
  simp only[jo]at h
  split at h
  ·rename_i hc
   rw[dc]at hc
   obtain⟨m1,k1⟩:=ihx E e E' hl h
   exact⟨m1,fun RD WD M Q he hq=>t8.condT hc (k1 RD WD M Q he hq)⟩
  ·rename_i hc
   rw[dc]at hc
   obtain⟨m1,k1⟩:=ihy E e E' hl h
   exact⟨m1,fun RD WD M Q he hq=>t8.condF hc (k1 RD WD M Q he hq)⟩
  ·cases h
 |block id c ih=>
  intro E e E' hl h
  simp only[jo]at h
  cases h1:jo N fuel f c E with
  |none=>rw[h1]at h;cases h
  |some q=>
   obtain⟨e1,E1⟩:=q
   rw[h1]at h
   obtain⟨m1,k1⟩:=ih E e1 E1 hl h1
   cases e1 with
   |normal=>
    simp only[agv,Prod.mk.injEq]at h
    obtain⟨rfl,rfl⟩:=h
    exact⟨m1,fun RD WD M Q he hq=>t8.block (k1 RD WD M _ he hq)⟩
   |exit id'=>
    simp only at h
    cases hb:Nat.beq id' id with
    |true=>
     rw[hb]at h
     simp only[cond_true,agv,Prod.mk.injEq]at h
     obtain⟨rfl,rfl⟩:=h
     exact⟨m1,fun RD WD M Q he hq=>t8.block (k1 RD WD M _ he (by simp only[ug,hb,cond_true];exact hq))⟩
    |false=>
     rw[hb]at h
     simp only[cond_false,agv,Prod.mk.injEq]at h
     obtain⟨rfl,rfl⟩:=h
     exact⟨m1,fun RD WD M Q he hq=>t8.block (k1 RD WD M _ he (by simp only[ug,hb,cond_false];exact hq))⟩
   |ret=>
    simp only[agv,Prod.mk.injEq]at h
    obtain⟨rfl,rfl⟩:=h
    exact⟨m1,fun RD WD M Q he hq=>t8.block (k1 RD WD M _ he hq)⟩
   |_=>simp at h
 |loop c ih=>
  intro E e E' hl h
  simp only[jo]at h
  have key:∀(n:Nat) (E:ESX) (e:Exit) (E':ESX),At E.h E.u->K3 (jo N fuel f c) n E=some (e,E')->Mono E E'/\∀(RD WD:Nat->Prop) (M:Nat) (Q:Exit->St->Prop),Under RD WD M E.u E'->Q e E'.st->
   ∃I:Nat->St->Prop,(∀m s,I m s->t8 P RD WD M N c (andThen (fun s'=>∃m',m'<m/\I m' s') Q) s)/\I n E.st:=by
   intro n
   induction n with
   |zero=>intro E e E' hl h;simp[K3]at h
   |succ n ihn=>
    intro E e E' hl h
    have hh:K3 (jo N fuel f c) (n+1) E=(match jo N fuel f c E with
     |none=>none
     |some (e,E')=>match e with
      |.normal=>K3 (jo N fuel f c) n E'
      |.exit id=>some (.exit id,E')
      |.ret=>some (.ret,E')
      |_=>none):=rfl
    rw[hh]at h
    cases h1:jo N fuel f c E with
    |none=>rw[h1]at h;cases h
    |some q=>
     obtain⟨e1,E1⟩:=q
     rw[h1]at h
     obtain⟨m1,k1⟩:=ih E e1 E1 hl h1
     have once:∀(e2:Exit),e1=e2->e2≠.normal->e=e2->E'=E1->Mono E E'/\∀(RD WD:Nat->Prop) (M:Nat) (Q:Exit->St->Prop),Under RD WD M E.u E'->Q e E'.st->
      ∃I:Nat->St->Prop,(∀m s,I m s->t8 P RD WD M N c (andThen (fun s'=>∃m',m'<m/\I m' s') Q) s)/\I (n+1) E.st:=by
      rintro e2 rfl hz rfl rfl
      refine⟨m1,fun RD WD M Q he hq=>⟨fun m s=>s=E.st,fun m s hs=>?_,rfl⟩⟩
      subst hs
      refine k1 RD WD M _ he ?_
      cases e<;>first|exact absurd rfl hz|exact hq
     cases e1 with
     |normal=>
      obtain⟨m2,k2⟩:=ihn E1 e E' (m1.low hl) h
      refine⟨m1.trans m2,fun RD WD M Q he hq=>?_⟩
      obtain⟨I,i1,i2⟩:=k2 RD WD M Q (he.up m1.u) hq
      refine⟨fun m s=>(m<=n/\I m s)\/(m=n+1/\s=E.st),fun m s g0=>?_,.inr ⟨rfl,rfl⟩⟩
      rcases g0 with⟨hle,hI⟩|⟨rfl,rfl⟩
      ·refine(i1 m s hI).mono fun e s' ht=>?_
       cases e with
       |normal=>
        obtain⟨m',g1,g2⟩:=ht
        exact⟨m',g1,.inl ⟨by omega,g2⟩⟩
       |_=>exact ht
      ·exact k1 RD WD M _ (he.back m2) ⟨n,Nat.lt_succ_self n,.inl ⟨ag7 _,i2⟩⟩
     |exit id=>
      simp only[agv,Prod.mk.injEq]at h
      exact once (.exit id) rfl (by intro e;cases e) h.1.symm h.2.symm
     |ret=>
      simp only[agv,Prod.mk.injEq]at h
      exact once .ret rfl (by intro e;cases e) h.1.symm h.2.symm
     |_=>simp at h
  obtain⟨m1,k1⟩:=key fuel E e E' hl h
  refine⟨m1,fun RD WD M Q he hq=>?_⟩
  obtain⟨I,i1,i2⟩:=k1 RD WD M Q he hq
  exact t8.loop I i1 i2
 |region id ops drawn=>
  intro E e E' hl h
  simp only[jo]at h
  cases hd:G7 N ops with
  |false=>rw[hd]at h;simp at h
  |true=>
   rw[hd]at h
   simp only[cond_true]at h
   have hv:∀o∈ops.toList,jh N ops o=true:=List.all_eq_true.1 hd
   have eo:ops=ops.toList.toArray:=by simp
   have hi:∀(Eb E1:ESX) (r:Rx) (RD WD:Nat->Prop) (M:Nat),(∀id,E.u<=id->id<M->RD id/\WD id)->RunOk Eb E1 r->Eb.u=E.u->(∀id,E1.rd.testBit id=true->RD id)->(∀id,E1.wr.testBit id=true->WD id)->E1.u<=M->Inn RD WD M r.rc:=by
    intro Eb E1 r RD WD M hn hr hu h1 h2 h3
    have:=hr.u0
    have:=hr.u
    refine⟨fun id hg=>h1 id (hr.F id hg),fun id a b=>(hn id ?_ ?_).1,fun id hg=>?_,aha hr.u h3⟩
    ·have ha:r.u0<=id:=a
     omega
    ·have hb:id<r.u:=b
     omega
    ·rcases Rc.D_iff.1 hg with h5|⟨h5,h6⟩
     ·exact h2 id (hr.W id h5)
     ·have ha:r.u0<=id:=h5
      have hb:id<r.u:=h6
      exact(hn id (by omega) (by omega)).2
   cases drawn with
   |true=>
    simp only[cond_true]at h
    cases h1:Pn f ops ops.toList ⟨E.t,E.h,E.u,E.rd,0⟩ []with
    |none=>rw[h1]at h;cases h
    |some q=>
     obtain⟨rs,E1⟩:=q
     rw[h1]at h
     simp only at h
     cases hc:(Aj ops E.u rs.reverse E1||yz f ops ⟨E.t,E.h,E.u,E.rd,0⟩ rs.reverse)with
     |false=>rw[hc]at h;simp at h
     |true=>
      rw[hc]at h
      simp only[cond_true,Bk,agv,Prod.mk.injEq]at h
      obtain⟨rfl,rfl⟩:=h
      obtain⟨hs,m1,hr⟩:=x8 hf (N:=N) _ ⟨E.t,E.h,E.u,E.rd,0⟩ _ _ hv hl (Gb h1)
      have hk:∀id,(Nat.lor E1.wr E.wr).testBit id=(E1.wr.testBit id||E.wr.testBit id):=fun id=>Nat.testBit_or ..
      refine⟨⟨m1.rd,fun id hg=>?_,m1.u,fun id hg hw=>?_,m1.low,fun hs id hg=>?_,m1.lrd⟩,fun RD WD M Q he hq=>?_⟩
      ·show(Nat.lor E1.wr E.wr).testBit id=true
       rw[hk,hg,Bool.or_true]
      ·have hy:(Nat.lor E1.wr E.wr).testBit id=false:=hw
       rw[hk,Bool.or_eq_false_iff]at hy
       exact m1.h id hg hy.1
      ·have hj:(Nat.lor E1.wr E.wr).testBit id=true:=hg
       rw[hk,Bool.or_eq_true]at hj
       rcases hj with h5|h5
       ·exact m1.sub (fun id h=>by simp at h) id h5
       ·exact m1.rd id (hs id h5)
      ·have hI:∀r∈rs.reverse.map Rx.rc,Inn RD WD M r:=fun r ho=>by
        obtain⟨x,hx,rfl⟩:=ahh.1 ho
        exact hi _ _ x RD WD M he.new (hr x hx) rfl he.rd (fun id hg=>he.wd id (by
         show(Nat.lor E1.wr E.wr).testBit id=true
         rw[hk,hg,Bool.true_or])) he.u
       rw[Bool.or_eq_true]at hc
       rw[eo]
       rcases hc with hc|hc
       ·have hp:DrawOk ops.toList (rs.reverse.map Rx.rc):=Is (E:=⟨E.t,E.h,E.u,E.rd,0⟩) (by rw[<-eo];exact hs) hr (by rw[<-eo];exact hc)
        exact t8.regionD hm (by rw[<-eo];exact hs) hp hI hq
       ·obtain⟨sa,hp⟩:=H2 hf (P:=P) (N:=N) (l:=ops.toList) (E:=⟨E.t,E.h,E.u,E.rd,0⟩) (E':=E1) hl (by rw[<-eo];exact hs) (by rw[<-eo];exact hc)
        exact C6 hm (by rw[<-eo];exact hs) hp hI hq
   |false=>
    simp only[cond_false]at h
    cases h1:Pn f ops ops.toList E []with
    |none=>rw[h1]at h;cases h
    |some q=>
     obtain⟨rs,E1⟩:=q
     rw[h1]at h
     simp only[Bk,agv,Prod.mk.injEq]at h
     have e1:(⟨E1.t,E1.h,E1.u,E1.rd,Nat.lor E1.wr 0⟩:ESX)=E1:=by
      have:Nat.lor E1.wr 0=E1.wr:=Nat.or_zero _
      rw[this]
     rw[e1]at h
     obtain⟨rfl,rfl⟩:=h
     obtain⟨hs,m1,hr⟩:=x8 hf (N:=N) _ _ _ _ hv hl (Gb h1)
     refine⟨m1,fun RD WD M Q he hq=>?_⟩
     rw[eo]
     refine t8.region (by rw[<-eo];exact hs) (fun r ho=>?_) hq
     obtain⟨x,hx,rfl⟩:=ahh.1 ho
     exact hi _ _ x RD WD M he.new (hr x hx) rfl he.rd he.wd he.u
 |_=>intro E e E' hl h;simp[jo]at h
theorem Ad{P:Program}{f:FuncId}{fn:Func}{c:Code}{ys:List AV}{h:Tri (Option Blk)}{u:Nat}{t:Tri AV}{e:Exit}{E:ESX}{r:Rx}(hf:P.funcs[f]? =some fn)(hb:fn.body=some c)(hl:ys.length<=fn.ntmps)(ht:ll 0 ys .nil=some t)
 (hg:At h u)(he:e=.normal\/e=.ret)(hk:Ey P fn.ntmps c ⟨t,h,u,0,0⟩ e E)(hc:N2 P fn E u=some r):r.u0=u/\Fits (be h) r.rc/\Ew P f ys (be h) r.rc:=by
 unfold N2 at hc
 split at hc
 ·cases hc
 ·rename_i m vs hm
  rw[iu,iu]at hc
  simp only[agv]at hc
  subst hc
  obtain⟨mo,hn⟩:=hk
  have hd:=mo.low hg
  have hh:=mo.sub (fun id ha=>by simp at ha)
  have hi:=mo.lrd (fun id ha=>by simp at ha)
  have hu:u<=E.u:=mo.u
  have ho:∀id,(Nat.lor E.rd m).testBit id=(E.rd.testBit id||m.testBit id):=fun id=>Nat.testBit_or ..
  have hF:∀id,(A1 (Nat.lor E.rd m) u).testBit id=true↔(id<u/\(E.rd.testBit id=true\/m.testBit id=true)):=fun id=>by rw[uu,ho,Bool.or_eq_true]
  have hW:∀id,(A1 E.wr u).testBit id=true↔(id<u/\E.wr.testBit id=true):=fun id=>uu
  have hD:∀id,(Rx.rc ⟨A1 (Nat.lor E.rd m) u,A1 E.wr u,u,E.u,E.h,Sp vs⟩).D id=true↔((id<u/\E.wr.testBit id=true)\/(u<=id/\id<E.u)):=fun id=>by
   rw[Rc.D_iff]
   show((A1 E.wr u).testBit id=true\/(u<=id/\id<E.u))↔_
   rw[hW]
  have hj:Fits (be h) (Rx.rc ⟨A1 (Nat.lor E.rd m) u,A1 E.wr u,u,E.u,E.h,Sp vs⟩):=by
   refine⟨hu,fun id ha=>?_,fun id ha=>?_,fun id ha=>((hF id).1 ha).1⟩
   ·show be E.h id=be h id
    by_cases h1:id<u
    ·refine mo.h id h1 ?_
     cases hw:E.wr.testBit id with
     |false=>rfl
     |true=>rw[(hD id).2 (.inl ⟨h1,hw⟩)]at ha;cases ha
    ·by_cases h2:id<E.u
     ·rw[(hD id).2 (.inr ⟨by omega,h2⟩)]at ha;cases ha
     ·rw[hd id (by omega),hg id (by omega)]
   ·obtain⟨h1,h2⟩:=(hW id).1 ha
    exact(hF id).2 ⟨h1,.inl (hh id h2)⟩
  refine⟨rfl,hj,Ew.of_body hf hb rfl hl (my ht) hj hg ?_⟩
  refine hn _ _ _ _ ⟨fun id ha=>?_,fun id ha=>(hD id).2 ?_,ag7 _,fun id h1 h2=>⟨.inr ⟨h1,h2⟩,(hD id).2 (.inr ⟨h1,h2⟩)⟩⟩ ⟨he,fun id _=>rfl,oq (zj _ _ _ (fun id b hb' hp=>?_) hm)⟩
  ·by_cases h1:id<u
   ·exact .inl ((hF id).2 ⟨h1,.inl ha⟩)
   ·exact .inr ⟨by show u<=id;omega,hi id ha⟩
  ·by_cases h1:id<u
   ·exact .inl ⟨h1,ha⟩
   ·exact .inr ⟨by omega,hi id (hh id ha)⟩
  ·by_cases h1:id<u
   ·exact .inl ((hF id).2 ⟨h1,.inr hp⟩)
   ·refine .inr ⟨by show u<=id;omega,?_⟩
    show id<E.u
    by_cases h2:id<E.u
    ·exact h2
    ·rw[hd id (by omega)]at hb';cases hb'
theorem O7{P:Program}{ov:FuncId->Bool}{ovr:d7}{ext:ct}(hm:P.follows .mixedOrders=true)(ho:∀f ys ret,ovr f ys=some ret->b8 P f ys ret)(hd:ext.Ok P){steps:Nat}:∀(n:Nat),Fe.Ok P (J3 P ov ovr ext steps n):=by
 intro n
 induction n with
 |zero=>intro f ys h u r _ hr;simp[J3]at hr
 |succ n ih=>
  intro f ys h u r ha hr
  simp only[J3]at hr
  split at hr
  ·cases hr
  ·rename_i fn hf
   split at hr
   ·cases hr
   ·rename_i c hb
    cases hl:Nat.ble ys.length fn.ntmps with
    |false=>rw[hl]at hr;simp at hr
    |true=>
     rw[hl]at hr
     simp only[cond_true]at hr
     split at hr
     ·cases hr
     ·rename_i t ht
      split at hr
      ·rename_i E hc
       exact Ad hf hb (ag9 hl) ht ha (.inl rfl) (mz (ye ho ih hd) hm _ _ _ _ ha hc) hr
      ·rename_i E hc
       exact Ad hf hb (ag9 hl) ht ha (.inr rfl) (mz (ye ho ih hd) hm _ _ _ _ ha hc) hr
      ·cases hr
theorem Ux{P:Program}{ov:FuncId->Bool}{ovr:d7}{ext:ct}(hm:P.follows .mixedOrders=true)(ho:∀f ys ret,ovr f ys=some ret->b8 P f ys ret)(ha:ext.Ok P){steps depth:Nat}{f:FuncId}{ys:List AV}{ret:AV}(h:vt P ov ovr ext steps depth f ys=some ret):b8 P f ys ret:=by unfold vt at h;split at h;cases h;rename_i r hr;split at h;cases h;rename_i fp ret' hz;simp only[agv]at h;subst h;have hη0:be .nil=nb:=Bd;obtain⟨h1,h2,h3⟩:=O7 hm ho ha depth f ys .nil 0 r (fun id _=>by rw[hη0];rfl) hr;rw[hη0]at h2 h3;exact yp h2 (Lk 64 _ _ _ hz) h3
theorem SRelX.step2{DS:List Deferred}{RD WD:Nat->Prop}{M N:Nat}{s:St}{C C':Ctx}{a:Act}{o:Oper}{r:Rc}{x:Value}(hr:SRelX DS RD M N C s a)(hd:∀d,o.dst=some d->d<N)(hu:r.u0=s.u)(ha:Fits s.η r)(hi:Inn RD WD M r)(h1:∀id,C'.η id=if r.D id=true then r.η id else C.η id)(h2:∀id,C'.U id->C.U id\/r.D id=true)(hg:Good C')(he:Ev C C')(hv:VR C' r.v x):
 SRelX DS RD M N C' (sg o r s) (a.put o.dst x)/\FrX WD C C':=by
 refine⟨hr.put he hg (fun id hb=>?_) (fun id hle hc hf=>?_) hd hv,he,fun id hb=>?_,fun id hb=>(h2 id hb).imp (fun h=>h) (hi.wd id)⟩
 ·rw[h1 id]
  cases hd:r.D id with
  |true=>rw[ag1 rfl]
  |false=>rw[ag0 (by simp),hr.η id hb,ha.same id hd]
 ·rcases h2 id hf with h|h
  ·exact hr.free id (by have:=ha.le;omega) hc h
  ·rcases Rc.D_iff.1 h with h3|h3
   ·have:=ha.low id (ha.sub id h3)
    have:=ha.le
    omega
   ·omega
 ·rw[h1 id,ag0 (fun hd=>hb (hi.wd id hd))]
def Ix{α:Type}(f:α->α->Bool):List α->List α->Bool
 |[],[]=>true
 |a::l,b::m=>f a b&&Ix f l m
 |_,_=>false
theorem om{α:Type}{f:α->α->Bool}(hf:∀a b,f a b=true->a=b):∀(l m:List α),Ix f l m=true->l=m
 |[],[],_=>rfl
 |a::l,b::m,h=>by simp only[Ix,ahq]at h;rw[hf a b h.1,om hf l m h.2]
 |[],_::_,h=>by simp[Ix]at h
 |_::_,[],h=>by simp[Ix]at h
def Uv:Value->Value->Bool
 |.bool a,.bool b=>a==b
 |.int k n,.int k' n'=>decide (k=k')&&decide (n=n')
 |.string s,.string s'=>decide (s=s')
 |.pointer none,.pointer none=>true
 |.slice none l c,.slice none l' c'=>Nat.beq l l'&&Nat.beq c c'
 |.map none,.map none=>true
 |.nilFunc,.nilFunc=>true
 |.nilIface,.nilIface=>true
 |_,_=>false
theorem O2:∀(a b:Value),Uv a b=true->a=b:=by intro a b h;unfold Uv at h;split at h;simp at h;rw[h];simp at h;rw[h.1,h.2];simp at h;rw[h];rfl;rw[ahq]at h;rw[agu h.1,agu h.2];rfl;rfl;rfl;cases h
def xj:Nat->AV->AV->Bool
 |0,_,_=>false
 |n+1,a,b=>match a,b with
  |.v x,.v y=>Uv x y
  |.ptr a b c,.ptr a' b' c'=>Nat.beq a a'&&Nat.beq b b'&&Nat.beq c c'
  |.sl a b c d,.sl a' b' c' d'=>Nat.beq a a'&&Nat.beq b b'&&Nat.beq c c'&&Nat.beq d d'
  |.mp a b,.mp a' b'=>Nat.beq a a'&&Nat.beq b b'
  |.it a b,.it a' b'=>Nat.beq a a'&&Nat.beq b b'
  |.tree k xs,.tree k' xs'=>Nat.beq k k'&&Ix (Ix (xj n)) xs xs'
  |.tp cs o,.tp cs' o'=>Ix (xj n) cs cs'&&Nat.beq o o'
  |.clo f cs,.clo f' cs'=>Nat.beq f f'&&Ix (xj n) cs cs'
  |.agg cs,.agg cs'=>Ix (xj n) cs cs'
  |.tup cs,.tup cs'=>Ix (xj n) cs cs'
  |.unk,.unk=>true
  |_,_=>false
theorem Fy:∀(n:Nat) (a b:AV),xj n a b=true->a=b
 |0,a,b,h=>by simp[xj]at h
 |n+1,a,b,h=>by have ih:=Fy n;unfold xj at h;split at h;rw[O2 _ _ h];simp only[ahq]at h;rw[agu h.1.1,agu h.1.2,agu h.2];simp only[ahq]at h;rw[agu h.1.1.1,agu h.1.1.2,agu h.1.2,agu h.2];simp only[ahq]at h;rw[agu h.1,agu h.2];simp only[ahq]at h;rw[agu h.1,agu h.2];simp only[ahq]at h;rw[agu h.1,om (fun a b=>om ih a b) _ _ h.2];simp only[ahq]at h;rw[om ih _ _ h.1,agu h.2];simp only[ahq]at h;rw[agu h.1,om ih _ _ h.2];rw[om ih _ _ h];rw[om ih _ _ h];rfl;cases h
structure Book(B:Nat)(C:Ctx)(w':World):Prop where
 os:w'.os=C.w.os
 tape:w'.tape=C.w.tape
 output:w'.output=C.w.output
 size:C.w.heap.size<=w'.heap.size
 heap:∀k,k<C.w.heap.size->(k<B\/C.mine k\/C.T k)->w'.heap[k]? =C.w.heap[k]?
def Ctx.on(C:Ctx)(w':World):Ctx:={C with w:=w'}
theorem VR.on{C:Ctx}{w':World}(hT:∀k,C.T k->w'.heap[k]? =C.w.heap[k]?){a:AV}{x:Value}(h:VR C a x):VR (C.on w') a x:=by
 induction h with
 |imm h=>exact .imm (h.mono (fun _ h=>h) (fun k hk=>hT k hk))
 |ptr h1 h2 h3=>exact .ptr (C:=C.on w') h1 h2 h3
 |sl h1 h2 h3 h4 h5 h6 h7=>exact .sl (C:=C.on w') h1 h2 h3 h4 h5 h6 h7
 |slz h1 h2 h3=>exact .slz (C:=C.on w') h1 h2 h3
 |slnil h1 h2 h3=>exact .slnil (C:=C.on w') h1 h2 h3
 |mp h1 h2 h3=>exact .mp (C:=C.on w') h1 h2 h3
 |it h1 h2 h3=>exact .it (C:=C.on w') h1 h2 h3
 |stalem h1 h2 h3=>exact .stalem (C:=C.on w') h1 h2 h3
 |stalei h1 h2 h3=>exact .stalei (C:=C.on w') h1 h2 h3
 |stalep h1 h2 h3=>exact .stalep (C:=C.on w') h1 h2 h3
 |stales h1 h2 h3=>exact .stales (C:=C.on w') h1 h2 h3
 |agg hl _ ih=>exact .agg hl ih
 |tup hl _ ih=>exact .tup hl ih
 |clo hl _ ih=>exact .clo hl ih
theorem ObjR.on{C:Ctx}{w':World}(hT:∀k,C.T k->w'.heap[k]? =C.w.heap[k]?){cs:List AV}{o:Obj}(ho:ObjR C cs o):ObjR (C.on w') cs o:=by
 cases ho with
 |map hl hi=>exact .map hl (fun i h1 h2=>⟨(hi i h1 h2).1,(hi i h1 h2).2.1.on hT,(hi i h1 h2).2.2⟩)
 |siter=>exact .siter
 |miter0=>exact .miter0
 |miter hv=>exact .miter (hv.on hT)
theorem Good.on{C:Ctx}{w':World}(hg:Good C)(hT:∀k,C.T k->w'.heap[k]? =C.w.heap[k]?)(hm:∀k,C.mine k->w'.heap[k]? =C.w.heap[k]?):Good (C.on w') where
 used:=hg.used
 obj:=fun{id b} hb hk=>by obtain⟨o,h,ho⟩:=hg.obj hb hk;exact⟨o,(hm _ ⟨id,⟨b,hb,by rw[hk];decide⟩,rfl⟩).trans h,ho.on hT⟩
 blk:=fun{id b} hb hn=>by obtain⟨c,t',g1,g2,g3,g4⟩:=hg.blk hb hn;exact⟨c,t',(hm _ ⟨id,⟨b,hb,dj hn⟩,rfl⟩).trans g1,g2,g3,fun j h h'=>(g4 j h h').on hT⟩
 inj:=hg.inj
 tok:=⟨fun k hk=>by have h1:=hg.tlt hk;have h2:=hT k hk;rw[Array.getElem?_eq_getElem h1]at h2;exact(Array.getElem?_eq_some_iff.1 h2).1,hg.tok.glob.mono (fun _ h=>h) hT⟩
 apart:=hg.apart
 tight:=hg.tight
theorem Book.T{B:Nat}{C:Ctx}{w':World}(hg:Good C)(h:Book B C w'):∀k,C.T k->w'.heap[k]? =C.w.heap[k]?:=fun k hk=>h.heap k (hg.tlt hk) (.inr (.inr hk))
theorem Book.mine{B:Nat}{C:Ctx}{w':World}(hg:Good C)(h:Book B C w'):∀k,C.mine k->w'.heap[k]? =C.w.heap[k]?:=fun k hk=>h.heap k (cw hg hk) (.inr (.inl hk))
theorem Book.good{B:Nat}{C:Ctx}{w':World}(hg:Good C)(h:Book B C w'):Good (C.on w'):=hg.on (h.T hg) (h.mine hg)
theorem SRelX.on{DS:List Deferred}{RD:Nat->Prop}{B M N:Nat}{C:Ctx}{s:St}{a:Act}{w':World}(hr:SRelX DS RD M N C s a)(h:Book B C w'):SRelX DS RD M N (C.on w') s a:=
 ⟨h.good hr.good,hr.η,hr.free,hr.defers,hr.size,fun t=>(hr.τ t).on (h.T hr.good)⟩
theorem FrX.on{WD:Nat->Prop}{C0 C:Ctx}{w':World}(hf:FrX WD C0 C)(h:Book C0.w.heap.size C w'):FrX WD C0 (C.on w') where
 ev:={
  os:=h.os.trans hf.ev.os
  tape:=h.tape.trans hf.ev.tape
  output:=h.output.trans hf.ev.output
  size:=aha hf.ev.size h.size
  keep:=fun k hk hm=>(h.heap k (Nat.lt_of_lt_of_le hk hf.ev.size) (.inl hk)).trans (hf.ev.keep k hk hm)
  mine:=hf.ev.mine
  T:=hf.ev.T
  Tnew:=hf.ev.Tnew
  U:=hf.ev.U
  old:=hf.ev.old}
 η:=hf.η
 U:=hf.U
structure Mark(B:Nat)(C:Ctx)(k:Nat)(o:Obj):Prop where
 ge:B<=k
 here:C.w.heap[k]? =some o
 mine:¬C.mine k
 T:¬C.T k
theorem Mark.lt{B:Nat}{C:Ctx}{k:Nat}{o:Obj}(h:Mark B C k o):k<C.w.heap.size:=(Array.getElem?_eq_some_iff.1 h.here).1
theorem Mark.ev{B:Nat}{C C':Ctx}{k:Nat}{o:Obj}(h:Mark B C k o)(he:Ev C C'):Mark B C' k o:=
 ⟨h.ge,(he.keep k h.lt h.mine).trans h.here,fun hm=>(he.mine k hm).elim h.mine (fun hle=>by have:=h.lt;omega),fun ht=>by rcases he.Tnew k ht with h1|h1|h1;exact h.T h1;exact h.mine h1;have:=h.lt;omega⟩
theorem Mark.book{B:Nat}{C:Ctx}{k:Nat}{o:Obj}(h:Mark B C k o)(o':Obj):Book B C (C.w.putObj k o'):=
 ⟨rfl,rfl,rfl,by simp[World.putObj],fun j hj hc=>World.putObj_heap_other (fun e=>by subst e;rcases hc with h1|h1|h1;have:=h.ge;omega;exact h.mine h1;exact h.T h1)⟩
theorem Mark.put{B:Nat}{C:Ctx}{k:Nat}{o:Obj}(h:Mark B C k o)(o':Obj):Mark B (C.on (C.w.putObj k o')) k o':=
 ⟨h.ge,World.putObj_heap_same h.lt,h.mine,h.T⟩
theorem Mark.other{B:Nat}{C:Ctx}{k j:Nat}{o:Obj}(h:Mark B C k o)(ha:k≠j)(o':Obj):Mark B (C.on (C.w.putObj j o')) k o:=
 ⟨h.ge,(World.putObj_heap_other ha).trans h.here,h.mine,h.T⟩
theorem Book.alloc(B:Nat)(C:Ctx)(o:Obj):Book B C (C.w.alloc o):=
 ⟨rfl,rfl,rfl,by simp,fun k hk _=>Below.heap_alloc C.w o k hk⟩
theorem Mark.new{B:Nat}{C:Ctx}(hg:Good C)(hB:B<=C.w.heap.size)(o:Obj):Mark B (C.on (C.w.alloc o)) C.w.heap.size o:=
 ⟨hB,World.alloc_heap_new C.w o,fun hm=>Nat.lt_irrefl _ (cw hg hm),fun ht=>Nat.lt_irrefl _ (hg.tlt ht)⟩
theorem Mark.alloc{B:Nat}{C:Ctx}{k:Nat}{o:Obj}(h:Mark B C k o)(o':Obj):Mark B (C.on (C.w.alloc o')) k o:=
 ⟨h.ge,(Below.heap_alloc C.w o' k h.lt).trans h.here,h.mine,h.T⟩
def yAV:AV:=.v (.func (.yield 0) #[] #[])
def isY:AV->Bool
 |.v (.func (.yield _) _ _)=>true
 |_=>false
def Jb(l:Nat)(a:AV):AV:=bif isY a then .v (.func (.yield l) #[] #[])else a
def yT(l:Nat)(τ:Nat->AV):Nat->AV:=fun t=>Jb l (τ t)
theorem va{l:Nat}{a:AV}(h:isY a=false):Jb l a=a:=by unfold Jb;rw[h];rfl
theorem Ja{l:Nat}{a:AV}(h:isY a=true):Jb l a=.v (.func (.yield l) #[] #[]):=by unfold Jb;rw[h];rfl
theorem M8{l:Nat}{τ:Nat->AV}{x:Operand}(h:isY (aev τ x)=false):aev (yT l τ) x=aev τ x:=by
 cases x with
 |tmp t=>exact va h
 |_=>rfl
theorem Q8{l:Nat}{τ:Nat->AV}{x:Operand}{b:Bool}(h:aev τ x=.v (.bool b)):aev (yT l τ) x=.v (.bool b):=by rw[M8 (by rw[h];rfl),h]
theorem I9{l:Nat}{τ:Nat->AV}{d:Option Nat}{v:AV}:yT l (kj τ d v)=kj (yT l τ) d (Jb l v):=by
 funext t
 cases d with
 |none=>rfl
 |some d=>
  show Jb l (upd τ d v t)=upd (yT l τ) d (Jb l v) t
  unfold upd yT
  cases Nat.beq t d<;>rfl
theorem acp{l:Nat}{τ:Nat->AV}{ops:Array Oper}{o:Oper}:m8 ops (yT l τ) o=m8 ops τ o:=by
 unfold m8;split;rfl;split;rfl;rename_i d _;cases hy:isY (τ d)with
 |false=>
  have e:yT l τ d=τ d:=va hy
  rw[e]
 |true=>
  have e:yT l τ d=.v (.func (.yield l) #[] #[]):=Ja hy
  rw[e]
  generalize τ d=x at hy
  unfold isY at hy
  split at hy
  ·rfl
  ·cases hy
theorem rq.congr{P:Program}{o:Oper}{τ τ':Nat->AV}{η:bi}{r:Rc}(h:rq P o τ η r)(he:∀x∈o.op.operands,aev τ' x=aev τ x):rq P o τ' η r:=
 fun C a hg hx hF hN K Q hK=>h C a hg (fun x hm=>by rw[<-he x hm];exact hx x hm) hF hN K Q hK
inductive VRl(C:Ctx):List AV->List Value->Prop where
 |nil:VRl C [] []
 |cons {a:AV} {x:Value} {as:List AV} {xs:List Value}:VR C a x->VRl C as xs->VRl C (a :: as) (x :: xs)
def Dq(N:Nat):List Nat->List AV->Tri AV->Option (Tri AV)
 |[],[],t=>some t
 |p::ps,v::vs,t=>bif Nat.ble (p+1) N then(match Tri.set 24 t p v with
  |none=>none
  |some t'=>Dq N ps vs t')else none
 |_,_,_=>none
theorem Bq{C:Ctx}{N:Nat}:∀(ps:List Nat) (vs:List AV) (xs:List Value) (t t1:Tri AV) (tm:Array Value),Dq N ps vs t=some t1->VRl C vs xs->tm.size=N->(∀k,VR C (bf t k) (tm.getD k undef))->
 ps.length=xs.length/\((ps.zip xs).foldl (fun tm q=>tm.setIfInBounds q.1 q.2) tm).size=N/\∀k,VR C (bf t1 k) (((ps.zip xs).foldl (fun tm q=>tm.setIfInBounds q.1 q.2) tm).getD k undef)
 |[],[],xs,t,t1,tm,h,hv,hs,hr=>by cases hv;simp only[Dq,agv]at h;subst h;exact⟨rfl,hs,hr⟩
 |[],_::_,_,_,_,_,h,_,_,_=>by simp[Dq]at h
 |_::_,[],_,_,_,_,h,_,_,_=>by simp[Dq]at h
 |p::ps,v::vs,xs,t,t1,tm,h,hv,hs,hr=>by
  cases hv with
  |cons h1 h2=>
   rename_i x xs
   simp only[Dq]at h
   cases hb:Nat.ble (p+1) N with
   |false=>rw[hb]at h;simp at h
   |true=>
    rw[hb]at h
    simp only[cond_true]at h
    split at h
    ·cases h
    ·rename_i t' ht
     have hp:p<N:=ag9 hb
     obtain⟨e1,e2,e3⟩:=Bq ps vs xs t' t1 (tm.setIfInBounds p x) h h2 (by simpa using hs) (fun k=>by
      rw[vd ht]
      unfold upd
      by_cases e:k=p
      ·subst e
       rw[Nat.beq_refl]
       simp only[cond_true]
       have:(tm.setIfInBounds k x).getD k undef=x:=by simp[hs,hp]
       rw[this];exact h1
      ·have ha:Nat.beq k p=false:=by
        cases hb:Nat.beq k p with
        |false=>rfl
        |true=>exact absurd (agu hb) e
       rw[ha]
       simp only[cond_false]
       have:(tm.setIfInBounds p x).getD k undef=tm.getD k undef:=by
        rw[Array.getD_eq_getD_getElem?,Array.getD_eq_getD_getElem?,Array.getElem?_setIfInBounds_ne (fun h=>e h.symm)]
       rw[this];exact hr k)
     exact⟨by simp[e1],e2,e3⟩
section
variable(P:Program)(fuel:Nat)(f:ct)(No:Nat)(t0:Tri AV)(ps:List Nat)(assign body:Code)
noncomputable def J4(vs:List AV)(E:ESX):Option (Exit×ESX):=
 match Dq No ps vs t0 with
 |none=>none
 |some t1=>match jo No fuel f assign ⟨t1,E.h,E.u,E.rd,E.wr⟩with
  |some (.normal,E1)=>jo No fuel f body E1
  |_=>none
def Gm:Exit->Option (Option Code)
 |.normal=>some none
 |.ret=>some (some .ret)
 |.exit id=>some (some (.exit id))
 |_=>none
def Uh(τ:Nat->AV)(o:Oper):Bool:=match o.op with
 |.move (.tmp t)=>isY (τ t)
 |_=>false
def X4(τ:Nat->AV)(o:Oper):Option (Array Operand):=match o.op with
 |.call ⟨.value (.tmp t),xs,_⟩=>bif isY (τ t)&&xs.toList.all (fun x=>!isY (aev τ x))then some xs else none
 |_=>none
noncomputable def Pm(ops:Array Oper):List Oper->ESX->Option Code->Option (ESX×Option Code)
 |[],E,ph=>some (E,ph)
 |o::l,E,ph=>match m8 ops (bf E.t) o with
  |none=>none
  |some false=>match E.step o.dst ⟨0,0,E.u,E.u,E.h,.v undef⟩with
   |none=>none
   |some E'=>Pm ops l E' ph
  |some true=>bif Uh (bf E.t) o then(match E.step o.dst ⟨0,0,E.u,E.u,E.h,yAV⟩with
   |none=>none
   |some E'=>Pm ops l E' ph)
   else match X4 (bf E.t) o with
   |some xs=>(match ph with
    |some _=>none
    |none=>match J4 fuel f No t0 ps assign body (xs.toList.map (aev (bf E.t))) E with
     |none=>none
     |some (e,E2)=>match Gm e with
      |none=>none
      |some ph'=>match(ESX.mk E.t E2.h E2.u E2.rd E2.wr).step o.dst ⟨0,0,E2.u,E2.u,E2.h,.v (.bool ph'.isNone)⟩with
       |none=>none
       |some E'=>Pm ops l E' ph')
   |none=>bif o.op.operands.toList.all (fun x=>!isY (aev (bf E.t) x))then(match f o E with
    |none=>none
    |some r=>bif isY r.v then none else match E.step o.dst r with
     |none=>none
     |some E'=>Pm ops l E' ph)else none
noncomputable def kz(Ni:Nat):Nat->Code->ESX->Option Code->Option (Exit×ESX×Option Code)
 |0,_,_,_=>none
 |_+1,.skip,E,ph=>some (.normal,E,ph)
 |_+1,.ret,E,ph=>some (.ret,E,ph)
 |_+1,.exit id,E,ph=>some (.exit id,E,ph)
 |n+1,.seq a b,E,ph=>match kz Ni n a E ph with
  |some (.normal,E1,p1)=>kz Ni n b E1 p1
  |r=>r
 |n+1,.cond c a b,E,ph=>match aev (bf E.t) c with
  |.v (.bool true)=>kz Ni n a E ph
  |.v (.bool false)=>kz Ni n b E ph
  |_=>none
 |n+1,.block id c,E,ph=>match kz Ni n c E ph with
  |some (.exit i,E1,p1)=>bif Nat.beq i id then some (.normal,E1,p1)else some (.exit i,E1,p1)
  |r=>r
 |n+1,.loop c,E,ph=>match kz Ni n c E ph with
  |some (.normal,E1,p1)=>kz Ni n (.loop c) E1 p1
  |r=>r
 |n+1,.region id ops false,E,ph=>bif G7 Ni ops then(match Pm fuel f No t0 ps assign body ops ops.toList E ph with
  |none=>none
  |some (E',p')=>some (.normal,E',p'))else none
 |_,_,_,_=>none
end
theorem P8{RD WD:Nat->Prop}{M:Nat}{E E1 E':ESX}{o:Oper}{r:Rx}(hu:r.u0=E.u)(hb:Fits (be E.h) r.rc)(hs:E.step o.dst r=some E1)(m2:Mono E1 E')(ha:Under RD WD M E.u E'):Inn RD WD M r.rc:=by obtain⟨s1,s2,s3,s4,s5⟩:=iz hs;have m1:Mono E E1:=lf s2 s3 s4 s5 hu hb;have hu1:=m2.u;refine⟨fun id hc=>ha.rd id (m2.rd id (by rw[s4,Nat.testBit_or,show r.F.testBit id=true from hc,Bool.or_true])),fun id h1 h2=>by have hd:r.u0<=id:=h1;have he:id<r.u:=h2;have:=ha.u;exact(ha.new id (by omega) (by omega)).1,fun id hc=>?_,?_⟩;rcases Rc.D_iff.1 hc with h5|⟨h5,h6⟩;exact ha.wd id (m2.wr id (by rw[s5,Nat.testBit_or,show r.W.testBit id=true from h5,Bool.or_true]));have hd:r.u0<=id:=h5;have he:id<r.u:=h6;have:=ha.u;exact(ha.new id (by omega) (by omega)).2;show r.u<=M;have:=ha.u;omega
theorem ve{E E1:ESX}{o:Oper}{r:Rx}(hu:r.u0=E.u)(ha:Fits (be E.h) r.rc)(hs:E.step o.dst r=some E1):Mono E E1:=by obtain⟨s1,s2,s3,s4,s5⟩:=iz hs;exact lf s2 s3 s4 s5 hu ha
def mkL(fn:FuncId)(tm:Array Value)(pa:Array Tmp)(assign body:Code)(D:Nat)(st:LoopState)(pe:Option Code):Loop:=
 {state:=st,pending:=pe,fn:=fn,tmps:=tm,params:=pa,assign:=assign,body:=body,defers:=D}
def Xw(ph:Option Code):LoopState:=if ph.isNone then .ready else .done
section
variable{P:Program}{fuel:Nat}{f:ct}{No Ni:Nat}{t0:Tri AV}{pa:Array Tmp}{assign body:Code}
variable{RD WD:Nat->Prop}{M:Nat}{C0:Ctx}{l D:Nat}{Dl:List Nat}{fn:FuncId}{tm:Array Value}{q:Nat}
structure RelH(RD WD:Nat->Prop)(M:Nat)(C0:Ctx)(l:Nat)(Dl:List Nat)(L:Loop)(η:bi)(u:Nat)(C:Ctx):Prop where
 good:Good C
 η:∀id,RD id->C.η id=η id
 free:∀id,u<=id->id<M->¬C.U id
 fr:FrX WD C0 C
 ml:Mark C0.w.heap.size C l (.loop L)
 md:∀d∈Dl,Mark C0.w.heap.size C d (.deferred (some []))
theorem O8(hf:f.Ok P)(hm:P.follows .mixedOrders=true)(ho:∀d∈Dl,d≠l)(hr:tm.size=No){vs:List AV}{E E2:ESX}{e:Exit}{ph:Option Code}(hl:At E.h E.u)
 (ha:J4 fuel f No t0 pa.toList assign body vs E=some (e,E2))(hj:Gm e=some ph):
 Mono E E2/\(Under RD WD M E.u E2->∀(C:Ctx) (xs:Array Value),RelH RD WD M C0 l Dl (mkL fn tm pa assign body D .ready none) (be E.h) E.u C->(∀t,VR C (bf t0 t) (tm.getD t undef))->VRl C vs xs.toList->
  (Instr.yield l xs).run P C.w=.ok (.round l fn ((pa.zip xs).foldl (fun tmps (t,a)=>tmps.setIfInBounds t a) tm) assign body) C.w/\
  RoundIn Fence.wide q P l fn ((pa.zip xs).foldl (fun tmps (t,a)=>tmps.setIfInBounds t a) tm) assign body C.w fun e' w'=>e'=.returned (.bool ph.isNone)/\∃C',C'.w=w'/\
   RelH RD WD M C0 l Dl (mkL fn tm pa assign body D (Xw ph) ph) (be E2.h) E2.u C'/\∀a x,VR C a x->VR C' a x):=by
 unfold J4 at ha
 split at ha
 ·cases ha
 ·rename_i t1 hs
  split at ha
  ·rename_i E1 h1
   obtain⟨m1,s1⟩:=mz hf hm assign ⟨t1,E.h,E.u,E.rd,E.wr⟩ .normal E1 hl h1
   obtain⟨m2,s2⟩:=mz hf hm body E1 e E2 (m1.low hl) ha
   have m1':Mono E E1:=⟨m1.rd,m1.wr,m1.u,m1.h,m1.low,m1.sub,m1.lrd⟩
   refine⟨m1'.trans m2,fun hp C xs hR h0 hv=>?_⟩
   obtain⟨p1,p2,p3⟩:=Bq pa.toList vs xs.toList t0 t1 tm hs hv hr h0
   have hb:(pa.zip xs).foldl (fun tmps (x:Tmp×Value)=>tmps.setIfInBounds x.1 x.2) tm=(pa.toList.zip xs.toList).foldl (fun tm q=>tm.setIfInBounds q.1 q.2) tm:=by rw[<-Array.foldl_toList,Array.toList_zip]
   refine⟨run_yield hR.ml.here (show xs.size=pa.size by simpa using p1.symm),roundIn_of_wpIn trivial ?_⟩
   show assign.wpIn (Fence.wide.inRound l) q P _ {tmps:=(pa.zip xs).foldl (fun tmps (x:Tmp×Value)=>tmps.setIfInBounds x.1 x.2) tm,defers:=[]} C.w
   rw[hb]
   have hh:SRelX [] RD M No C (⟨t1,E.h,E.u,E.rd,E.wr⟩:ESX).st {tmps:=(pa.toList.zip xs.toList).foldl (fun tm q=>tm.setIfInBounds q.1 q.2) tm,defers:=[]}:=
    ⟨hR.good,hR.η,hR.free,rfl,p2,p3⟩
   refine Code.wpIn_mono ?_ (s1 RD WD M (fun e' s'=>e'=.normal/\s'=E1.st) (hp.back m2) ⟨rfl,rfl⟩ (Fence.wide.inRound l) (.inr ⟨l,rfl⟩) q [] C _ hh)
   rintro e' a' w' ⟨s',C1,⟨rfl,rfl⟩,rfl,hi,hc⟩
   have ml1:=hR.ml.ev hc.ev
   have md1:=fun d hd=>(hR.md d hd).ev hc.ev
   refine⟨_,run_beginRound ml1.here rfl,?_⟩
   have b1:=ml1.book (.loop {mkL fn tm pa assign body D .ready none with state:=.busy})
   have ml1':=ml1.put (.loop {mkL fn tm pa assign body D .ready none with state:=.busy})
   have md1':=fun d (hd:d∈Dl)=>(md1 d hd).other (ho d hd) (.loop {mkL fn tm pa assign body D .ready none with state:=.busy})
   refine Code.wpIn_mono ?_ (s2 RD WD M (fun e' s'=>e'=e/\s'=E2.st) (hp.up m1.u) ⟨rfl,rfl⟩ (Fence.wide.inRound l) (.inr ⟨l,rfl⟩) q [] _ a' (hi.on b1))
   rintro e' a'' w'' ⟨s'',C2,⟨rfl,rfl⟩,rfl,he,hg⟩
   have ml2:=ml1'.ev hg.ev
   have md2:=fun d hd=>(md1' d hd).ev hg.ev
   have hk:=(hR.fr.trans hc).on b1
   have hn:=hk.trans hg
   have fin:∀jump,Gm e'=some jump->∃v w',(Instr.endRound l jump).run P C2.w=.ok v w'/\((Ending.returned v)=.returned (.bool ph.isNone)/\∃C',C'.w=w'/\
    RelH RD WD M C0 l Dl (mkL fn tm pa assign body D (Xw ph) ph) (be E2.h) E2.u C'/\∀a x,VR C a x->VR C' a x):=by
    intro jump hq
    rw[hj]at hq
    obtain rfl:ph=jump:=by simpa using hq
    have b2:=ml2.book (.loop {{mkL fn tm pa assign body D .ready none with state:=.busy}with state:=if ph.isNone then .ready else .done,pending:=ph})
    refine⟨_,_,run_endRound ph ml2.here,rfl,C2.on _,rfl,⟨b2.good he.good,he.η,he.free,hn.on b2,ml2.put _,fun d hd=>(md2 d hd).other (ho d hd) _⟩,fun a x hv=>?_⟩
    exact(((hv.mono hR.good hc.ev).on (b1.T hi.good)).mono (b1.good hi.good) hg.ev).on (b2.T he.good)
   cases e' with
   |normal=>exact fin none rfl
   |ret=>exact fin (some .ret) rfl
   |exit id=>exact fin (some (.exit id)) rfl
   |_=>simp[Gm]at hj
  ·cases ha
end
section
variable{P:Program}{fuel:Nat}{f:ct}{No Ni:Nat}{t0:Tri AV}{pa:Array Tmp}{assign body:Code}
variable{RD WD:Nat->Prop}{M:Nat}{C0:Ctx}{l D:Nat}{Dl:List Nat}{fn:FuncId}{tm:Array Value}{q:Nat}
def Nd(RD WD:Nat->Prop)(M Ni:Nat)(C0:Ctx)(l:Nat)(Dl:List Nat)(mk:LoopState->Option Code->Loop)(τ0:Nat->AV)(tm:Array Value)(s:St)(ph:Option Code)(a:Act)(w:World):Prop:=
 ∃C,C.w=w/\RelH RD WD M C0 l Dl (mk (Xw ph) ph) s.η s.u C/\a.defers=[]/\a.tmps.size=Ni/\(∀t,VR C (yT l s.τ t) (a.eval (.tmp t)))/\∀t,VR C (τ0 t) (tm.getD t undef)
theorem RelH.rel{L:Loop}{η:bi}{u:Nat}{C:Ctx}{a:Act}{τ:Nat->AV}(h:RelH RD WD M C0 l Dl L η u C)(h1:a.defers=[])(h2:a.tmps.size=Ni)(h3:∀t,VR C (τ t) (a.eval (.tmp t))):SRelX [] RD M Ni C ⟨τ,η,u⟩ a:=
 ⟨h.good,h.η,h.free,h1,h2,h3⟩
theorem RelH.of{L:Loop}{η η':bi}{u u':Nat}{C C':Ctx}{a:Act}{τ:Nat->AV}(h:RelH RD WD M C0 l Dl L η u C)(hr:SRelX [] RD M Ni C' ⟨τ,η',u'⟩ a)(hf:FrX WD C C'):RelH RD WD M C0 l Dl L η' u' C':=
 ⟨hr.good,hr.η,hr.free,h.fr.trans hf,h.ml.ev hf.ev,fun d hd=>(h.md d hd).ev hf.ev⟩
theorem Cc{E:ESX}(v:AV):Fits (be E.h) (Rx.rc ⟨0,0,E.u,E.u,E.h,v⟩):=Cb rfl
theorem Fi{C:Ctx}{a:Act}{τ:Nat->AV}:∀(xs:List Operand),(∀x∈xs,VR C (aev τ x) (a.eval x))->VRl C (xs.map (aev τ)) (xs.map a.eval)
 |[],_=>.nil
 |x::xs,h=>.cons (h x (by simp)) (Fi xs (fun y hy=>h y (by simp[hy])))
theorem v6(hf:f.Ok P)(hm:P.follows .mixedOrders=true)(g5:∀d∈Dl,d≠l)(g6:tm.size=No){ops:Array Oper}:∀(L:List Oper) (E:ESX) (ph:Option Code) (E':ESX) (ph':Option Code),(∀o∈L,jh Ni ops o=true)->At E.h E.u->Pm fuel f No t0 pa.toList assign body ops L E ph=some (E',ph')->
 Mono E E'/\(Under RD WD M E.u E'->∀(a:Act) (w:World) (Q:Exit->Act->World->Prop),Nd RD WD M Ni C0 l Dl (mkL fn tm pa assign body D) (bf t0) tm E.st ph a w->
  (∀a' w',Nd RD WD M Ni C0 l Dl (mkL fn tm pa assign body D) (bf t0) tm E'.st ph' a' w'->Q .normal a' w')->wpListIn Fence.wide q P ops Q L a w)
 |[],E,ph,E',ph',_,_,h=>by simp only[Pm,agv,Prod.mk.injEq]at h;obtain⟨rfl,rfl⟩:=h;exact⟨Mono.refl _,fun _ a w Q hr hK=>hK a w hr⟩
 |o::L,E,ph,E',ph',hd,hl,h=>by
  have hk:=hd o (by simp);have g9:∀o∈L,jh Ni ops o=true:=fun o ho=>hd o (by simp[ho])
  -- an operation that keeps the heap
  have keep:∀(v:AV) (x:Value) (E1:ESX),E.step o.dst ⟨0,0,E.u,E.u,E.h,v⟩=some E1->Pm fuel f No t0 pa.toList assign body ops L E1 ph=some (E',ph')->Mono E E'/\(Under RD WD M E.u E'->∀(a:Act) (w:World) (Q:Exit->Act->World->Prop) (x:Value),(∀C,VR C (Jb l v) x)->
   Nd RD WD M Ni C0 l Dl (mkL fn tm pa assign body D) (bf t0) tm E.st ph a w->(∀a' w',Nd RD WD M Ni C0 l Dl (mkL fn tm pa assign body D) (bf t0) tm E'.st ph' a' w'->Q .normal a' w')->wpListIn Fence.wide q P ops Q L (a.put o.dst x) w):=by
   intro v x E1 hs g3
   have m1:=ve rfl (Cc v) hs
   obtain⟨m2,k2⟩:=v6 hf hm g5 g6 L E1 ph E' ph' g9 (m1.low hl) g3
   refine⟨m1.trans m2,fun hc a w Q x hx ha hK=>?_⟩
   refine k2 (hc.up m1.u) _ w Q ?_ hK
   obtain⟨C,rfl,hR,hh,hN,hτ,h0⟩:=ha
   obtain⟨s1,_⟩:=iz hs
   have hr:=hR.rel hh hN hτ
   have hn:=hr.put (Ev.refl C) hr.good (η':=be E.h) (u':=E.u) hr.η hr.free (jh.dst hk) (hx C)
   have e1:E1.st=⟨kj (bf E.t) o.dst v,be E.h,E.u⟩:=s1
   rw[e1]
   refine⟨C,rfl,hR.of hn (FrX.refl C),hn.defers,hn.size,fun t=>?_,h0⟩
   have:=hn.τ t
   show VR C (yT l (kj (bf E.t) o.dst v) t) _
   rw[I9]
   exact this
  simp only[Pm]at h;split at h;cases h;rename_i hw;split at h;cases h;rename_i E1 hs;obtain⟨m,k⟩:=keep (.v undef) undef E1 hs h;refine⟨m,fun hc a w Q ha hK=>have hi:=ha;?_⟩;obtain⟨C,rfl,hR,hh,hN,hτ,h0⟩:=hi;unfold wpListIn;rw[eu (s:=⟨yT l (bf E.t),be E.h,E.u⟩) (acp.trans hw) (hR.rel hh hN hτ) (jh.guard hk)];simp only[Bool.false_eq_true,if_false];exact⟨fun _ _=>trivial,k hc a C.w Q undef (fun C=>VR.v C _) ha hK⟩;rename_i hw;cases g0:Uh (bf E.t) o with
  |true=>
   rw[g0]at h
   simp only[cond_true]at h
   split at h
   ·cases h
   ·rename_i E1 hs
    obtain⟨m,k⟩:=keep yAV undef E1 hs h
    refine⟨m,fun hc a w Q ha hK=>?_⟩
    have hi:=ha
    obtain⟨C,rfl,hR,hh,hN,hτ,h0⟩:=hi
    unfold wpListIn
    rw[eu (s:=⟨yT l (bf E.t),be E.h,E.u⟩) (acp.trans hw) (hR.rel hh hN hτ) (jh.guard hk)]
    simp only[if_true]
    unfold Uh at g0
    split at g0
    ·rename_i t ga
     have hval:a.eval (.tmp t)=.func (.yield l) #[] #[]:=by
      have h1:=hτ t
      have h2:yT l (bf E.t) t=.v (.func (.yield l) #[] #[]):=Ja g0
      have h3:yT l E.st.τ t=.v (.func (.yield l) #[] #[]):=h2
      rw[h3]at h1
      exact h1.v_inv
     have hu:(execOp a.eval o).run P C.w=.ok (.value (.func (.yield l) #[] #[])) C.w:=by
      have gb:o=⟨o.dst,.move (.tmp t),o.type,o.pos,o.after,o.guard⟩:=by rw[<-ga]
      rw[gb,<-hval]
      rfl
     refine Zc FOk.wide (o7 hk) ?_
     unfold Oper.wp
     rw[hu]
     exact k hc a C.w Q _ (fun C=>VR.v C _) ha hK
    ·cases g0
  |false=>
   rw[g0]at h
   simp only[cond_false]at h
   split at h
   ·-- a round
    rename_i xs hq
    split at h
    ·cases h
    ·split at h
     ·cases h
     ·rename_i e E2 hb
      split at h
      ·cases h
      ·rename_i ph1 hj
       split at h
       ·cases h
       ·rename_i E1 hs
        obtain⟨mr,kr⟩:=O8 (RD:=RD) (WD:=WD) (M:=M) (C0:=C0) (l:=l) (D:=D) (Dl:=Dl) (fn:=fn) (q:=q-1) hf hm g5 g6 hl hb hj
        have gd:=mr.low hl
        have m1:=ve (E:=⟨E.t,E2.h,E2.u,E2.rd,E2.wr⟩) rfl (Cc (E:=⟨E.t,E2.h,E2.u,E2.rd,E2.wr⟩) (.v (.bool ph1.isNone))) hs
        have mr':Mono E ⟨E.t,E2.h,E2.u,E2.rd,E2.wr⟩:=⟨mr.rd,mr.wr,mr.u,mr.h,mr.low,mr.sub,mr.lrd⟩
        obtain⟨m2,k2⟩:=v6 hf hm g5 g6 L E1 ph1 E' ph' g9 (m1.low gd) h
        refine⟨(mr'.trans m1).trans m2,fun hc a w Q ha hK=>?_⟩
        obtain⟨C,rfl,hR,hh,hN,hτ,h0⟩:=ha
        unfold wpListIn
        rw[eu (s:=⟨yT l (bf E.t),be E.h,E.u⟩) (acp.trans hw) (hR.rel hh hN hτ) (jh.guard hk)]
        simp only[if_true]
        unfold X4 at hq
        split at hq
        ·rename_i t xs' ats ga
         cases hy:isY (bf E.t t)&&xs'.toList.all (fun x=>!isY (aev (bf E.t) x))with
         |false=>rw[hy]at hq;simp at hq
         |true=>
          rw[hy]at hq
          simp only[cond_true,agv]at hq
          subst hq
          obtain⟨ge,gf⟩:=Bool.and_eq_true_iff.1 hy
          have hval:a.eval (.tmp t)=.func (.yield l) #[] #[]:=by
           have h1:=hτ t
           have h3:yT l E.st.τ t=.v (.func (.yield l) #[] #[]):=Ja ge
           rw[h3]at h1
           exact h1.v_inv
          have ha:=hR.rel hh hN hτ
          have g4:VRl C (xs'.toList.map (aev (bf E.t))) (xs'.map a.eval).toList:=by
           rw[Array.toList_map]
           refine Fi _ (fun x hx=>?_)
           have h1:VR C (aev (yT l (bf E.t)) x) (a.eval x):=ha.eval x
           have h2:=List.all_eq_true.1 gf x hx
           rw[M8 (show isY (aev (bf E.t) x)=false by simpa using h2)]at h1
           exact h1
          have hp:=hc.back (m1.trans m2)
          obtain⟨gg,hb⟩:=kr ⟨hp.rd,hp.wd,hp.u,hp.new⟩ C (xs'.map a.eval) hR h0 g4
          have hu:(execOp a.eval o).run P C.w=.ok (.round l fn ((pa.zip (xs'.map a.eval)).foldl (fun tmps (t,a)=>tmps.setIfInBounds t a) tm) assign body) C.w:=by
           have gb:o=⟨o.dst,.call ⟨.value (.tmp t),xs',ats⟩,o.type,o.pos,o.after,o.guard⟩:=by rw[<-ga]
           have e0:execOp a.eval ⟨o.dst,.call ⟨.value (.tmp t),xs',ats⟩,o.type,o.pos,o.after,o.guard⟩=(do let dd<-Deferred.ofValue (a.eval (.tmp t)) (xs'.map a.eval);invoke dd.target dd.args):=rfl
           rw[gb,e0,hval]
           have e1:(do let dd<-Deferred.ofValue (.func (.yield l) #[] #[]) (xs'.map a.eval);invoke dd.target dd.args)=Instr.yield l (#[]++xs'.map a.eval++#[]):=rfl
           rw[e1]
           simpa using gg
          refine⟨fun _ _=>trivial,?_⟩
          rw[Oper.semAt_eq _ _ _ (o7 hk),hu,Oper.uponIn_round]
          refine⟨fun e=>(by cases e),hb.mono ?_⟩
          rintro e' w' ⟨rfl,C',rfl,g7,ht⟩
          refine k2 (hc.up (aha mr.u m1.u)) _ C'.w Q ?_ hK
          obtain⟨s1,_⟩:=iz hs
          have e1:E1.st=⟨kj (bf E.t) o.dst (.v (.bool ph1.isNone)),be E2.h,E2.u⟩:=s1
          rw[e1]
          have g8:SRelX [] RD M Ni C' ⟨yT l (bf E.t),be E2.h,E2.u⟩ a:=⟨g7.good,g7.η,g7.free,hh,hN,fun t=>ht _ _ (hτ t)⟩
          have hn:=g8.put (Ev.refl C') g8.good (η':=be E2.h) (u':=E2.u) g8.η g8.free (jh.dst hk) (VR.v C' (.bool ph1.isNone))
          refine⟨C',rfl,g7.of hn (FrX.refl C'),hn.defers,hn.size,fun t=>?_,fun t=>ht _ _ (h0 t)⟩
          have:=hn.τ t
          show VR C' (yT l (kj (bf E.t) o.dst (.v (.bool ph1.isNone))) t) _
          rw[I9,va rfl]
          exact this
        ·cases hq
   ·-- a plain operation
    cases hz:o.op.operands.toList.all (fun x=>!isY (aev (bf E.t) x))with
    |false=>rw[hz]at h;simp at h
    |true=>
     rw[hz]at h
     simp only[cond_true]at h
     split at h
     ·cases h
     ·rename_i r hr
      cases gc:isY r.v with
      |true=>rw[gc]at h;simp at h
      |false=>
       rw[gc]at h
       simp only[cond_false]at h
       split at h
       ·cases h
       ·rename_i E1 hs
        obtain⟨r1,r2,r3⟩:=hf o E r hl hr
        have m1:=ve r1 r2 hs
        obtain⟨m2,k2⟩:=v6 hf hm g5 g6 L E1 ph E' ph' g9 (m1.low hl) h
        refine⟨m1.trans m2,fun hc a w Q ha hK=>?_⟩
        have inn:=P8 r1 r2 hs m2 hc
        obtain⟨C,rfl,hR,hh,hN,hτ,h0⟩:=ha
        have ha:=hR.rel hh hN hτ
        unfold wpListIn
        rw[eu (s:=⟨yT l (bf E.t),be E.h,E.u⟩) (acp.trans hw) ha (jh.guard hk)]
        simp only[if_true]
        have L':rq P o (yT l (bf E.t)) (be E.h) r.rc:=r3.congr (fun x hx=>M8 (by
         have:=List.all_eq_true.1 hz x (by simpa using hx)
         simpa using this))
        refine Zc FOk.wide (o7 hk) (L' C a hR.good (fun x _=>ha.eval x) (fun id gh=>hR.η id (inn.rd id gh)) (fun id h1 h2=>hR.free id (by have h3:r.u0<=id:=h1;show E.u<=id;omega) (Nat.lt_of_lt_of_le h2 inn.u)) _ _ fun x C' g1 g2 hg he hv=>?_)
        obtain⟨q1,q2⟩:=ha.step2 (o:=o) (jh.dst hk) r1 r2 inn g1 g2 hg he hv
        refine k2 (hc.up m1.u) _ C'.w Q ?_ hK
        obtain⟨s1,_⟩:=iz hs
        have e1:E1.st=⟨kj (bf E.t) o.dst r.v,be r.h,r.u⟩:=s1
        rw[e1]
        refine⟨C',rfl,hR.of q1 q2,q1.defers,q1.size,fun t=>?_,fun t=>(h0 t).mono hR.good he⟩
        have:=q1.τ t
        show VR C' (yT l (kj (bf E.t) o.dst r.v) t) _
        rw[I9,va gc]
        exact this
end
section
variable{P:Program}{fuel:Nat}{f:ct}{No Ni:Nat}{t0:Tri AV}{pa:Array Tmp}{assign body:Code}
variable{RD WD:Nat->Prop}{M:Nat}{C0:Ctx}{l D:Nat}{Dl:List Nat}{fn:FuncId}{tm:Array Value}{q:Nat}
def agq(P:Program)(No Ni:Nat)(t0:Tri AV)(pa:Array Tmp)(assign body:Code)(c:Code)(E:ESX)(ph:Option Code)(e:Exit)(E':ESX)(ph':Option Code):Prop:=
 Mono E E'/\∀(RD WD:Nat->Prop) (M:Nat) (C0:Ctx) (l D:Nat) (Dl:List Nat) (fn:FuncId) (tm:Array Value) (q:Nat),(∀d∈Dl,d≠l)->tm.size=No->Under RD WD M E.u E'->∀(a:Act) (w:World),
  Nd RD WD M Ni C0 l Dl (mkL fn tm pa assign body D) (bf t0) tm E.st ph a w->c.wpIn Fence.wide q P (fun e1 a' w'=>e1=e/\Nd RD WD M Ni C0 l Dl (mkL fn tm pa assign body D) (bf t0) tm E'.st ph' a' w') a w
def Hu(P:Program)(No Ni:Nat)(t0:Tri AV)(pa:Array Tmp)(assign body:Code)(m:Nat)(c:Code)(E:ESX)(ph:Option Code)(e:Exit)(E':ESX)(ph':Option Code):Prop:=
 Mono E E'/\∀(RD WD:Nat->Prop) (M:Nat) (C0:Ctx) (l D:Nat) (Dl:List Nat) (fn:FuncId) (tm:Array Value) (q:Nat),(∀d∈Dl,d≠l)->tm.size=No->Under RD WD M E.u E'->∀(a:Act) (w:World),
  Nd RD WD M Ni C0 l Dl (mkL fn tm pa assign body D) (bf t0) tm E.st ph a w->Code.roundsIn Fence.wide q P c (fun e1 a' w'=>e1=e/\Nd RD WD M Ni C0 l Dl (mkL fn tm pa assign body D) (bf t0) tm E'.st ph' a' w') m a w
theorem Qr(hf:f.Ok P)(hm:P.follows .mixedOrders=true):∀(n:Nat),(∀(c:Code) (E:ESX) (ph:Option Code) (e:Exit) (E':ESX) (ph':Option Code),At E.h E.u->kz fuel f No t0 pa.toList assign body Ni n c E ph=some (e,E',ph')->agq P No Ni t0 pa assign body c E ph e E' ph')/\
 (∀(c:Code) (E:ESX) (ph:Option Code) (e:Exit) (E':ESX) (ph':Option Code),At E.h E.u->kz fuel f No t0 pa.toList assign body Ni n (.loop c) E ph=some (e,E',ph')->Hu P No Ni t0 pa assign body n c E ph e E' ph'):=by
 intro n
 induction n with
 |zero=>exact⟨fun c E ph e E' ph' _ h=>by simp[kz]at h,fun c E ph e E' ph' _ h=>by simp[kz]at h⟩
 |succ n ih=>
  obtain⟨ihA,ihB⟩:=ih
  have hB:∀(c:Code) (E:ESX) (ph:Option Code) (e:Exit) (E':ESX) (ph':Option Code),At E.h E.u->kz fuel f No t0 pa.toList assign body Ni (n+1) (.loop c) E ph=some (e,E',ph')->Hu P No Ni t0 pa assign body (n+1) c E ph e E' ph':=by
   intro c E ph e E' ph' hl h
   simp only[kz]at h
   split at h
   ·rename_i E1 p1 h1
    obtain⟨m1,k1⟩:=ihA c E ph _ E1 p1 hl h1
    obtain⟨m2,k2⟩:=ihB c E1 p1 e E' ph' (m1.low hl) h
    refine⟨m1.trans m2,fun RD WD M C0 l D Dl fn tm q ha hc hg a w hr=>?_⟩
    rw[roundsIn_succ]
    refine Code.wpIn_mono ?_ (k1 RD WD M C0 l D Dl fn tm q ha hc (hg.back m2) a w hr)
    rintro e1 a' w' ⟨rfl,hh⟩
    exact k2 RD WD M C0 l D Dl fn tm q ha hc (hg.up m1.u) a' w' hh
   ·rename_i hi
    obtain⟨m1,k1⟩:=ihA c E ph e E' ph' hl h
    refine⟨m1,fun RD WD M C0 l D Dl fn tm q ha hc hg a w hr=>?_⟩
    rw[roundsIn_succ]
    refine Code.wpIn_mono ?_ (k1 RD WD M C0 l D Dl fn tm q ha hc hg a w hr)
    rintro e1 a' w' ⟨rfl,hh⟩
    cases e1 with
    |normal=>exact absurd h (hi _ _)
    |_=>exact⟨rfl,hh⟩
  refine⟨fun c E ph e E' ph' hl h=>?_,hB⟩
  cases c with
  |skip=>
   simp only[kz,agv,Prod.mk.injEq]at h
   obtain⟨rfl,rfl,rfl⟩:=h
   exact⟨Mono.refl _,fun RD WD M C0 l D Dl fn tm q ha hc hg a w hr=>wpIn_skip ⟨rfl,hr⟩⟩
  |ret=>
   simp only[kz,agv,Prod.mk.injEq]at h
   obtain⟨rfl,rfl,rfl⟩:=h
   exact⟨Mono.refl _,fun RD WD M C0 l D Dl fn tm q ha hc hg a w hr=>wpIn_ret ⟨rfl,hr⟩⟩
  |exit id=>
   simp only[kz,agv,Prod.mk.injEq]at h
   obtain⟨rfl,rfl,rfl⟩:=h
   exact⟨Mono.refl _,fun RD WD M C0 l D Dl fn tm q ha hc hg a w hr=>wpIn_exit ⟨rfl,hr⟩⟩
  |seq x y=>
   simp only[kz]at h
   split at h
   ·rename_i E1 p1 h1
    obtain⟨m1,k1⟩:=ihA x E ph _ E1 p1 hl h1
    obtain⟨m2,k2⟩:=ihA y E1 p1 e E' ph' (m1.low hl) h
    refine⟨m1.trans m2,fun RD WD M C0 l D Dl fn tm q ha hc hg a w hr=>wpIn_seq ?_⟩
    refine Code.wpIn_mono ?_ (k1 RD WD M C0 l D Dl fn tm q ha hc (hg.back m2) a w hr)
    rintro e1 a' w' ⟨rfl,hh⟩
    exact k2 RD WD M C0 l D Dl fn tm q ha hc (hg.up m1.u) a' w' hh
   ·rename_i hi
    obtain⟨m1,k1⟩:=ihA x E ph e E' ph' hl h
    refine⟨m1,fun RD WD M C0 l D Dl fn tm q ha hc hg a w hr=>wpIn_seq ?_⟩
    refine Code.wpIn_mono ?_ (k1 RD WD M C0 l D Dl fn tm q ha hc hg a w hr)
    rintro e1 a' w' ⟨rfl,hh⟩
    cases e1 with
    |normal=>exact absurd h (hi _ _)
    |_=>exact⟨rfl,hh⟩
  |cond c x y=>
   simp only[kz]at h
   have hn:∀(b:Bool),aev (bf E.t) c=.v (.bool b)->∀{RD WD:Nat->Prop} {M:Nat} {C0:Ctx} {l D:Nat} {Dl:List Nat} {fn:FuncId} {tm:Array Value} {a:Act} {w:World},Nd RD WD M Ni C0 l Dl (mkL fn tm pa assign body D) (bf t0) tm E.st ph a w->a.eval c=.bool b:=by
    intro b hb RD WD M C0 l D Dl fn tm a w hr
    obtain⟨C,rfl,hR,hp,hN,hτ,h0⟩:=hr
    have h1:=(hR.rel hp hN hτ).eval c
    have h2:aev (yT l E.st.τ) c=.v (.bool b):=Q8 hb
    have h3:VR C (aev (yT l E.st.τ) c) (a.eval c):=h1
    rw[h2]at h3
    exact h3.v_inv
   split at h
   ·rename_i hb
    obtain⟨m1,k1⟩:=ihA x E ph e E' ph' hl h
    exact⟨m1,fun RD WD M C0 l D Dl fn tm q ha hc hg a w hr=>wpIn_cond_split (hn true hb hr) (fun _=>k1 RD WD M C0 l D Dl fn tm q ha hc hg a w hr) (fun e=>by cases e)⟩
   ·rename_i hb
    obtain⟨m1,k1⟩:=ihA y E ph e E' ph' hl h
    exact⟨m1,fun RD WD M C0 l D Dl fn tm q ha hc hg a w hr=>wpIn_cond_split (hn false hb hr) (fun e=>by cases e) (fun _=>k1 RD WD M C0 l D Dl fn tm q ha hc hg a w hr)⟩
   ·cases h
  |block id c=>
   simp only[kz]at h
   split at h
   ·rename_i i E1 p1 h1
    obtain⟨m1,k1⟩:=ihA c E ph _ E1 p1 hl h1
    have hj:E'=E1/\ph'=p1/\((i=id/\e=.normal)\/(i≠id/\e=.exit i)):=by
     cases hb:Nat.beq i id with
     |true=>
      rw[hb]at h
      simp only[cond_true,agv,Prod.mk.injEq]at h
      obtain⟨rfl,rfl,rfl⟩:=h
      exact⟨rfl,rfl,.inl ⟨agu hb,rfl⟩⟩
     |false=>
      rw[hb]at h
      simp only[cond_false,agv,Prod.mk.injEq]at h
      obtain⟨rfl,rfl,rfl⟩:=h
      exact⟨rfl,rfl,.inr ⟨fun e=>(by subst e;rw[Nat.beq_refl]at hb;cases hb),rfl⟩⟩
    obtain⟨rfl,rfl,he⟩:=hj
    refine⟨m1,fun RD WD M C0 l D Dl fn tm q ha hc hg a w hr=>wpIn_block ?_⟩
    refine Code.wpIn_mono ?_ (k1 RD WD M C0 l D Dl fn tm q ha hc hg a w hr)
    rintro e1 a' w' ⟨rfl,hh⟩
    simp only[Exit.inBlock]
    rcases he with⟨h1,h2⟩|⟨h1,h2⟩
    ·rw[ag1 h1];exact⟨h2.symm,hh⟩
    ·rw[ag0 h1];exact⟨h2.symm,hh⟩
   ·rename_i hi
    obtain⟨m1,k1⟩:=ihA c E ph e E' ph' hl h
    refine⟨m1,fun RD WD M C0 l D Dl fn tm q ha hc hg a w hr=>wpIn_block ?_⟩
    refine Code.wpIn_mono ?_ (k1 RD WD M C0 l D Dl fn tm q ha hc hg a w hr)
    rintro e1 a' w' ⟨rfl,hh⟩
    cases e1 with
    |exit i=>exact absurd h (hi _ _ _)
    |_=>exact⟨rfl,hh⟩
  |loop c=>
   obtain⟨m1,k1⟩:=hB c E ph e E' ph' hl h
   exact⟨m1,fun RD WD M C0 l D Dl fn tm q ha hc hg a w hr=>wpIn_loop_rounds _ (k1 RD WD M C0 l D Dl fn tm q ha hc hg a w hr)⟩
  |region id ops d=>
   cases d with
   |true=>simp[kz]at h
   |false=>
    simp only[kz]at h
    cases hd:G7 Ni ops with
    |false=>rw[hd]at h;simp at h
    |true=>
     rw[hd]at h
     simp only[cond_true]at h
     split at h
     ·cases h
     ·rename_i E1 p1 h1
      simp only[agv,Prod.mk.injEq]at h
      obtain⟨rfl,rfl,rfl⟩:=h
      have ho:∀o∈ops.toList,jh Ni ops o=true:=List.all_eq_true.1 hd
      have mono:Mono E E1:=by
       obtain⟨m,_⟩:=v6 (RD:=fun _=>True) (WD:=fun _=>True) (M:=0) (C0:=⟨fun _=>(0,0),fun _=>0,nb,fun _=>False,fun _=>False,default⟩) (l:=0) (D:=1) (Dl:=[]) (fn:=0) (q:=0) (tm:=Array.replicate No undef) hf hm (by simp) (by simp) _ _ _ _ _ ho hl h1
       exact m
      refine⟨mono,fun RD WD M C0 l D Dl fn tm q ha hc hg a w hr=>?_⟩
      obtain⟨_,k⟩:=v6 (RD:=RD) (WD:=WD) (M:=M) (C0:=C0) (l:=l) (D:=D) (Dl:=Dl) (fn:=fn) (q:=q) (tm:=tm) hf hm ha hc _ _ _ _ _ ho hl h1
      have eo:ops=ops.toList.toArray:=by simp
      have hk:=k hg a w (fun e1 a' w'=>e1=.normal/\Nd RD WD M Ni C0 l Dl (mkL fn tm pa assign body D) (bf t0) tm E1.st p1 a' w') hr (fun a' w' h=>⟨rfl,h⟩)
      exact wpIn_region_list hk
  |_=>simp[kz]at h
end
def Ch:Option Code->Option Exit
 |none=>some .normal
 |some .ret=>some .ret
 |some (.exit id)=>some (.exit id)
 |_=>none
def Pl:Exit->Bool
 |.normal=>true
 |.ret=>true
 |_=>false
theorem Kh{e:Exit}(h:Pl e=true):e=.normal\/e=.ret:=by unfold Pl at h;split at h;exact .inl rfl;exact .inr rfl;cases h
noncomputable def adi(P:Program)(fuel:Nat)(f:ct)(No:Nat)(g:Operand)(pa:Array Tmp)(assign body:Code)(E:ESX):Option (Exit×ESX):=
 match aev (bf E.t) g with
 |.clo gf caps=>match P.funcs[gf]? with
  |none=>none
  |some fi=>match fi.body with
   |none=>none
   |some c=>bif bw P gf&&fi.results.isEmpty&&caps.all (fun x=>!isY x)&&Nat.ble (caps.length+1) fi.ntmps then(match ll 0 (yAV::caps) .nil with
    |none=>none
    |some t=>match kz fuel f No E.t pa.toList assign body fi.ntmps fuel c ⟨t,E.h,E.u,E.rd,E.wr⟩ none with
     |none=>none
     |some (ei,E',ph)=>bif Pl ei then(match Ch ph with
      |none=>none
      |some e=>some (e,⟨E.t,E'.h,E'.u,E'.rd,E'.wr⟩))else none)else none
 |_=>none
def Kv(D:Nat):Deferred:={target:=.collected D,args:=#[]}
def X3(RD WD:Nat->Prop)(M N:Nat)(C0:Ctx)(s:St)(Ds:List Nat)(a:Act)(w:World):Prop:=
 ∃C,C.w=w/\SRelX (Ds.map Kv) RD M N C s a/\FrX WD C0 C/\Ds.Nodup/\∀D∈Ds,Mark C0.w.heap.size C D (.deferred (some []))
def Rb(P:Program)(N:Nat)(c:Code)(E:ESX)(e:Exit)(E':ESX):Prop:=
 Mono E E'/\∀(RD WD:Nat->Prop) (M:Nat) (C0:Ctx) (q:Nat),Under RD WD M E.u E'->∀(Ds:List Nat) (a:Act) (w:World),X3 RD WD M N C0 E.st Ds a w->
  c.wpIn Fence.wide q P (fun e1 a' w'=>e1=e/\∃Ds',X3 RD WD M N C0 E'.st Ds' a' w') a w
theorem Rb.of{P:Program}{N:Nat}{c:Code}{E:ESX}{e:Exit}{E':ESX}(h:Ey P N c E e E'):Rb P N c E e E':=by obtain⟨m,k⟩:=h;refine⟨m,fun RD WD M C0 q hb Ds a w hr=>?_⟩;obtain⟨C,rfl,hs,hf,hc,hm⟩:=hr;refine Code.wpIn_mono ?_ (k RD WD M (fun e1 s1=>e1=e/\s1=E'.st) hb ⟨rfl,rfl⟩ Fence.wide FOk.wide q _ C a hs);rintro e1 a' w' ⟨s',C',⟨rfl,rfl⟩,rfl,hd,ha⟩;exact⟨rfl,Ds,C',rfl,hd,hf.trans ha,hc,fun D hD=>(hm D hD).ev ha.ev⟩
theorem zh{P:Program}{fn:Func}(h:fn.results.isEmpty=true)(tm:Array Value)(w:World):∃v,(results fn tm).run P w=.ok v w:=by have h0:fn.results=#[]:=(by simpa using h);exact⟨.tuple #[],by unfold results;rw[h0];simp⟩
theorem Uz{P:Program}{fuel:Nat}{f:ct}(hf:f.Ok P)(hm:P.follows .mixedOrders=true){No:Nat}{g:Operand}{pa:Array Tmp}{assign body:Code}{E E2:ESX}{e:Exit}(hl:At E.h E.u)
 (h:adi P fuel f No g pa assign body E=some (e,E2)):Rb P No (.rangeFunc g pa assign body) E e E2:=by
 unfold adi at h
 split at h
 ·rename_i gf caps hg
  split at h
  ·cases h
  ·rename_i fi g8
   split at h
   ·cases h
   ·rename_i c hc
    cases hb:(bw P gf&&fi.results.isEmpty&&caps.all (fun x=>!isY x)&&Nat.ble (caps.length+1) fi.ntmps)with
    |false=>rw[hb]at h;simp at h
    |true=>
     rw[hb]at h
     simp only[cond_true]at h
     simp only[ahq]at hb
     obtain⟨⟨⟨g9,ga⟩,gb⟩,gc⟩:=hb
     split at h
     ·cases h
     ·rename_i t ht
      split at h
      ·cases h
      ·rename_i ei E' ph hw
       cases ho:Pl ei with
       |false=>rw[ho]at h;simp at h
       |true=>
        rw[ho]at h
        simp only[cond_true]at h
        split at h
        ·cases h
        ·rename_i e' hh
         simp only[agv,Prod.mk.injEq]at h
         obtain⟨rfl,rfl⟩:=h
         obtain⟨m0,k⟩:=(Qr (No:=No) (t0:=E.t) (pa:=pa) (assign:=assign) (body:=body) (Ni:=fi.ntmps) hf hm fuel).1 c ⟨t,E.h,E.u,E.rd,E.wr⟩ none ei E' ph hl hw
         refine⟨⟨m0.rd,m0.wr,m0.u,m0.h,m0.low,m0.sub,m0.lrd⟩,fun RD WD M C0 q hq Ds a w hr=>?_⟩
         obtain⟨C,rfl,hs,g4,gd,hx⟩:=hr
         have ge:=hs.eval g
         have hy:VR C (.clo gf caps) (a.eval g):=by rw[<-hg];exact ge
         obtain⟨lb,hv,hll,gg⟩:=hy.clo_inv
         refine wpIn_rangeFunc fun fn _=>?_
         obtain⟨W1,g5⟩:∃W1,(C.w.alloc (.deferred (some []))).alloc (.loop (mkL fn a.tmps pa assign body C.w.heap.size .ready none))=W1:=⟨_,rfl⟩
         -- the world with the two new blocks
         have bk1:=Book.alloc C0.w.heap.size C (.deferred (some []))
         have g1:=bk1.good hs.good
         have bk2:=Book.alloc C0.w.heap.size (C.on (C.w.alloc (.deferred (some [])))) (.loop (mkL fn a.tmps pa assign body C.w.heap.size .ready none))
         have hz:C0.w.heap.size<=C.w.heap.size:=g4.ev.size
         have md1:=(Mark.new hs.good hz (.deferred (some []))).alloc (.loop (mkL fn a.tmps pa assign body C.w.heap.size .ready none))
         have hj:(C.on (C.w.alloc (.deferred (some [])))).w.heap.size=C.w.heap.size+1:=World.size_alloc _ _
         have ml1:=Mark.new (B:=C0.w.heap.size) g1 (by rw[hj];omega) (.loop (mkL fn a.tmps pa assign body C.w.heap.size .ready none))
         rw[hj]at ml1
         have hu:=(hs.on bk1).on bk2
         have g0:=(g4.on bk1).on bk2
         have g2:∀D∈Ds,Mark C0.w.heap.size ((C.on (C.w.alloc (.deferred (some [])))).on ((C.on (C.w.alloc (.deferred (some [])))).w.alloc (.loop (mkL fn a.tmps pa assign body C.w.heap.size .ready none)))) D (.deferred (some [])):=fun D hD=>((hx D hD).alloc _).alloc _
         refine⟨C.w.heap.size+1,[Kv C.w.heap.size],W1,{target:=.fn (.func gf) lb,args:=#[.func (.yield (C.w.heap.size+1)) #[] #[]]},W1,gf,#[Value.func (.yield (C.w.heap.size+1)) #[] #[]]++lb,W1,?_,?_,?_,?_,(fun e=>by cases e),?_⟩
         ·rw[<-g5];exact run_enterLoop_outer _ _ _ _ _
         ·simp only[resolve,hv]
          simp[go_sem]
         ·intro f' _;trivial
         ·simp[invoke,go_sem,eh g9]
         ·have g6:∀d∈C.w.heap.size::Ds,d≠C.w.heap.size+1:=by
           intro d hd
           rcases ahi.1 hd with rfl|hd
           ·omega
           ·have:=(hx d hd).lt
            omega
          have hn:Nd RD WD M fi.ntmps C0 (C.w.heap.size+1) (C.w.heap.size::Ds) (mkL fn a.tmps pa assign body C.w.heap.size) (bf E.t) a.tmps (⟨t,E.h,E.u,E.rd,E.wr⟩:ESX).st none
           {tmps:=(#[Value.func (.yield (C.w.heap.size+1)) #[] #[]]++lb)++Array.replicate (fi.ntmps-(#[Value.func (.yield (C.w.heap.size+1)) #[] #[]]++lb).size) undef,defers:=[]} W1:=by
           refine⟨_,g5,⟨hu.good,hu.η,hu.free,g0,ml1,fun d hd=>?_⟩,rfl,?_,fun k'=>?_,fun k'=>hu.τ k'⟩
           ·rcases ahi.1 hd with rfl|hd
            ·exact md1
            ·exact g2 d hd
           ·have:=ag9 gc
            simp
            omega
           ·have g3:(⟨t,E.h,E.u,E.rd,E.wr⟩:ESX).st.τ=cq (yAV::caps):=my ht
            rw[g3]
            simp only[Act.eval]
            rw[Array.getD_eq_getD_getElem?]
            cases k' with
            |zero=>
             have h1:yT (C.w.heap.size+1) (cq (yAV::caps)) 0=.v (.func (.yield (C.w.heap.size+1)) #[] #[]):=rfl
             rw[h1]
             have h2:(((#[Value.func (.yield (C.w.heap.size+1)) #[] #[]]++lb)++Array.replicate (fi.ntmps-(#[Value.func (.yield (C.w.heap.size+1)) #[] #[]]++lb).size) undef)[0]?).getD undef=.func (.yield (C.w.heap.size+1)) #[] #[]:=by
              rw[Array.getElem?_append_left (by simp;omega),Array.getElem?_append_left (by simp)]
              rfl
             rw[h2]
             exact VR.v _ _
            |succ k'=>
             by_cases hk:k'<caps.length
             ·have h1:yT (C.w.heap.size+1) (cq (yAV::caps)) (k'+1)=caps[k']:=by
               have h3:cq (yAV::caps) (k'+1)=caps[k']:=by simp[cq,hk]
               show Jb _ (cq (yAV::caps) (k'+1))=_
               rw[h3]
               refine va ?_
               have:=List.all_eq_true.1 gb caps[k'] (ags _)
               simpa using this
              have h2:(((#[Value.func (.yield (C.w.heap.size+1)) #[] #[]]++lb)++Array.replicate (fi.ntmps-(#[Value.func (.yield (C.w.heap.size+1)) #[] #[]]++lb).size) undef)[k'+1]?).getD undef=lb[k']'(by omega):=by
               rw[Array.getElem?_append_left (by simp;omega),Array.getElem?_append_right (by simp)]
               simp[show k'<lb.size by omega]
              rw[h1,h2]
              exact((gg k' hk (by omega)).on (bk1.T hs.good)).on (bk2.T g1)
             ·have h1:yT (C.w.heap.size+1) (cq (yAV::caps)) (k'+1)=.v undef:=by
               have h3:cq (yAV::caps) (k'+1)=.v undef:=by simp[cq,List.getElem?_eq_none (Nat.le_of_not_lt hk)]
               show Jb _ (cq (yAV::caps) (k'+1))=_
               rw[h3]
               rfl
              have h2:(((#[Value.func (.yield (C.w.heap.size+1)) #[] #[]]++lb)++Array.replicate (fi.ntmps-(#[Value.func (.yield (C.w.heap.size+1)) #[] #[]]++lb).size) undef)[k'+1]?).getD undef=undef:=by
               rw[Array.getElem?_append_right (by simp;omega),Array.getElem?_replicate]
               split<;>rfl
              rw[h1,h2]
              exact VR.v _ _
          refine callsIn_of_wp g8 hc trivial (Code.wpIn_mono ?_ (k RD WD M C0 (C.w.heap.size+1) C.w.heap.size (C.w.heap.size::Ds) fn a.tmps (q-1) g6 hs.size ⟨hq.rd,hq.wd,hq.u,hq.new⟩ _ W1 hn)) rfl
          rintro e1 a' w' ⟨rfl,C2,rfl,ha,hp,hN2,hτ2,gh⟩
          obtain⟨v,g7⟩:=zh (P:=P) ga a'.tmps C2.w
          have he:rangePost Fence.wide q P (C.w.heap.size+1) (fun e1 a' w'=>e1=e'/\∃Ds',X3 RD WD M No C0 (⟨E.t,E'.h,E'.u,E'.rd,E'.wr⟩:ESX).st Ds' a' w') {a with defers:=[Kv C.w.heap.size]++a.defers} (.returned v) C2.w:=by
           refine⟨_,_,run_endLoop ha.ml.here (by cases ph<;>simp[mkL,Xw]),?_⟩
           have bk:=ha.ml.book (.loop {mkL fn a.tmps pa assign body C.w.heap.size (Xw ph) ph with state:=.exhausted})
           have hi:X3 RD WD M No C0 (⟨E.t,E'.h,E'.u,E'.rd,E'.wr⟩:ESX).st (C.w.heap.size::Ds) {a with defers:=[Kv C.w.heap.size]++a.defers} (C2.w.putObj (C.w.heap.size+1) (.loop {mkL fn a.tmps pa assign body C.w.heap.size (Xw ph) ph with state:=.exhausted})):=by
            refine⟨C2.on _,rfl,⟨bk.good ha.good,ha.η,ha.free,by simp[hs.defers],hs.size,fun k'=>(gh k').on (bk.T ha.good)⟩,ha.fr.on bk,List.nodup_cons.2 ⟨fun hd=>?_,gd⟩,fun d hd=>(ha.md d hd).other (g6 d hd) _⟩
            have:=(hx _ hd).lt
            omega
           cases ph with
           |none=>
            simp only[Ch,agv]at hh
            exact⟨hh,_,hi⟩
           |some c=>
            cases c with
            |ret=>
             simp only[Ch,agv]at hh
             exact wpIn_ret ⟨hh,_,hi⟩
            |exit id=>
             simp only[Ch,agv]at hh
             exact wpIn_exit ⟨hh,_,hi⟩
            |_=>simp[Ch]at hh
          rcases Kh ho with rfl|rfl
          ·exact⟨hp,v,g7,he⟩
          ·exact⟨hp,v,g7,he⟩
 ·cases h
noncomputable def Em(P:Program)(N fuel:Nat)(f:ct):Code->ESX->Option (Exit×ESX)
 |.seq x y=>fun E=>match Em P N fuel f x E with
  |some (.normal,E1)=>Em P N fuel f y E1
  |r=>r
 |.block id c=>fun E=>match Em P N fuel f c E with
  |some (.exit i,E1)=>bif Nat.beq i id then some (.normal,E1)else some (.exit i,E1)
  |r=>r
 |.rangeFunc g pa a b=>fun E=>adi P fuel f N g pa a b E
 |c=>fun E=>jo N fuel f c E
theorem Hd{P:Program}{N fuel:Nat}{f:ct}(hf:f.Ok P)(hm:P.follows .mixedOrders=true):∀(c:Code) (E:ESX) (e:Exit) (E':ESX),At E.h E.u->Em P N fuel f c E=some (e,E')->Rb P N c E e E':=by
 intro c;induction c with
 |seq x y ihx ihy=>
  intro E e E' hl h
  simp only[Em]at h
  split at h
  ·rename_i E1 h1
   obtain⟨m1,k1⟩:=ihx E _ E1 hl h1
   obtain⟨m2,k2⟩:=ihy E1 e E' (m1.low hl) h
   refine⟨m1.trans m2,fun RD WD M C0 q ha Ds a w hr=>wpIn_seq ?_⟩
   refine Code.wpIn_mono ?_ (k1 RD WD M C0 q (ha.back m2) Ds a w hr)
   rintro e1 a' w' ⟨rfl,Ds',hc⟩
   exact k2 RD WD M C0 q (ha.up m1.u) Ds' a' w' hc
  ·rename_i hd
   obtain⟨m1,k1⟩:=ihx E e E' hl h
   refine⟨m1,fun RD WD M C0 q ha Ds a w hr=>wpIn_seq ?_⟩
   refine Code.wpIn_mono ?_ (k1 RD WD M C0 q ha Ds a w hr)
   rintro e1 a' w' ⟨rfl,hc⟩
   cases e1 with
   |normal=>exact absurd h (hd _)
   |_=>exact⟨rfl,hc⟩
 |block id c ih=>
  intro E e E' hl h
  simp only[Em]at h
  split at h
  ·rename_i i E1 h1
   obtain⟨m1,k1⟩:=ih E _ E1 hl h1
   have hg:E'=E1/\((i=id/\e=.normal)\/(i≠id/\e=.exit i)):=by
    cases hb:Nat.beq i id with
    |true=>
     rw[hb]at h
     simp only[cond_true,agv,Prod.mk.injEq]at h
     obtain⟨rfl,rfl⟩:=h
     exact⟨rfl,.inl ⟨agu hb,rfl⟩⟩
    |false=>
     rw[hb]at h
     simp only[cond_false,agv,Prod.mk.injEq]at h
     obtain⟨rfl,rfl⟩:=h
     exact⟨rfl,.inr ⟨fun e=>(by subst e;rw[Nat.beq_refl]at hb;cases hb),rfl⟩⟩
   obtain⟨rfl,he⟩:=hg
   refine⟨m1,fun RD WD M C0 q ha Ds a w hr=>wpIn_block ?_⟩
   refine Code.wpIn_mono ?_ (k1 RD WD M C0 q ha Ds a w hr)
   rintro e1 a' w' ⟨rfl,hc⟩
   simp only[Exit.inBlock]
   rcases he with⟨h1,h2⟩|⟨h1,h2⟩
   ·rw[ag1 h1];exact⟨h2.symm,hc⟩
   ·rw[ag0 h1];exact⟨h2.symm,hc⟩
  ·rename_i hd
   obtain⟨m1,k1⟩:=ih E e E' hl h
   refine⟨m1,fun RD WD M C0 q ha Ds a w hr=>wpIn_block ?_⟩
   refine Code.wpIn_mono ?_ (k1 RD WD M C0 q ha Ds a w hr)
   rintro e1 a' w' ⟨rfl,hc⟩
   cases e1 with
   |exit i=>exact absurd h (hd _ _)
   |_=>exact⟨rfl,hc⟩
 |rangeFunc g pa a b _ _=>
  intro E e E' hl h
  exact Uz hf hm hl h
 |_=>intro E e E' hl h;exact .of (mz (fuel:=fuel) hf hm _ _ _ _ hl h)
theorem tk{P:Program}{fn:Func}{tm:Array Value}{R:Ending->World->Prop}{B q:Nat}:∀(Ds:List Nat) (C:Ctx),Good C->Ds.Nodup->(∀D∈Ds,Mark B C D (.deferred (some [])))->
 (∀w',Book B C w'->∃v,(results fn tm).run P w'=.ok v w'/\R (.returned v) w')->LeavesInM Fence.wide q P fn tm R (Ds.map Kv) .returning C.w
 |[],C,hg,_,_,hK=>by show LeavesIn Fence.wide q P fn tm R [] .returning C.w;exact hK C.w ⟨rfl,rfl,rfl,ag7 _,fun _ _ _=>rfl⟩
 |D::Ds,C,hg,ha,he,hK=>by have hD:=he D (by simp);have bk:=hD.book (.deferred none);exact⟨by simp,.inl ⟨D,_,rfl,run_takeDeferred hD.here,tk Ds (C.on (C.w.putObj D (.deferred none))) (bk.good hg) (List.nodup_cons.1 ha).2 (fun d hd=>(he d (by simp[hd])).other (fun e=>(List.nodup_cons.1 ha).1 (by rw[<-e];exact hd)) _) (fun w' hb=>hK w' ⟨hb.os.trans bk.os,hb.tape.trans bk.tape,hb.output.trans bk.output,aha bk.size hb.size,fun k hk hc=>(hb.heap k (Nat.lt_of_lt_of_le hk bk.size) hc).trans (bk.heap k hk hc)⟩)⟩⟩
theorem xr{P:Program}{f:FuncId}{fn:Func}{c:Code}{N:Nat}{args:List AV}{η:bi}{r:Rc}{τ0:Nat->AV}{e0:Exit}{s1:St}(hf:P.funcs[f]? =some fn)(hb:fn.body=some c)(hN:fn.ntmps=N)(hl:args.length<=N)(hτ0:τ0=cq args)(hj:Fits η r)(hηn:∀id,r.u0<=id->η id=none)
 (h:∀C0 q Ds a w,X3 (fun id=>r.F.testBit id=true\/(r.u0<=id/\id<r.u)) (fun id=>r.D id=true) r.u N C0 ⟨τ0,η,r.u0⟩ Ds a w->c.wpIn Fence.wide q P (fun e1 a' w'=>e1=e0/\∃Ds',X3 (fun id=>r.F.testBit id=true\/(r.u0<=id/\id<r.u)) (fun id=>r.D id=true) r.u N C0 s1 Ds' a' w') a w)
 (he:e0=.normal\/e0=.ret)(hη':∀id,r.D id=true->s1.η id=r.η id)(ho:Xn P (fun id=>r.F.testBit id=true\/(r.u0<=id/\id<r.u)) r.u N fn s1 r.v):Ew P f args η r:=by
 intro C vals hg ⟨hlen,hv⟩ hF hn
 subst hτ0
 have hh:∀id,r.u0<=id->id<r.u->C.η id=none:=fun id h1 h2=>by
  cases hb':C.η id with
  |none=>rfl
  |some b=>exact absurd (hg.used hb') (hn id h1 h2)
 have hr:SRelX [] (fun id=>r.F.testBit id=true\/(r.u0<=id/\id<r.u)) r.u N C ⟨cq args,η,r.u0⟩ {tmps:=vals++Array.replicate (fn.ntmps-vals.size) undef,defers:=[]}:=by
  refine⟨hg,fun id hq=>hq.elim (hF id) (fun h=>(hh id h.1 h.2).trans (hηn id h.1).symm),hn,rfl,by simp;omega,fun t=>?_⟩
  simp only[Act.eval,cq]
  by_cases ht:t<args.length
  ·have h1:args.getD t (.v undef)=args[t]:=by simp[List.getD,ht]
   have h2:(vals++Array.replicate (fn.ntmps-vals.size) undef).getD t undef=vals[t]'(by omega):=by
    rw[Array.getD_eq_getD_getElem?,Array.getElem?_append_left (by omega)]
    simp[show t<vals.size by omega]
   rw[h1,h2]
   exact hv t ht (by omega)
  ·have h1:args.getD t (.v undef)=.v undef:=by simp[List.getD,List.getElem?_eq_none (Nat.le_of_not_lt ht)]
   have h2:(vals++Array.replicate (fn.ntmps-vals.size) undef).getD t undef=undef:=by
    rw[Array.getD_eq_getD_getElem?,Array.getElem?_append_right (by omega)]
    rw[Array.getElem?_replicate]
    split<;>rfl
   rw[h1,h2]
   exact VR.v _ _
 refine callsIn_wide (n:=0).1 (callsIn_of_wp_marks hf hb trivial (Code.wpIn_mono ?_ (h C 0 [] _ C.w ⟨C,rfl,hr,FrX.refl C,List.nodup_nil,fun D hD=>by cases hD⟩)) rfl)
 rintro e a' w' ⟨rfl,Ds',C',rfl,hk,hs,hu,hw⟩
 have hi:∀w',Book C.w.heap.size C' w'->∃v,(results fn a'.tmps).run P w'=.ok v w'/\∃x' C'',(Ending.returned v)=.returned x'/\C''.w=w'/\(∀id,C''.η id=if r.D id=true then r.η id else C.η id)/\(∀id,C''.U id->C.U id\/r.D id=true)/\Good C''/\Ev C C''/\VR C'' r.v x':=by
  intro w' hp
  have hm:=hk.on hp
  have ha:=hs.on hp
  obtain⟨x,h1,h2⟩:=ho _ _ a' hm
  refine⟨x,h1,x,C'.on w',rfl,rfl,fun id=>?_,ha.U,hm.good,ha.ev,h2⟩
  by_cases hd:r.D id=true
  ·rw[ag1 hd,<-hη' id hd]
   refine hm.η id ?_
   rcases Rc.D_iff.1 hd with h3|h3
   ·exact .inl (hj.sub id h3)
   ·exact .inr h3
  ·rw[ag0 hd]
   exact ha.η id hd
 have hc:=tk (P:=P) (fn:=fn) (tm:=a'.tmps) (q:=0) (R:=fun e w'=>∃x C'',e=.returned x/\C''.w=w'/\(∀id,C''.η id=if r.D id=true then r.η id else C.η id)/\(∀id,C''.U id->C.U id\/r.D id=true)/\Good C''/\Ev C C''/\VR C'' r.v x) Ds' C' hk.good hu hw hi
 rw[<-hk.defers]at hc
 rcases he with rfl|rfl
 ·exact hc
 ·exact hc
theorem Lv{P:Program}{f:FuncId}{fn:Func}{c:Code}{ys:List AV}{h:Tri (Option Blk)}{u:Nat}{t:Tri AV}{e:Exit}{E:ESX}{r:Rx}(hf:P.funcs[f]? =some fn)(hb:fn.body=some c)(hl:ys.length<=fn.ntmps)(ht:ll 0 ys .nil=some t)
 (hg:At h u)(he:e=.normal\/e=.ret)(hk:Rb P fn.ntmps c ⟨t,h,u,0,0⟩ e E)(hc:N2 P fn E u=some r):r.u0=u/\Fits (be h) r.rc/\Ew P f ys (be h) r.rc:=by
 unfold N2 at hc
 split at hc
 ·cases hc
 ·rename_i m vs hm
  rw[iu,iu]at hc
  simp only[agv]at hc
  subst hc
  obtain⟨mo,hn⟩:=hk
  have hd:=mo.low hg
  have hh:=mo.sub (fun id ha=>by simp at ha)
  have hi:=mo.lrd (fun id ha=>by simp at ha)
  have hu:u<=E.u:=mo.u
  have ho:∀id,(Nat.lor E.rd m).testBit id=(E.rd.testBit id||m.testBit id):=fun id=>Nat.testBit_or ..
  have hF:∀id,(A1 (Nat.lor E.rd m) u).testBit id=true↔(id<u/\(E.rd.testBit id=true\/m.testBit id=true)):=fun id=>by rw[uu,ho,Bool.or_eq_true]
  have hW:∀id,(A1 E.wr u).testBit id=true↔(id<u/\E.wr.testBit id=true):=fun id=>uu
  have hD:∀id,(Rx.rc ⟨A1 (Nat.lor E.rd m) u,A1 E.wr u,u,E.u,E.h,Sp vs⟩).D id=true↔((id<u/\E.wr.testBit id=true)\/(u<=id/\id<E.u)):=fun id=>by
   rw[Rc.D_iff]
   show((A1 E.wr u).testBit id=true\/(u<=id/\id<E.u))↔_
   rw[hW]
  have hj:Fits (be h) (Rx.rc ⟨A1 (Nat.lor E.rd m) u,A1 E.wr u,u,E.u,E.h,Sp vs⟩):=by
   refine⟨hu,fun id ha=>?_,fun id ha=>?_,fun id ha=>((hF id).1 ha).1⟩
   ·show be E.h id=be h id
    by_cases h1:id<u
    ·refine mo.h id h1 ?_
     cases hw:E.wr.testBit id with
     |false=>rfl
     |true=>rw[(hD id).2 (.inl ⟨h1,hw⟩)]at ha;cases ha
    ·by_cases h2:id<E.u
     ·rw[(hD id).2 (.inr ⟨by omega,h2⟩)]at ha;cases ha
     ·rw[hd id (by omega),hg id (by omega)]
   ·obtain⟨h1,h2⟩:=(hW id).1 ha
    exact(hF id).2 ⟨h1,.inl (hh id h2)⟩
  refine⟨rfl,hj,xr (e0:=e) (s1:=E.st) hf hb rfl hl (my ht) hj hg (fun C0 q Ds a w hr=>hn _ _ _ C0 q ?_ Ds a w hr) he (fun id _=>rfl) ?_⟩
  ·refine⟨fun id ha=>?_,fun id ha=>(hD id).2 ?_,ag7 _,fun id h1 h2=>⟨.inr ⟨h1,h2⟩,(hD id).2 (.inr ⟨h1,h2⟩)⟩⟩
   ·by_cases h1:id<u
    ·exact .inl ((hF id).2 ⟨h1,.inl ha⟩)
    ·exact .inr ⟨by show u<=id;omega,hi id ha⟩
   ·by_cases h1:id<u
    ·exact .inl ⟨h1,ha⟩
    ·exact .inr ⟨by omega,hi id (hh id ha)⟩
  ·refine oq (zj _ _ _ (fun id b hb' hp=>?_) hm)
   ·by_cases h1:id<u
    ·exact .inl ((hF id).2 ⟨h1,.inr hp⟩)
    ·refine .inr ⟨by show u<=id;omega,?_⟩
     show id<E.u
     by_cases h2:id<E.u
     ·exact h2
     ·rw[hd id (by omega)]at hb';cases hb'
theorem VR.tup_inv'{C:Ctx}{cs:List AV}{x:Value}(h:VR C (.tup cs) x):∃vs:Array Value,x=.tuple vs/\cs.length=vs.size/\∀i (h:i<cs.length) (h':i<vs.size),VR C cs[i] vs[i]:=by
 cases h with
 |tup hl hi=>exact⟨_,rfl,hl,hi⟩
 |imm h=>cases h with
  |tup hl hi=>exact⟨_,rfl,hl,fun i h h'=>.imm (hi i h h')⟩
theorem FzP.tup{fp:List Nat}{η:bi}{cs ds:List AV}(hl:cs.length=ds.length)(h:∀i (h:i<cs.length) (h':i<ds.length),FzP fp η cs[i] ds[i]):FzP fp η (.tup cs) (.tup ds):=fun C hg hη x hx=>by obtain⟨vs,rfl,h1,h2⟩:=hx.tup_inv';exact .tup (by omega) (fun i hi ha=>h i (by omega) hi C hg hη _ (h2 i (by omega) ha))
def fzT(η:bi)(a:AV):Option (List Nat×AV):=match a with
 |.tup cs=>match C8 (fz η 64) cs with
  |some (fp,ds)=>some (fp,.tup ds)
  |none=>none
 |a=>fz η 64 a
theorem Z8{η:bi}{a:AV}{fp:List Nat}{r:AV}(h:fzT η a=some (fp,r)):FzP fp η a r:=by
 unfold fzT at h
 split at h
 ·rename_i cs
  cases h1:C8 (fz η 64) cs with
  |none=>rw[h1]at h;cases h
  |some q=>
   obtain⟨fp1,ds⟩:=q
   rw[h1]at h
   simp only[agv,Prod.mk.injEq]at h
   obtain⟨rfl,rfl⟩:=h
   obtain⟨hl,hi⟩:=sn (Lk 64) _ _ _ h1
   exact FzP.tup hl.symm (fun i h h'=>hi i h h')
 ·exact Lk _ _ _ _ h
abbrev Tab:=List (Nat×List AV×AV)
def Im:Tab->d7
 |[],_,_=>none
 |e::r,f,ys=>bif Nat.beq e.1 f then(bif Ix (xj 64) ys e.2.1 then some e.2.2 else Im r f ys)else Im r f ys
theorem Ac{P:Program}:∀{L:Tab},(∀e∈L,b8 P e.1 e.2.1 e.2.2)->∀f ys ret,Im L f ys=some ret->b8 P f ys ret
 |[],_,f,ys,ret,h=>by cases h
 |e::r,hL,f,ys,ret,h=>by
  simp only[Im]at h
  have ih:=Ac (fun e he=>hL e (List.mem_cons_of_mem _ he)) f ys ret
  cases h1:Nat.beq e.1 f with
  |false=>rw[h1]at h;simp only[cond_false]at h;exact ih h
  |true=>
   rw[h1]at h
   simp only[cond_true]at h
   cases h2:Ix (xj 64) ys e.2.1 with
   |false=>rw[h2]at h;simp only[cond_false]at h;exact ih h
   |true=>
    rw[h2]at h
    simp only[cond_true,agv]at h
    subst h
    have e1:=agu h1
    have e2:ys=e.2.1:=om (fun a b h=>Fy _ _ _ h) _ _ h2
    subst e1
    rw[e2]
    exact hL e (List.mem_cons_self ..)
def orR(a b:d7):d7:=fun f ys=>match a f ys with
 |some r=>some r
 |none=>b f ys
theorem Sr{P:Program}{a b:d7}(ha:∀f ys ret,a f ys=some ret->b8 P f ys ret)(hb:∀f ys ret,b f ys=some ret->b8 P f ys ret):∀f ys ret,orR a b f ys=some ret->b8 P f ys ret:=by intro f ys ret h;unfold orR at h;split at h;rename_i r hr;simp only[agv]at h;subst h;exact ha _ _ _ hr;exact hb _ _ _ h
def inN(l:List Nat)(f:Nat):Bool:=match l with
 |[]=>false
 |a::r=>bif Nat.beq f a then true else inN r f
def u8s:List AV->Option (List UInt8)
 |[]=>some []
 |.v (.int .u8 (.ofNat n))::r=>bif Nat.blt n 256 then(match u8s r with|some l=>some (UInt8.ofNat n::l)|none=>none)else none
 |_=>none
theorem Ry:∀{news:List AV} {l:List UInt8},u8s news=some l->news.length=l.length/\∀j (h:j<news.length) (h':j<l.length),news[j]=.v (.int .u8 ((l[j].toNat:Nat):Int))
 |[],l,h=>by
  simp only[u8s,agv]at h
  subst h
  exact⟨rfl,fun j h=>absurd h (by simp)⟩
 |a::r,l,h=>by
  unfold u8s at h
  split at h
  ·rename_i ha;cases ha
  ·rename_i n r' ha
   obtain⟨rfl,rfl⟩:=List.cons.inj ha
   cases hn:Nat.blt n 256 with
   |false=>rw[hn]at h;cases h
   |true=>
    rw[hn]at h
    simp only[cond_true]at h
    split at h
    ·rename_i l' hl
     simp only[agv]at h
     subst h
     obtain⟨h1,h2⟩:=Ry hl
     have hlt:n<256:=ag9 hn
     refine⟨by simp[h1],fun j hj hb=>?_⟩
     cases j with
     |zero=>
      simp only[List.getElem_cons_zero]
      have:(UInt8.ofNat n).toNat=n:=by simp[UInt8.toNat_ofNat'];omega
      rw[this];rfl
     |succ j=>simp only[List.getElem_cons_succ];exact h2 j (by simpa using hj) (by simpa using hb)
    ·cases h
  ·cases h
section
variable{P:Program}{τ:Nat->AV}{η:bi}{d:Option Tmp}{ty:TypeId}{pos:String}{af:Array Edge}{g:Option (Nat×Bool)}
theorem tf{src dst e m:Nat}{x:Operand}{fp:List Nat}{news:List AV}{l:List UInt8}(hs:P.underlying src=some (.slice e))(he:P.underlying e=some (.int .u8))(hd:P.underlying dst=some .string)(hb:Src η fp (aev τ x) m news)(hn:u8s news=some l)(hm:m=l.length):
 LOp P ⟨d,.convert src dst x,ty,pos,af,g⟩ τ η fp [] (.v (.string ⟨l.toArray⟩)):=
 .look fp fun C a hg hh hi=>by
  obtain⟨hl,hk⟩:=Ry hn;have h1:=hh x (by simp[Op.operands])
  rcases hb C hg hi _ h1 with⟨h0,h00,ad,c,hx⟩|⟨ad,c,vals,hx,hvl,hv,hr⟩;have ho:l=[]:=ahk (by omega)
  subst ho;refine⟨.string ⟨#[]⟩,?_,VR.v C _⟩
  have ha:(convert src dst (.slice ad 0 c)).run P C.w=.ok (.string ⟨#[]⟩) C.w:=by
   cases ad with
   |none=>
    rw[run_convert_bytes_string C.w src dst e none 0 c hs he hd]
    simp[Conv.bytesToString]
    rfl
   |some ad=>exact run_convert_bytes_back C.w src dst e ad c [] hs he hd (fun j hj=>absurd hj (by simp))
  simp only[execOp,hx,Sem.run_bind,ha,ahb,ahc];refine⟨.string ⟨l.toArray⟩,?_,VR.v C _⟩;have ha:(convert src dst (.slice (some ad) m c)).run P C.w=.ok (.string ⟨l.toArray⟩) C.w:=by rw[hm];refine run_convert_bytes_back C.w src dst e ad c l hs he hd (fun j hj=>?_);have hc:j<news.length:=(by omega);have hf:j<vals.length:=(by omega);have h3:=hr j hc hf;rw[hk j hc hj]at h3;rw[hv j _ (agt hf),h3.v_inv]
  simp only[execOp,hx,Sem.run_bind,ha,ahb,ahc]
end
def Tq(P:Program)(E:ESX)(o:Oper):Option Rec:=match o.op with
 |.convert s t x=>match P.underlying s,P.underlying t with
  |some (.slice e),some .string=>match P.underlying e with
   |some (.int .u8)=>match abv (be E.h) 1 (aev (bf E.t) x)with
    |some (fp,m,news)=>match u8s news with
     |some l=>bif Nat.beq m l.length then some ⟨fp,[],.v (.string ⟨l.toArray⟩),E.u⟩else none
     |none=>none
    |none=>none
   |_=>none
  |_,_=>none
 |_=>none
def ka(P:Program):ct:=fun o E=>match Wj P o E with
 |some r=>some r
 |none=>match Tq P E o with
  |some r=>zl E r
  |none=>none
theorem ux{P:Program}:(ka P).Ok P:=by
 intro o E r hl h
 unfold ka at h
 split at h
 ·rename_i r' hr
  simp only[agv]at h
  subst h
  exact Qj _ _ _ hl hr
 ·split at h
  ·rename_i r' hr
   refine o0 h ?_
   obtain⟨d,op,ty,pos,af,g⟩:=o
   unfold Tq at hr
   split at hr
   ·rename_i s t x ha
    simp only at ha
    subst ha
    split at hr
    ·rename_i e hs ht
     split at hr
     ·rename_i he
      split at hr
      ·rename_i fp m news hb
       split at hr
       ·rename_i l hu
        cases hm:Nat.beq m l.length with
        |false=>rw[hm]at hr;cases hr
        |true=>
         rw[hm]at hr
         simp only[cond_true,agv]at hr
         subst hr
         exact tf hs he ht (Jt hb).1 hu (agu hm)
       ·cases hr
      ·cases hr
     ·cases hr
    ·cases hr
   ·cases hr
  ·cases h
end Go.Proofs.YtbhhmbchdponjaaGreatDoor
