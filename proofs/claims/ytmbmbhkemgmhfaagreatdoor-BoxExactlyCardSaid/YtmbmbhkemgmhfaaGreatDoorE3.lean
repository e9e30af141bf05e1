/- Texts of the claim. -/
import Derived.RangeFuncIn
import Derived.LoopNIn
import Derived.Laws.IdiomStrings
import Derived.Test.YtmbmbhkemgmhfaaGreatDoorE1
import Derived.Test.YtmbmbhkemgmhfaaGreatDoorE2
namespace Go.Proofs.YtmbmbhkemgmhfaaGreatDoor
set_option linter.unusedVariables false
set_option linter.unusedSimpArgs false
open Go.RowKit
section
variable{α:Type}
noncomputable def U1(p:List Bool):Tri α->α->Option (Tri α):=
 List.rec (motive:=fun _=>Tri α->α->Option (Tri α))
  (fun t a=>Tri.rec (motive:=fun _=>Option (Tri α)) (some (.node (some a) .nil .nil)) (fun _ l r _ _=>some (.node (some a) l r)) t)
  (fun b _ ih t a=>Tri.rec (motive:=fun _=>Option (Tri α))
   (Bool.rec (motive:=fun _=>Option (Tri α)) (Option.rec (motive:=fun _=>Option (Tri α)) none (fun r=>some (.node none .nil r)) (ih .nil a)) (Option.rec (motive:=fun _=>Option (Tri α)) none (fun l=>some (.node none l .nil)) (ih .nil a)) b)
   (fun v l r _ _=>Bool.rec (motive:=fun _=>Option (Tri α)) (Option.rec (motive:=fun _=>Option (Tri α)) none (fun r'=>some (.node v l r')) (ih r a)) (Option.rec (motive:=fun _=>Option (Tri α)) none (fun l'=>some (.node v l' r)) (ih l a)) b) t) p
theorem vg:∀(p:List Bool) (t:Tri α) (a:α),U1 p t a=cj p t a
 |[],t,a=>by cases t<;>rfl
 |b::p,t,a=>by
  have e:U1 (b::p) t a=Tri.rec (motive:=fun _=>Option (Tri α))
   (Bool.rec (motive:=fun _=>Option (Tri α)) (Option.rec (motive:=fun _=>Option (Tri α)) none (fun r=>some (.node none .nil r)) (U1 p .nil a)) (Option.rec (motive:=fun _=>Option (Tri α)) none (fun l=>some (.node none l .nil)) (U1 p .nil a)) b)
   (fun v l r _ _=>Bool.rec (motive:=fun _=>Option (Tri α)) (Option.rec (motive:=fun _=>Option (Tri α)) none (fun r'=>some (.node v l r')) (U1 p r a)) (Option.rec (motive:=fun _=>Option (Tri α)) none (fun l'=>some (.node v l' r)) (U1 p l a)) b) t:=rfl
  rw[e];cases t with
  |nil=>
   cases b with
   |true=>simp only[vg p,cj];cases cj p .nil a<;>rfl
   |false=>simp only[vg p,cj];cases cj p .nil a<;>rfl
  |node v l r=>
   cases b with
   |true=>simp only[vg p,cj];cases cj p l a<;>rfl
   |false=>simp only[vg p,cj];cases cj p r a<;>rfl
noncomputable def ady(k:Nat)(t:Tri α)(a:α):Option (Tri α):=Bool.rec (motive:=fun _=>Option (Tri α)) none (U1 (xm 24 k) t a) (Nat.ble k 16777214)
theorem U2(k:Nat)(t:Tri α)(a:α):ady k t a=Tri.set 24 t k a:=by
 unfold ady Tri.set
 cases Nat.ble k 16777214 with
 |true=>exact vg _ _ _
 |false=>rfl
end
noncomputable def H5(dst:Option Nat)(E:ESX)(r:Rx):Option ESX:=
 Option.rec (motive:=fun _=>Option ESX) (some ⟨E.t,r.h,r.u,Nat.lor E.rd r.F,Nat.lor E.wr r.W⟩) (fun d=>Option.rec (motive:=fun _=>Option ESX) none (fun t=>some ⟨t,r.h,r.u,Nat.lor E.rd r.F,Nat.lor E.wr r.W⟩) (ady d E.t r.v)) dst
theorem Pk(dst:Option Nat)(E:ESX)(r:Rx):H5 dst E r=E.step dst r:=by
 unfold H5 ESX.step
 rw[ij,ij,ij]
 cases dst with
 |none=>rfl
 |some d=>
  simp only[U2,Cc]
  cases Tri.set 24 E.t d r.v<;>rfl
noncomputable def P6(f:cm)(ops:Array Oper)(l:List Oper):ESX->List Rx->Option (List Rx×ESX):=
 List.rec (motive:=fun _=>ESX->List Rx->Option (List Rx×ESX)) (fun E acc=>some (acc,E))
  (fun o _ ih E acc=>Option.rec (motive:=fun _=>Option (List Rx×ESX)) none
   (fun w=>Bool.rec (motive:=fun _=>Option (List Rx×ESX))
    (Option.rec (motive:=fun _=>Option (List Rx×ESX)) none (fun E'=>ih E' (⟨0,0,E.u,E.u,E.h,.v undef⟩::acc)) (H5 o.dst E ⟨0,0,E.u,E.u,E.h,.v undef⟩))
    (Option.rec (motive:=fun _=>Option (List Rx×ESX)) none (fun r=>Option.rec (motive:=fun _=>Option (List Rx×ESX)) none (fun E'=>ih E' (r::acc)) (H5 o.dst E r)) (f o E)) w)
   (Option.rec (motive:=fun _=>Option Bool) (some true) (fun _=>m3 ops (bc E.t) o) o.guard)) l
theorem Ec{f:cm}{ops:Array Oper}:∀(l:List Oper) (E:ESX) (acc:List Rx),P6 f ops l E acc=(jz f ops l E).map fun q=>(q.1.reverse++acc,q.2)
 |[],E,acc=>rfl
 |o::l,E,acc=>by
  have hw:(Option.rec (motive:=fun _=>Option Bool) (some true) (fun _=>m3 ops (bc E.t) o) o.guard)=m3 ops (bc E.t) o:=by
   unfold m3
   cases hg:o.guard<;>rfl
  have e:P6 f ops (o::l) E acc=Option.rec (motive:=fun _=>Option (List Rx×ESX)) none
   (fun w=>Bool.rec (motive:=fun _=>Option (List Rx×ESX))
    (Option.rec (motive:=fun _=>Option (List Rx×ESX)) none (fun E'=>P6 f ops l E' (⟨0,0,E.u,E.u,E.h,.v undef⟩::acc)) (H5 o.dst E ⟨0,0,E.u,E.u,E.h,.v undef⟩))
    (Option.rec (motive:=fun _=>Option (List Rx×ESX)) none (fun r=>Option.rec (motive:=fun _=>Option (List Rx×ESX)) none (fun E'=>P6 f ops l E' (r::acc)) (H5 o.dst E r)) (f o E)) w)
   (Option.rec (motive:=fun _=>Option Bool) (some true) (fun _=>m3 ops (bc E.t) o) o.guard):=rfl
  rw[e,hw]
  simp only[jz,Pk]
  cases m3 ops (bc E.t) o with
  |none=>rfl
  |some w=>
   cases w with
   |false=>
    simp only
    cases E.step o.dst ⟨0,0,E.u,E.u,E.h,.v undef⟩with
    |none=>rfl
    |some E'=>
     simp only[Ec l]
     cases jz f ops l E' with
     |none=>rfl
     |some q=>simp
   |true=>
    simp only
    cases f o E with
    |none=>rfl
    |some r=>
     simp only
     cases E.step o.dst r with
     |none=>rfl
     |some E'=>
      simp only[Ec l]
      cases jz f ops l E' with
      |none=>rfl
      |some q=>simp
noncomputable def yk{β:Type}(n:Nat)(k:Nat->Option β):Option β:=Nat.rec (motive:=fun _=>Option β) (k 0) (fun m _=>k (m+1)) n
theorem n6{β:Type}(n:Nat)(k:Nat->Option β):yk n k=k n:=by cases n<;>rfl
noncomputable def F7{β:Type}(E:ESX)(w:Nat)(k:ESX->Option β):Option β:=yk E.rd fun rd=>yk (Nat.lor E.wr w) fun wr=>yk E.u fun u=>k ⟨E.t,E.h,u,rd,wr⟩
theorem Bj{β:Type}(E:ESX)(w:Nat)(k:ESX->Option β):F7 E w k=k ⟨E.t,E.h,E.u,E.rd,Nat.lor E.wr w⟩:=by unfold F7;rw[n6,n6,n6]
abbrev Out:=Option (Exit×ESX)
noncomputable def Lz(r:ESX->Out)(fuel:Nat):ESX->Out:=
 Nat.rec (motive:=fun _=>ESX->Out) (fun _=>none) (fun _ ih E=>match r E with
  |none=>none
  |some (e,E')=>match e with
   |.normal=>ih E'
   |.exit id=>some (.exit id,E')
   |.ret=>some (.ret,E')
   |_=>none) fuel
noncomputable def jg(N fuel:Nat)(f:cm):Code->ESX->Out
 |.skip=>fun E=>some (.normal,E)
 |.ret=>fun E=>some (.ret,E)
 |.exit id=>fun E=>some (.exit id,E)
 |.seq x y=>fun E=>match jg N fuel f x E with
  |none=>none
  |some (e,E')=>match e with
   |.normal=>jg N fuel f y E'
   |.exit id=>some (.exit id,E')
   |.ret=>some (.ret,E')
   |_=>none
 |.cond c x y=>fun E=>match yi c E with
  |.v (.bool true)=>jg N fuel f x E
  |.v (.bool false)=>jg N fuel f y E
  |_=>none
 |.block id c=>fun E=>match jg N fuel f c E with
  |none=>none
  |some (e,E')=>match e with
   |.normal=>some (.normal,E')
   |.exit id'=>bif Nat.beq id' id then some (.normal,E')else some (.exit id',E')
   |.ret=>some (.ret,E')
   |_=>none
 |.loop c=>Lz (jg N fuel f c) fuel
 |.region id ops drawn=>bif Ha N ops then
  (bif drawn then
   (fun E=>match P6 f ops ops.toList ⟨E.t,E.h,E.u,E.rd,0⟩ []with
   |none=>none
   |some (rs,E')=>bif (Ao ops E.u rs.reverse E'||zb f ops ⟨E.t,E.h,E.u,E.rd,0⟩ rs.reverse)then F7 E' E.wr fun E'=>some (.normal,E')else none)
  else fun E=>match P6 f ops ops.toList E []with
   |none=>none
   |some (_,E')=>F7 E' 0 fun E'=>some (.normal,E'))
  else fun _=>none
 |_=>fun _=>none
noncomputable def Kp(P:Program)(ov:FuncId->Bool)(ovr:fj)(ext:cm)(steps:Nat):Nat->Fp
 |0,_,_,_,_=>none
 |n+1,f,ys,h,u=>match P.funcs[f]? with
  |none=>none
  |some fn=>match fn.body with
   |none=>none
   |some c=>bif Nat.ble ys.length fn.ntmps then
    match kg 0 ys .nil with
    |none=>none
    |some t=>match jg fn.ntmps steps (opF P ov ovr (Kp P ov ovr ext steps n) ext) c ⟨t,h,u,0,0⟩with
     |some (.normal,E)=>O0 P fn E u
     |some (.ret,E)=>O0 P fn E u
     |_=>none
    else none
noncomputable def zh(P:Program)(ov:FuncId->Bool)(ovr:fj)(ext:cm)(steps depth:Nat)(f:FuncId)(ys:List AV):Option AV:=match Kp P ov ovr ext steps depth f ys .nil 0 with
 |none=>none
 |some r=>match fz (be r.h) 64 r.v with
  |none=>none
  |some (_,ret)=>some ret
theorem Gf{f:cm}{ops:Array Oper}{l:List Oper}{E E':ESX}{rs:List Rx}(h:P6 f ops l E []=some (rs,E')):jz f ops l E=some (rs.reverse,E'):=by
 rw[Ec]at h
 cases hr:jz f ops l E with
 |none=>rw[hr]at h;cases h
 |some q=>
  rw[hr]at h
  simp only[ahp,agw,Prod.mk.injEq,List.append_nil]at h
  obtain⟨h1,h2⟩:=h
  rw[<-h1,List.reverse_reverse,<-h2]
def Ff(P:Program)(N:Nat)(c:Code)(E:ESX)(e:Exit)(E':ESX):Prop:=
 Mono E E'/\∀(RD WD:Nat->Prop) (M:Nat) (Q:Exit->St->Prop),Under RD WD M E.u E'->Q e E'.st->tq P RD WD M N c Q E.st
theorem mq{P:Program}{N fuel:Nat}{f:cm}(hf:f.Ok P)(hm:P.follows .mixedOrders=true):∀(c:Code) (E:ESX) (e:Exit) (E':ESX),Ax E.h E.u->jg N fuel f c E=some (e,E')->Ff P N c E e E':=by
 intro c;induction c with
 |skip=>
  intro E e E' hl h
  simp only[jg,agw,Prod.mk.injEq]at h
  obtain⟨rfl,rfl⟩:=h
  exact⟨Mono.refl _,fun RD WD M Q _ hq=>tq.skip hq⟩
 |ret=>
  intro E e E' hl h
  simp only[jg,agw,Prod.mk.injEq]at h
  obtain⟨rfl,rfl⟩:=h
  exact⟨Mono.refl _,fun RD WD M Q _ hq=>tq.ret hq⟩
 |exit id=>
  intro E e E' hl h
  simp only[jg,agw,Prod.mk.injEq]at h
  obtain⟨rfl,rfl⟩:=h
  exact⟨Mono.refl _,fun RD WD M Q _ hq=>tq.exit hq⟩
 |seq x y ihx ihy=>
  intro E e E' hl h
  simp only[jg]at h
  cases h1:jg N fuel f x E with
  |none=>rw[h1]at h;cases h
  |some q=>
   obtain⟨e1,E1⟩:=q
   rw[h1]at h
   obtain⟨m1,k1⟩:=ihx E e1 E1 hl h1
   cases e1 with
   |normal=>
    obtain⟨m2,k2⟩:=ihy E1 e E' (m1.low hl) h
    exact⟨m1.trans m2,fun RD WD M Q h0 hq=>tq.seq (k1 RD WD M _ (h0.back m2) (k2 RD WD M Q (h0.up m1.u) hq))⟩
   |exit id=>
    simp only[agw,Prod.mk.injEq]at h
    obtain⟨rfl,rfl⟩:=h
    exact⟨m1,fun RD WD M Q h0 hq=>tq.seq (k1 RD WD M _ h0 hq)⟩
   |ret=>
    simp only[agw,Prod.mk.injEq]at h
    obtain⟨rfl,rfl⟩:=h
    exact⟨m1,fun RD WD M Q h0 hq=>tq.seq (k1 RD WD M _ h0 hq)⟩
   |_=>simp at h
 |cond c x y ihx ihy=>
  intro E e E' hl h
  simp only[jg]at h
  split at h
  ·rename_i hc
   rw[db]at hc
   obtain⟨m1,k1⟩:=ihx E e E' hl h
   exact⟨m1,fun RD WD M Q h0 hq=>tq.condT hc (k1 RD WD M Q h0 hq)⟩
  ·rename_i hc
   rw[db]at hc
   obtain⟨m1,k1⟩:=ihy E e E' hl h
   exact⟨m1,fun RD WD M Q h0 hq=>tq.condF hc (k1 RD WD M Q h0 hq)⟩
  ·cases h
 |block id c ih=>
  intro E e E' hl h
  simp only[jg]at h
  cases h1:jg N fuel f c E with
  |none=>rw[h1]at h;cases h
  |some q=>
   obtain⟨e1,E1⟩:=q
   rw[h1]at h
   obtain⟨m1,k1⟩:=ih E e1 E1 hl h1
   cases e1 with
   |normal=>
    simp only[agw,Prod.mk.injEq]at h
    obtain⟨rfl,rfl⟩:=h
    exact⟨m1,fun RD WD M Q h0 hq=>tq.block (k1 RD WD M _ h0 hq)⟩
   |exit id'=>
    simp only at h
    cases hb:Nat.beq id' id with
    |true=>
     rw[hb]at h
     simp only[cond_true,agw,Prod.mk.injEq]at h
     obtain⟨rfl,rfl⟩:=h
     exact⟨m1,fun RD WD M Q h0 hq=>tq.block (k1 RD WD M _ h0 (by simp only[t8,hb,cond_true];exact hq))⟩
    |false=>
     rw[hb]at h
     simp only[cond_false,agw,Prod.mk.injEq]at h
     obtain⟨rfl,rfl⟩:=h
     exact⟨m1,fun RD WD M Q h0 hq=>tq.block (k1 RD WD M _ h0 (by simp only[t8,hb,cond_false];exact hq))⟩
   |ret=>
    simp only[agw,Prod.mk.injEq]at h
    obtain⟨rfl,rfl⟩:=h
    exact⟨m1,fun RD WD M Q h0 hq=>tq.block (k1 RD WD M _ h0 hq)⟩
   |_=>simp at h
 |loop c ih=>
  intro E e E' hl h
  simp only[jg]at h
  have key:∀(n:Nat) (E:ESX) (e:Exit) (E':ESX),Ax E.h E.u->Lz (jg N fuel f c) n E=some (e,E')->Mono E E'/\∀(RD WD:Nat->Prop) (M:Nat) (Q:Exit->St->Prop),Under RD WD M E.u E'->Q e E'.st->
   ∃I:Nat->St->Prop,(∀m s,I m s->tq P RD WD M N c (andThen (fun s'=>∃m',m'<m/\I m' s') Q) s)/\I n E.st:=by
   intro n
   induction n with
   |zero=>intro E e E' hl h;simp[Lz]at h
   |succ n ihn=>
    intro E e E' hl h
    have h7:Lz (jg N fuel f c) (n+1) E=(match jg N fuel f c E with
     |none=>none
     |some (e,E')=>match e with
      |.normal=>Lz (jg N fuel f c) n E'
      |.exit id=>some (.exit id,E')
      |.ret=>some (.ret,E')
      |_=>none):=rfl
    rw[h7]at h
    cases h1:jg N fuel f c E with
    |none=>rw[h1]at h;cases h
    |some q=>
     obtain⟨e1,E1⟩:=q
     rw[h1]at h
     obtain⟨m1,k1⟩:=ih E e1 E1 hl h1
     have once:∀(e2:Exit),e1=e2->e2≠.normal->e=e2->E'=E1->Mono E E'/\∀(RD WD:Nat->Prop) (M:Nat) (Q:Exit->St->Prop),Under RD WD M E.u E'->Q e E'.st->
      ∃I:Nat->St->Prop,(∀m s,I m s->tq P RD WD M N c (andThen (fun s'=>∃m',m'<m/\I m' s') Q) s)/\I (n+1) E.st:=by
      rintro e2 rfl ho rfl rfl
      refine⟨m1,fun RD WD M Q h0 hq=>⟨fun m s=>s=E.st,fun m s hs=>?_,rfl⟩⟩
      subst hs
      refine k1 RD WD M _ h0 ?_
      cases e<;>first|exact absurd rfl ho|exact hq
     cases e1 with
     |normal=>
      obtain⟨m2,k2⟩:=ihn E1 e E' (m1.low hl) h
      refine⟨m1.trans m2,fun RD WD M Q h0 hq=>?_⟩
      obtain⟨I,i1,i2⟩:=k2 RD WD M Q (h0.up m1.u) hq
      refine⟨fun m s=>(m<=n/\I m s)\/(m=n+1/\s=E.st),fun m s hp=>?_,.inr ⟨rfl,rfl⟩⟩
      rcases hp with⟨hle,hI⟩|⟨rfl,rfl⟩
      ·refine(i1 m s hI).mono fun e s' hi=>?_
       cases e with
       |normal=>
        obtain⟨m',ht,hv⟩:=hi
        exact⟨m',ht,.inl ⟨by omega,hv⟩⟩
       |_=>exact hi
      ·exact k1 RD WD M _ (h0.back m2) ⟨n,Nat.lt_succ_self n,.inl ⟨ag8 _,i2⟩⟩
     |exit id=>
      simp only[agw,Prod.mk.injEq]at h
      exact once (.exit id) rfl (by intro e;cases e) h.1.symm h.2.symm
     |ret=>
      simp only[agw,Prod.mk.injEq]at h
      exact once .ret rfl (by intro e;cases e) h.1.symm h.2.symm
     |_=>simp at h
  obtain⟨m1,k1⟩:=key fuel E e E' hl h
  refine⟨m1,fun RD WD M Q h0 hq=>?_⟩
  obtain⟨I,i1,i2⟩:=k1 RD WD M Q h0 hq
  exact tq.loop I i1 i2
 |region id ops drawn=>
  intro E e E' hl h
  simp only[jg]at h
  cases hd:Ha N ops with
  |false=>rw[hd]at h;simp at h
  |true=>
   rw[hd]at h
   simp only[cond_true]at h
   have hj:∀o∈ops.toList,iv N ops o=true:=List.all_eq_true.1 hd
   have eo:ops=ops.toList.toArray:=by simp
   have h8:∀(Eb E1:ESX) (r:Rx) (RD WD:Nat->Prop) (M:Nat),(∀id,E.u<=id->id<M->RD id/\WD id)->RunOk Eb E1 r->Eb.u=E.u->(∀id,E1.rd.testBit id=true->RD id)->(∀id,E1.wr.testBit id=true->WD id)->E1.u<=M->Inn RD WD M r.rc:=by
    intro Eb E1 r RD WD M hn hr hu h1 h2 h3
    have:=hr.u0
    have:=hr.u
    refine⟨fun id h4=>h1 id (hr.F id h4),fun id a b=>(hn id ?_ ?_).1,fun id h4=>?_,ahb hr.u h3⟩
    ·have ha:r.u0<=id:=a
     omega
    ·have hb:id<r.u:=b
     omega
    ·rcases Rc.D_iff.1 h4 with h5|⟨h5,h6⟩
     ·exact h2 id (hr.W id h5)
     ·have ha:r.u0<=id:=h5
      have hb:id<r.u:=h6
      exact(hn id (by omega) (by omega)).2
   cases drawn with
   |true=>
    simp only[cond_true]at h
    cases h1:P6 f ops ops.toList ⟨E.t,E.h,E.u,E.rd,0⟩ []with
    |none=>rw[h1]at h;cases h
    |some q=>
     obtain⟨rs,E1⟩:=q
     rw[h1]at h
     simp only at h
     cases hc:(Ao ops E.u rs.reverse E1||zb f ops ⟨E.t,E.h,E.u,E.rd,0⟩ rs.reverse)with
     |false=>rw[hc]at h;simp at h
     |true=>
      rw[hc]at h
      simp only[cond_true,Bj,agw,Prod.mk.injEq]at h
      obtain⟨rfl,rfl⟩:=h
      obtain⟨hs,m1,hr⟩:=x6 hf (N:=N) _ ⟨E.t,E.h,E.u,E.rd,0⟩ _ _ hj hl (Gf h1)
      have he:∀id,(Nat.lor E1.wr E.wr).testBit id=(E1.wr.testBit id||E.wr.testBit id):=fun id=>Nat.testBit_or ..
      refine⟨⟨m1.rd,fun id h4=>?_,m1.u,fun id h4 hw=>?_,m1.low,fun hs id h4=>?_,m1.lrd⟩,fun RD WD M Q h0 hq=>?_⟩
      ·show(Nat.lor E1.wr E.wr).testBit id=true
       rw[he,h4,Bool.or_true]
      ·have hk:(Nat.lor E1.wr E.wr).testBit id=false:=hw
       rw[he,Bool.or_eq_false_iff]at hk
       exact m1.h id h4 hk.1
      ·have h9:(Nat.lor E1.wr E.wr).testBit id=true:=h4
       rw[he,Bool.or_eq_true]at h9
       rcases h9 with h5|h5
       ·exact m1.sub (fun id h=>by simp at h) id h5
       ·exact m1.rd id (hs id h5)
      ·have hI:∀r∈rs.reverse.map Rx.rc,Inn RD WD M r:=fun r hg=>by
        obtain⟨x,hx,rfl⟩:=ahj.1 hg
        exact h8 _ _ x RD WD M h0.new (hr x hx) rfl h0.rd (fun id h4=>h0.wd id (by
         show(Nat.lor E1.wr E.wr).testBit id=true
         rw[he,h4,Bool.true_or])) h0.u
       rw[Bool.or_eq_true]at hc
       rw[eo]
       rcases hc with hc|hc
       ·have hh:DrawOk ops.toList (rs.reverse.map Rx.rc):=Iv (E:=⟨E.t,E.h,E.u,E.rd,0⟩) (by rw[<-eo];exact hs) hr (by rw[<-eo];exact hc)
        exact tq.regionD hm (by rw[<-eo];exact hs) hh hI hq
       ·obtain⟨sa,hh⟩:=H6 hf (P:=P) (N:=N) (l:=ops.toList) (E:=⟨E.t,E.h,E.u,E.rd,0⟩) (E':=E1) hl (by rw[<-eo];exact hs) (by rw[<-eo];exact hc)
        exact Dh hm (by rw[<-eo];exact hs) hh hI hq
   |false=>
    simp only[cond_false]at h
    cases h1:P6 f ops ops.toList E []with
    |none=>rw[h1]at h;cases h
    |some q=>
     obtain⟨rs,E1⟩:=q
     rw[h1]at h
     simp only[Bj,agw,Prod.mk.injEq]at h
     have e1:(⟨E1.t,E1.h,E1.u,E1.rd,Nat.lor E1.wr 0⟩:ESX)=E1:=by
      have:Nat.lor E1.wr 0=E1.wr:=Nat.or_zero _
      rw[this]
     rw[e1]at h
     obtain⟨rfl,rfl⟩:=h
     obtain⟨hs,m1,hr⟩:=x6 hf (N:=N) _ _ _ _ hj hl (Gf h1)
     refine⟨m1,fun RD WD M Q h0 hq=>?_⟩
     rw[eo]
     refine tq.region (by rw[<-eo];exact hs) (fun r hg=>?_) hq
     obtain⟨x,hx,rfl⟩:=ahj.1 hg
     exact h8 _ _ x RD WD M h0.new (hr x hx) rfl h0.rd h0.wd h0.u
 |_=>intro E e E' hl h;simp[jg]at h
theorem Ah{P:Program}{f:FuncId}{fn:Func}{c:Code}{ys:List AV}{h:Tri (Option Blk)}{u:Nat}{t:Tri AV}{e:Exit}{E:ESX}{r:Rx}(hf:P.funcs[f]? =some fn)(hb:fn.body=some c)(hl:ys.length<=fn.ntmps)(ht:kg 0 ys .nil=some t)
 (h5:Ax h u)(he:e=.normal\/e=.ret)(h9:Ff P fn.ntmps c ⟨t,h,u,0,0⟩ e E)(h3:O0 P fn E u=some r):r.u0=u/\Fits (be h) r.rc/\Fd P f ys (be h) r.rc:=by
 unfold O0 at h3
 split at h3
 ·cases h3
 ·rename_i m vs ha
  rw[ij,ij]at h3
  simp only[agw]at h3
  subst h3
  obtain⟨mo,hc⟩:=h9
  have h4:=mo.low h5
  have h6:=mo.sub (fun id h0=>by simp at h0)
  have h7:=mo.lrd (fun id h0=>by simp at h0)
  have hu:u<=E.u:=mo.u
  have hd:∀id,(Nat.lor E.rd m).testBit id=(E.rd.testBit id||m.testBit id):=fun id=>Nat.testBit_or ..
  have hF:∀id,(A6 (Nat.lor E.rd m) u).testBit id=true↔(id<u/\(E.rd.testBit id=true\/m.testBit id=true)):=fun id=>by rw[ui,hd,Bool.or_eq_true]
  have hW:∀id,(A6 E.wr u).testBit id=true↔(id<u/\E.wr.testBit id=true):=fun id=>ui
  have hD:∀id,(Rx.rc ⟨A6 (Nat.lor E.rd m) u,A6 E.wr u,u,E.u,E.h,Sz vs⟩).D id=true↔((id<u/\E.wr.testBit id=true)\/(u<=id/\id<E.u)):=fun id=>by
   rw[Rc.D_iff]
   show((A6 E.wr u).testBit id=true\/(u<=id/\id<E.u))↔_
   rw[hW]
  have h8:Fits (be h) (Rx.rc ⟨A6 (Nat.lor E.rd m) u,A6 E.wr u,u,E.u,E.h,Sz vs⟩):=by
   refine⟨hu,fun id h0=>?_,fun id h0=>?_,fun id h0=>((hF id).1 h0).1⟩
   ·show be E.h id=be h id
    by_cases h1:id<u
    ·refine mo.h id h1 ?_
     cases hw:E.wr.testBit id with
     |false=>rfl
     |true=>rw[(hD id).2 (.inl ⟨h1,hw⟩)]at h0;cases h0
    ·by_cases h2:id<E.u
     ·rw[(hD id).2 (.inr ⟨by omega,h2⟩)]at h0;cases h0
     ·rw[h4 id (by omega),h5 id (by omega)]
   ·obtain⟨h1,h2⟩:=(hW id).1 h0
    exact(hF id).2 ⟨h1,.inl (h6 id h2)⟩
  refine⟨rfl,h8,Fd.of_body hf hb rfl hl (j6 ht) h8 h5 ?_⟩
  refine hc _ _ _ _ ⟨fun id h0=>?_,fun id h0=>(hD id).2 ?_,ag8 _,fun id h1 h2=>⟨.inr ⟨h1,h2⟩,(hD id).2 (.inr ⟨h1,h2⟩)⟩⟩ ⟨he,fun id _=>rfl,oa (zo _ _ _ (fun id b hb' hg=>?_) ha)⟩
  ·by_cases h1:id<u
   ·exact .inl ((hF id).2 ⟨h1,.inl h0⟩)
   ·exact .inr ⟨by show u<=id;omega,h7 id h0⟩
  ·by_cases h1:id<u
   ·exact .inl ⟨h1,h0⟩
   ·exact .inr ⟨by omega,h7 id (h6 id h0)⟩
  ·by_cases h1:id<u
   ·exact .inl ((hF id).2 ⟨h1,.inr hg⟩)
   ·refine .inr ⟨by show u<=id;omega,?_⟩
    show id<E.u
    by_cases h2:id<E.u
    ·exact h2
    ·rw[h4 id (by omega)]at hb';cases hb'
theorem Pt{P:Program}{ov:FuncId->Bool}{ovr:fj}{ext:cm}(hm:P.follows .mixedOrders=true)(ho:∀f ys ret,ovr f ys=some ret->eu P f ys ret)(h2:ext.Ok P){steps:Nat}:∀(n:Nat),Fp.Ok P (Kp P ov ovr ext steps n):=by
 intro n
 induction n with
 |zero=>intro f ys h u r _ hr;simp[Kp]at hr
 |succ n ih=>
  intro f ys h u r h0 hr
  simp only[Kp]at hr
  split at hr
  ·cases hr
  ·rename_i fn hf
   split at hr
   ·cases hr
   ·rename_i c hb
    cases hl:Nat.ble ys.length fn.ntmps with
    |false=>rw[hl]at hr;simp at hr
    |true=>
     rw[hl]at hr
     simp only[cond_true]at hr
     split at hr
     ·cases hr
     ·rename_i t ht
      split at hr
      ·rename_i E h1
       exact Ah hf hb (aha hl) ht h0 (.inl rfl) (mq (vx ho ih h2) hm _ _ _ _ h0 h1) hr
      ·rename_i E h1
       exact Ah hf hb (aha hl) ht h0 (.inr rfl) (mq (vx ho ih h2) hm _ _ _ _ h0 h1) hr
      ·cases hr
theorem U5{P:Program}{ov:FuncId->Bool}{ovr:fj}{ext:cm}(hm:P.follows .mixedOrders=true)(ho:∀f ys ret,ovr f ys=some ret->eu P f ys ret)(h0:ext.Ok P){steps depth:Nat}{f:FuncId}{ys:List AV}{ret:AV}(h:zh P ov ovr ext steps depth f ys=some ret):eu P f ys ret:=by unfold zh at h;split at h;cases h;rename_i r hr;split at h;cases h;rename_i fp ret' hz;simp only[agw]at h;subst h;have hη0:be .nil=m4:=u5;obtain⟨h1,h2,h3⟩:=Pt hm ho h0 depth f ys .nil 0 r (fun id _=>by rw[hη0];rfl) hr;rw[hη0]at h2 h3;exact yq h2 (Mk 64 _ _ _ hz) h3
theorem SRelX.step2{DS:List Deferred}{RD WD:Nat->Prop}{M N:Nat}{s:St}{C C':Ctx}{a:Act}{o:Oper}{r:Rc}{x:Value}(hr:SRelX DS RD M N C s a)(hd:∀d,o.dst=some d->d<N)(hu:r.u0=s.u)(h0:Fits s.η r)(hi:Inn RD WD M r)(h1:∀id,C'.η id=if r.D id=true then r.η id else C.η id)(h2:∀id,C'.U id->C.U id\/r.D id=true)(hg:Good C')(he:Ev C C')(hv:VR C' r.v x):
 SRelX DS RD M N C' (rz o r s) (a.put o.dst x)/\FrX WD C C':=by
 refine⟨hr.put he hg (fun id h4=>?_) (fun id hle h5 h6=>?_) hd hv,he,fun id h4=>?_,fun id h4=>(h2 id h4).imp (fun h=>h) (hi.wd id)⟩
 ·rw[h1 id]
  cases hd:r.D id with
  |true=>rw[ag2 rfl]
  |false=>rw[ag1 (by simp),hr.η id h4,h0.same id hd]
 ·rcases h2 id h6 with h|h
  ·exact hr.free id (by have:=h0.le;omega) h5 h
  ·rcases Rc.D_iff.1 h with h3|h3
   ·have:=h0.low id (h0.sub id h3)
    have:=h0.le
    omega
   ·omega
 ·rw[h1 id,ag1 (fun hd=>h4 (hi.wd id hd))]
structure Book(B:Nat)(C:Ctx)(w':World):Prop where
 os:w'.os=C.w.os
 tape:w'.tape=C.w.tape
 output:w'.output=C.w.output
 size:C.w.heap.size<=w'.heap.size
 heap:∀k,k<C.w.heap.size->(k<B\/C.mine k\/C.T k)->w'.heap[k]? =C.w.heap[k]?
def Ctx.on(C:Ctx)(w':World):Ctx:={C with w:=w'}
theorem VR.on{C:Ctx}{w':World}(hT:∀k,C.T k->w'.heap[k]? =C.w.heap[k]?){a:AV}{x:Value}(h:VR C a x):VR (C.on w') a x:=by
 induction h with
 |imm h=>exact .imm (h.mono (fun _ h=>h) (fun k hk=>hT k hk))
 |ptr h1 h2 h3=>exact .ptr (C:=C.on w') h1 h2 h3
 |sl h1 h2 h3 h4 h5 h6 h7=>exact .sl (C:=C.on w') h1 h2 h3 h4 h5 h6 h7
 |slz h1 h2 h3=>exact .slz (C:=C.on w') h1 h2 h3
 |slnil h1 h2 h3=>exact .slnil (C:=C.on w') h1 h2 h3
 |mp h1 h2 h3=>exact .mp (C:=C.on w') h1 h2 h3
 |it h1 h2 h3=>exact .it (C:=C.on w') h1 h2 h3
 |stalem h1 h2 h3=>exact .stalem (C:=C.on w') h1 h2 h3
 |stalei h1 h2 h3=>exact .stalei (C:=C.on w') h1 h2 h3
 |stalep h1 h2 h3=>exact .stalep (C:=C.on w') h1 h2 h3
 |stales h1 h2 h3=>exact .stales (C:=C.on w') h1 h2 h3
 |agg hl _ ih=>exact .agg hl ih
 |tup hl _ ih=>exact .tup hl ih
 |clo hl _ ih=>exact .clo hl ih
theorem ObjR.on{C:Ctx}{w':World}(hT:∀k,C.T k->w'.heap[k]? =C.w.heap[k]?){cs:List AV}{o:Obj}(ho:ObjR C cs o):ObjR (C.on w') cs o:=by
 cases ho with
 |map hl hi=>exact .map hl (fun i h1 h2=>⟨(hi i h1 h2).1,(hi i h1 h2).2.1.on hT,(hi i h1 h2).2.2⟩)
 |siter=>exact .siter
 |miter0=>exact .miter0
 |miter hv=>exact .miter (hv.on hT)
theorem Good.on{C:Ctx}{w':World}(hg:Good C)(hT:∀k,C.T k->w'.heap[k]? =C.w.heap[k]?)(hm:∀k,C.mine k->w'.heap[k]? =C.w.heap[k]?):Good (C.on w') where
 used:=hg.used
 obj:=fun{id b} hb hk=>by obtain⟨o,h,ho⟩:=hg.obj hb hk;exact⟨o,(hm _ ⟨id,⟨b,hb,by rw[hk];decide⟩,rfl⟩).trans h,ho.on hT⟩
 blk:=fun{id b} hb hn=>by obtain⟨c,t',g1,g2,g3,g4⟩:=hg.blk hb hn;exact⟨c,t',(hm _ ⟨id,⟨b,hb,di hn⟩,rfl⟩).trans g1,g2,g3,fun j h h'=>(g4 j h h').on hT⟩
 inj:=hg.inj
 tok:=⟨fun k hk=>by have h1:=hg.tlt hk;have h2:=hT k hk;rw[Array.getElem?_eq_getElem h1]at h2;exact(Array.getElem?_eq_some_iff.1 h2).1,hg.tok.glob.mono (fun _ h=>h) hT⟩
 apart:=hg.apart
 tight:=hg.tight
theorem Book.T{B:Nat}{C:Ctx}{w':World}(hg:Good C)(h:Book B C w'):∀k,C.T k->w'.heap[k]? =C.w.heap[k]?:=fun k hk=>h.heap k (hg.tlt hk) (.inr (.inr hk))
theorem Book.mine{B:Nat}{C:Ctx}{w':World}(hg:Good C)(h:Book B C w'):∀k,C.mine k->w'.heap[k]? =C.w.heap[k]?:=fun k hk=>h.heap k (cr hg hk) (.inr (.inl hk))
theorem Book.good{B:Nat}{C:Ctx}{w':World}(hg:Good C)(h:Book B C w'):Good (C.on w'):=hg.on (h.T hg) (h.mine hg)
theorem SRelX.on{DS:List Deferred}{RD:Nat->Prop}{B M N:Nat}{C:Ctx}{s:St}{a:Act}{w':World}(hr:SRelX DS RD M N C s a)(h:Book B C w'):SRelX DS RD M N (C.on w') s a:=
 ⟨h.good hr.good,hr.η,hr.free,hr.defers,hr.size,fun t=>(hr.τ t).on (h.T hr.good)⟩
theorem FrX.on{WD:Nat->Prop}{C0 C:Ctx}{w':World}(hf:FrX WD C0 C)(h:Book C0.w.heap.size C w'):FrX WD C0 (C.on w') where
 ev:={
  os:=h.os.trans hf.ev.os
  tape:=h.tape.trans hf.ev.tape
  output:=h.output.trans hf.ev.output
  size:=ahb hf.ev.size h.size
  keep:=fun k hk hm=>(h.heap k (Nat.lt_of_lt_of_le hk hf.ev.size) (.inl hk)).trans (hf.ev.keep k hk hm)
  mine:=hf.ev.mine
  T:=hf.ev.T
  Tnew:=hf.ev.Tnew
  U:=hf.ev.U
  old:=hf.ev.old}
 η:=hf.η
 U:=hf.U
structure Mark(B:Nat)(C:Ctx)(k:Nat)(o:Obj):Prop where
 ge:B<=k
 here:C.w.heap[k]? =some o
 mine:¬C.mine k
 T:¬C.T k
theorem Mark.lt{B:Nat}{C:Ctx}{k:Nat}{o:Obj}(h:Mark B C k o):k<C.w.heap.size:=(Array.getElem?_eq_some_iff.1 h.here).1
theorem Mark.ev{B:Nat}{C C':Ctx}{k:Nat}{o:Obj}(h:Mark B C k o)(he:Ev C C'):Mark B C' k o:=
 ⟨h.ge,(he.keep k h.lt h.mine).trans h.here,fun hm=>(he.mine k hm).elim h.mine (fun hle=>by have:=h.lt;omega),fun ht=>by rcases he.Tnew k ht with h1|h1|h1;exact h.T h1;exact h.mine h1;have:=h.lt;omega⟩
theorem Mark.book{B:Nat}{C:Ctx}{k:Nat}{o:Obj}(h:Mark B C k o)(o':Obj):Book B C (C.w.putObj k o'):=
 ⟨rfl,rfl,rfl,by simp[World.putObj],fun j hj hc=>World.putObj_heap_other (fun e=>by subst e;rcases hc with h1|h1|h1;have:=h.ge;omega;exact h.mine h1;exact h.T h1)⟩
theorem Mark.put{B:Nat}{C:Ctx}{k:Nat}{o:Obj}(h:Mark B C k o)(o':Obj):Mark B (C.on (C.w.putObj k o')) k o':=
 ⟨h.ge,World.putObj_heap_same h.lt,h.mine,h.T⟩
theorem Mark.other{B:Nat}{C:Ctx}{k j:Nat}{o:Obj}(h:Mark B C k o)(h0:k≠j)(o':Obj):Mark B (C.on (C.w.putObj j o')) k o:=
 ⟨h.ge,(World.putObj_heap_other h0).trans h.here,h.mine,h.T⟩
theorem Book.alloc(B:Nat)(C:Ctx)(o:Obj):Book B C (C.w.alloc o):=
 ⟨rfl,rfl,rfl,by simp,fun k hk _=>Below.heap_alloc C.w o k hk⟩
theorem Mark.new{B:Nat}{C:Ctx}(hg:Good C)(hB:B<=C.w.heap.size)(o:Obj):Mark B (C.on (C.w.alloc o)) C.w.heap.size o:=
 ⟨hB,World.alloc_heap_new C.w o,fun hm=>Nat.lt_irrefl _ (cr hg hm),fun ht=>Nat.lt_irrefl _ (hg.tlt ht)⟩
theorem Mark.alloc{B:Nat}{C:Ctx}{k:Nat}{o:Obj}(h:Mark B C k o)(o':Obj):Mark B (C.on (C.w.alloc o')) k o:=
 ⟨h.ge,(Below.heap_alloc C.w o' k h.lt).trans h.here,h.mine,h.T⟩
def yAV:AV:=.v (.func (.yield 0) #[] #[])
def isY:AV->Bool
 |.v (.func (.yield _) _ _)=>true
 |_=>false
def Jv(l:Nat)(a:AV):AV:=bif isY a then .v (.func (.yield l) #[] #[])else a
def yT(l:Nat)(τ:Nat->AV):Nat->AV:=fun t=>Jv l (τ t)
theorem uy{l:Nat}{a:AV}(h:isY a=false):Jv l a=a:=by unfold Jv;rw[h];rfl
theorem Ju{l:Nat}{a:AV}(h:isY a=true):Jv l a=.v (.func (.yield l) #[] #[]):=by unfold Jv;rw[h];rfl
theorem N7{l:Nat}{τ:Nat->AV}{x:Operand}(h:isY (aev τ x)=false):aev (yT l τ) x=aev τ x:=by
 cases x with
 |tmp t=>exact uy h
 |_=>rfl
theorem Rn{l:Nat}{τ:Nat->AV}{x:Operand}{b:Bool}(h:aev τ x=.v (.bool b)):aev (yT l τ) x=.v (.bool b):=by rw[N7 (by rw[h];rfl),h]
theorem Jt{l:Nat}{τ:Nat->AV}{d:Option Nat}{v:AV}:yT l (j1 τ d v)=j1 (yT l τ) d (Jv l v):=by
 funext t
 cases d with
 |none=>rfl
 |some d=>
  show Jv l (upd τ d v t)=upd (yT l τ) d (Jv l v) t
  unfold upd yT
  cases Nat.beq t d<;>rfl
theorem adk{l:Nat}{τ:Nat->AV}{ops:Array Oper}{o:Oper}:m3 ops (yT l τ) o=m3 ops τ o:=by
 unfold m3;split;rfl;split;rfl;rename_i d _;cases hy:isY (τ d)with
 |false=>
  have e:yT l τ d=τ d:=uy hy
  rw[e]
 |true=>
  have e:yT l τ d=.v (.func (.yield l) #[] #[]):=Ju hy
  rw[e]
  generalize τ d=x at hy
  unfold isY at hy
  split at hy
  ·rfl
  ·cases hy
theorem re.congr{P:Program}{o:Oper}{τ τ':Nat->AV}{η:bf}{r:Rc}(h:re P o τ η r)(he:∀x∈o.op.operands,aev τ' x=aev τ x):re P o τ' η r:=
 fun C a hg hx hF hN K Q hK=>h C a hg (fun x hm=>by rw[<-he x hm];exact hx x hm) hF hN K Q hK
inductive VRl(C:Ctx):List AV->List Value->Prop where
 |nil:VRl C [] []
 |cons {a:AV} {x:Value} {as:List AV} {xs:List Value}:VR C a x->VRl C as xs->VRl C (a :: as) (x :: xs)
def D8(N:Nat):List Nat->List AV->Tri AV->Option (Tri AV)
 |[],[],t=>some t
 |p::ps,v::vs,t=>bif Nat.ble (p+1) N then(match Tri.set 24 t p v with
  |none=>none
  |some t'=>D8 N ps vs t')else none
 |_,_,_=>none
theorem Bq{C:Ctx}{N:Nat}:∀(ps:List Nat) (vs:List AV) (xs:List Value) (t t1:Tri AV) (tm:Array Value),D8 N ps vs t=some t1->VRl C vs xs->tm.size=N->(∀k,VR C (bc t k) (tm.getD k undef))->
 ps.length=xs.length/\((ps.zip xs).foldl (fun tm q=>tm.setIfInBounds q.1 q.2) tm).size=N/\∀k,VR C (bc t1 k) (((ps.zip xs).foldl (fun tm q=>tm.setIfInBounds q.1 q.2) tm).getD k undef)
 |[],[],xs,t,t1,tm,h,hv,hs,hr=>by cases hv;simp only[D8,agw]at h;subst h;exact⟨rfl,hs,hr⟩
 |[],_::_,_,_,_,_,h,_,_,_=>by simp[D8]at h
 |_::_,[],_,_,_,_,h,_,_,_=>by simp[D8]at h
 |p::ps,v::vs,xs,t,t1,tm,h,hv,hs,hr=>by
  cases hv with
  |cons h1 h2=>
   rename_i x xs
   simp only[D8]at h
   cases hb:Nat.ble (p+1) N with
   |false=>rw[hb]at h;simp at h
   |true=>
    rw[hb]at h
    simp only[cond_true]at h
    split at h
    ·cases h
    ·rename_i t' ht
     have hp:p<N:=aha hb
     obtain⟨e1,e2,e3⟩:=Bq ps vs xs t' t1 (tm.setIfInBounds p x) h h2 (by simpa using hs) (fun k=>by
      rw[u3 ht]
      unfold upd
      by_cases e:k=p
      ·subst e
       rw[Nat.beq_refl]
       simp only[cond_true]
       have:(tm.setIfInBounds k x).getD k undef=x:=by simp[hs,hp]
       rw[this];exact h1
      ·have h0:Nat.beq k p=false:=by
        cases hb:Nat.beq k p with
        |false=>rfl
        |true=>exact absurd (agv hb) e
       rw[h0]
       simp only[cond_false]
       have:(tm.setIfInBounds p x).getD k undef=tm.getD k undef:=by
        rw[Array.getD_eq_getD_getElem?,Array.getD_eq_getD_getElem?,Array.getElem?_setIfInBounds_ne (fun h=>e h.symm)]
       rw[this];exact hr k)
     exact⟨by simp[e1],e2,e3⟩
section
variable(P:Program)(fuel:Nat)(f:cm)(No:Nat)(t0:Tri AV)(ps:List Nat)(assign body:Code)
noncomputable def Kt(vs:List AV)(E:ESX):Option (Exit×ESX):=
 match D8 No ps vs t0 with
 |none=>none
 |some t1=>match jg No fuel f assign ⟨t1,E.h,E.u,E.rd,E.wr⟩with
  |some (.normal,E1)=>jg No fuel f body E1
  |_=>none
def Gs:Exit->Option (Option Code)
 |.normal=>some none
 |.ret=>some (some .ret)
 |.exit id=>some (some (.exit id))
 |_=>none
def Uc(τ:Nat->AV)(o:Oper):Bool:=match o.op with
 |.move (.tmp t)=>isY (τ t)
 |_=>false
def Ye(τ:Nat->AV)(o:Oper):Option (Array Operand):=match o.op with
 |.call ⟨.value (.tmp t),xs,_⟩=>bif isY (τ t)&&xs.toList.all (fun x=>!isY (aev τ x))then some xs else none
 |_=>none
noncomputable def P5(ops:Array Oper):List Oper->ESX->Option Code->Option (ESX×Option Code)
 |[],E,ph=>some (E,ph)
 |o::l,E,ph=>match m3 ops (bc E.t) o with
  |none=>none
  |some false=>match E.step o.dst ⟨0,0,E.u,E.u,E.h,.v undef⟩with
   |none=>none
   |some E'=>P5 ops l E' ph
  |some true=>bif Uc (bc E.t) o then(match E.step o.dst ⟨0,0,E.u,E.u,E.h,yAV⟩with
   |none=>none
   |some E'=>P5 ops l E' ph)
   else match Ye (bc E.t) o with
   |some xs=>(match ph with
    |some _=>none
    |none=>match Kt fuel f No t0 ps assign body (xs.toList.map (aev (bc E.t))) E with
     |none=>none
     |some (e,E2)=>match Gs e with
      |none=>none
      |some ph'=>match(ESX.mk E.t E2.h E2.u E2.rd E2.wr).step o.dst ⟨0,0,E2.u,E2.u,E2.h,.v (.bool ph'.isNone)⟩with
       |none=>none
       |some E'=>P5 ops l E' ph')
   |none=>bif o.op.operands.toList.all (fun x=>!isY (aev (bc E.t) x))then(match f o E with
    |none=>none
    |some r=>bif isY r.v then none else match E.step o.dst r with
     |none=>none
     |some E'=>P5 ops l E' ph)else none
noncomputable def kj(Ni:Nat):Nat->Code->ESX->Option Code->Option (Exit×ESX×Option Code)
 |0,_,_,_=>none
 |_+1,.skip,E,ph=>some (.normal,E,ph)
 |_+1,.ret,E,ph=>some (.ret,E,ph)
 |_+1,.exit id,E,ph=>some (.exit id,E,ph)
 |n+1,.seq a b,E,ph=>match kj Ni n a E ph with
  |some (.normal,E1,p1)=>kj Ni n b E1 p1
  |r=>r
 |n+1,.cond c a b,E,ph=>match aev (bc E.t) c with
  |.v (.bool true)=>kj Ni n a E ph
  |.v (.bool false)=>kj Ni n b E ph
  |_=>none
 |n+1,.block id c,E,ph=>match kj Ni n c E ph with
  |some (.exit i,E1,p1)=>bif Nat.beq i id then some (.normal,E1,p1)else some (.exit i,E1,p1)
  |r=>r
 |n+1,.loop c,E,ph=>match kj Ni n c E ph with
  |some (.normal,E1,p1)=>kj Ni n (.loop c) E1 p1
  |r=>r
 |n+1,.region id ops false,E,ph=>bif Ha Ni ops then(match P5 fuel f No t0 ps assign body ops ops.toList E ph with
  |none=>none
  |some (E',p')=>some (.normal,E',p'))else none
 |_,_,_,_=>none
end
theorem Ql{RD WD:Nat->Prop}{M:Nat}{E E1 E':ESX}{o:Oper}{r:Rx}(hu:r.u0=E.u)(h3:Fits (be E.h) r.rc)(hs:E.step o.dst r=some E1)(m2:Mono E1 E')(h0:Under RD WD M E.u E'):Inn RD WD M r.rc:=by obtain⟨s1,s2,s3,s4,s5⟩:=ir hs;have m1:Mono E E1:=kx s2 s3 s4 s5 hu h3;have hu1:=m2.u;refine⟨fun id h4=>h0.rd id (m2.rd id (by rw[s4,Nat.testBit_or,show r.F.testBit id=true from h4,Bool.or_true])),fun id h1 h2=>by have h7:r.u0<=id:=h1;have h8:id<r.u:=h2;have:=h0.u;exact(h0.new id (by omega) (by omega)).1,fun id h4=>?_,?_⟩;rcases Rc.D_iff.1 h4 with h5|⟨h5,h6⟩;exact h0.wd id (m2.wr id (by rw[s5,Nat.testBit_or,show r.W.testBit id=true from h5,Bool.or_true]));have h7:r.u0<=id:=h5;have h8:id<r.u:=h6;have:=h0.u;exact(h0.new id (by omega) (by omega)).2;show r.u<=M;have:=h0.u;omega
theorem u7{E E1:ESX}{o:Oper}{r:Rx}(hu:r.u0=E.u)(h0:Fits (be E.h) r.rc)(hs:E.step o.dst r=some E1):Mono E E1:=by obtain⟨s1,s2,s3,s4,s5⟩:=ir hs;exact kx s2 s3 s4 s5 hu h0
def mkL(fn:FuncId)(tm:Array Value)(pa:Array Tmp)(assign body:Code)(D:Nat)(st:LoopState)(pe:Option Code):Loop:=
 {state:=st,pending:=pe,fn:=fn,tmps:=tm,params:=pa,assign:=assign,body:=body,defers:=D}
def X3(ph:Option Code):LoopState:=if ph.isNone then .ready else .done
section
variable{P:Program}{fuel:Nat}{f:cm}{No Ni:Nat}{t0:Tri AV}{pa:Array Tmp}{assign body:Code}
variable{RD WD:Nat->Prop}{M:Nat}{C0:Ctx}{l D:Nat}{Dl:List Nat}{fn:FuncId}{tm:Array Value}{q:Nat}
structure RelH(RD WD:Nat->Prop)(M:Nat)(C0:Ctx)(l:Nat)(Dl:List Nat)(L:Loop)(η:bf)(u:Nat)(C:Ctx):Prop where
 good:Good C
 η:∀id,RD id->C.η id=η id
 free:∀id,u<=id->id<M->¬C.U id
 fr:FrX WD C0 C
 ml:Mark C0.w.heap.size C l (.loop L)
 md:∀d∈Dl,Mark C0.w.heap.size C d (.deferred (some []))
theorem Pu(hf:f.Ok P)(hm:P.follows .mixedOrders=true)(hb:∀d∈Dl,d≠l)(hg:tm.size=No){vs:List AV}{E E2:ESX}{e:Exit}{ph:Option Code}(hl:Ax E.h E.u)
 (h2:Kt fuel f No t0 pa.toList assign body vs E=some (e,E2))(hj:Gs e=some ph):
 Mono E E2/\(Under RD WD M E.u E2->∀(C:Ctx) (xs:Array Value),RelH RD WD M C0 l Dl (mkL fn tm pa assign body D .ready none) (be E.h) E.u C->(∀t,VR C (bc t0 t) (tm.getD t undef))->VRl C vs xs.toList->
  (Instr.yield l xs).run P C.w=.ok (.round l fn ((pa.zip xs).foldl (fun tmps (t,a)=>tmps.setIfInBounds t a) tm) assign body) C.w/\
  RoundIn Fence.wide q P l fn ((pa.zip xs).foldl (fun tmps (t,a)=>tmps.setIfInBounds t a) tm) assign body C.w fun e' w'=>e'=.returned (.bool ph.isNone)/\∃C',C'.w=w'/\
   RelH RD WD M C0 l Dl (mkL fn tm pa assign body D (X3 ph) ph) (be E2.h) E2.u C'/\∀a x,VR C a x->VR C' a x):=by
 unfold Kt at h2
 split at h2
 ·cases h2
 ·rename_i t1 hh
  split at h2
  ·rename_i E1 h1
   obtain⟨m1,s1⟩:=mq hf hm assign ⟨t1,E.h,E.u,E.rd,E.wr⟩ .normal E1 hl h1
   obtain⟨m2,s2⟩:=mq hf hm body E1 e E2 (m1.low hl) h2
   have m1':Mono E E1:=⟨m1.rd,m1.wr,m1.u,m1.h,m1.low,m1.sub,m1.lrd⟩
   refine⟨m1'.trans m2,fun hc C xs hR h0 hv=>?_⟩
   obtain⟨p1,p2,p3⟩:=Bq pa.toList vs xs.toList t0 t1 tm hh hv hg h0
   have h3:(pa.zip xs).foldl (fun tmps (x:Tmp×Value)=>tmps.setIfInBounds x.1 x.2) tm=(pa.toList.zip xs.toList).foldl (fun tm q=>tm.setIfInBounds q.1 q.2) tm:=by rw[<-Array.foldl_toList,Array.toList_zip]
   refine⟨run_yield hR.ml.here (show xs.size=pa.size by simpa using p1.symm),roundIn_of_wpIn trivial ?_⟩
   show assign.wpIn (Fence.wide.inRound l) q P _ {tmps:=(pa.zip xs).foldl (fun tmps (x:Tmp×Value)=>tmps.setIfInBounds x.1 x.2) tm,defers:=[]} C.w
   rw[h3]
   have h7:SRelX [] RD M No C (⟨t1,E.h,E.u,E.rd,E.wr⟩:ESX).st {tmps:=(pa.toList.zip xs.toList).foldl (fun tm q=>tm.setIfInBounds q.1 q.2) tm,defers:=[]}:=
    ⟨hR.good,hR.η,hR.free,rfl,p2,p3⟩
   refine Code.wpIn_mono ?_ (s1 RD WD M (fun e' s'=>e'=.normal/\s'=E1.st) (hc.back m2) ⟨rfl,rfl⟩ (Fence.wide.inRound l) (.inr ⟨l,rfl⟩) q [] C _ h7)
   rintro e' a' w' ⟨s',C1,⟨rfl,rfl⟩,rfl,h8,h4⟩
   have ml1:=hR.ml.ev h4.ev
   have md1:=fun d hd=>(hR.md d hd).ev h4.ev
   refine⟨_,run_beginRound ml1.here rfl,?_⟩
   have b1:=ml1.book (.loop {mkL fn tm pa assign body D .ready none with state:=.busy})
   have ml1':=ml1.put (.loop {mkL fn tm pa assign body D .ready none with state:=.busy})
   have md1':=fun d (hd:d∈Dl)=>(md1 d hd).other (hb d hd) (.loop {mkL fn tm pa assign body D .ready none with state:=.busy})
   refine Code.wpIn_mono ?_ (s2 RD WD M (fun e' s'=>e'=e/\s'=E2.st) (hc.up m1.u) ⟨rfl,rfl⟩ (Fence.wide.inRound l) (.inr ⟨l,rfl⟩) q [] _ a' (h8.on b1))
   rintro e' a'' w'' ⟨s'',C2,⟨rfl,rfl⟩,rfl,h5,h6⟩
   have ml2:=ml1'.ev h6.ev
   have md2:=fun d hd=>(md1' d hd).ev h6.ev
   have h9:=(hR.fr.trans h4).on b1
   have ha:=h9.trans h6
   have fin:∀jump,Gs e'=some jump->∃v w',(Instr.endRound l jump).run P C2.w=.ok v w'/\((Ending.returned v)=.returned (.bool ph.isNone)/\∃C',C'.w=w'/\
    RelH RD WD M C0 l Dl (mkL fn tm pa assign body D (X3 ph) ph) (be E2.h) E2.u C'/\∀a x,VR C a x->VR C' a x):=by
    intro jump he
    rw[hj]at he
    obtain rfl:ph=jump:=by simpa using he
    have b2:=ml2.book (.loop {{mkL fn tm pa assign body D .ready none with state:=.busy}with state:=if ph.isNone then .ready else .done,pending:=ph})
    refine⟨_,_,run_endRound ph ml2.here,rfl,C2.on _,rfl,⟨b2.good h5.good,h5.η,h5.free,ha.on b2,ml2.put _,fun d hd=>(md2 d hd).other (hb d hd) _⟩,fun a x hv=>?_⟩
    exact(((hv.mono hR.good h4.ev).on (b1.T h8.good)).mono (b1.good h8.good) h6.ev).on (b2.T h5.good)
   cases e' with
   |normal=>exact fin none rfl
   |ret=>exact fin (some .ret) rfl
   |exit id=>exact fin (some (.exit id)) rfl
   |_=>simp[Gs]at hj
  ·cases h2
end
section
variable{P:Program}{fuel:Nat}{f:cm}{No Ni:Nat}{t0:Tri AV}{pa:Array Tmp}{assign body:Code}
variable{RD WD:Nat->Prop}{M:Nat}{C0:Ctx}{l D:Nat}{Dl:List Nat}{fn:FuncId}{tm:Array Value}{q:Nat}
def Od(RD WD:Nat->Prop)(M Ni:Nat)(C0:Ctx)(l:Nat)(Dl:List Nat)(mk:LoopState->Option Code->Loop)(τ0:Nat->AV)(tm:Array Value)(s:St)(ph:Option Code)(a:Act)(w:World):Prop:=
 ∃C,C.w=w/\RelH RD WD M C0 l Dl (mk (X3 ph) ph) s.η s.u C/\a.defers=[]/\a.tmps.size=Ni/\(∀t,VR C (yT l s.τ t) (a.eval (.tmp t)))/\∀t,VR C (τ0 t) (tm.getD t undef)
theorem RelH.rel{L:Loop}{η:bf}{u:Nat}{C:Ctx}{a:Act}{τ:Nat->AV}(h:RelH RD WD M C0 l Dl L η u C)(h1:a.defers=[])(h2:a.tmps.size=Ni)(h3:∀t,VR C (τ t) (a.eval (.tmp t))):SRelX [] RD M Ni C ⟨τ,η,u⟩ a:=
 ⟨h.good,h.η,h.free,h1,h2,h3⟩
theorem RelH.of{L:Loop}{η η':bf}{u u':Nat}{C C':Ctx}{a:Act}{τ:Nat->AV}(h:RelH RD WD M C0 l Dl L η u C)(hr:SRelX [] RD M Ni C' ⟨τ,η',u'⟩ a)(hf:FrX WD C C'):RelH RD WD M C0 l Dl L η' u' C':=
 ⟨hr.good,hr.η,hr.free,h.fr.trans hf,h.ml.ev hf.ev,fun d hd=>(h.md d hd).ev hf.ev⟩
theorem Ce{E:ESX}(v:AV):Fits (be E.h) (Rx.rc ⟨0,0,E.u,E.u,E.h,v⟩):=Cd rfl
theorem Fv{C:Ctx}{a:Act}{τ:Nat->AV}:∀(xs:List Operand),(∀x∈xs,VR C (aev τ x) (a.eval x))->VRl C (xs.map (aev τ)) (xs.map a.eval)
 |[],_=>.nil
 |x::xs,h=>.cons (h x (by simp)) (Fv xs (fun y hy=>h y (by simp[hy])))
theorem vw(hf:f.Ok P)(hm:P.follows .mixedOrders=true)(ht:∀d∈Dl,d≠l)(hu:tm.size=No){ops:Array Oper}:∀(L:List Oper) (E:ESX) (ph:Option Code) (E':ESX) (ph':Option Code),(∀o∈L,iv Ni ops o=true)->Ax E.h E.u->P5 fuel f No t0 pa.toList assign body ops L E ph=some (E',ph')->
 Mono E E'/\(Under RD WD M E.u E'->∀(a:Act) (w:World) (Q:Exit->Act->World->Prop),Od RD WD M Ni C0 l Dl (mkL fn tm pa assign body D) (bc t0) tm E.st ph a w->
  (∀a' w',Od RD WD M Ni C0 l Dl (mkL fn tm pa assign body D) (bc t0) tm E'.st ph' a' w'->Q .normal a' w')->wpListIn Fence.wide q P ops Q L a w)
 |[],E,ph,E',ph',_,_,h=>by simp only[P5,agw,Prod.mk.injEq]at h;obtain⟨rfl,rfl⟩:=h;exact⟨Mono.refl _,fun _ a w Q hr hK=>hK a w hr⟩
 |o::L,E,ph,E',ph',hd,hl,h=>by
  have h9:=hd o (by simp);have g3:∀o∈L,iv Ni ops o=true:=fun o ho=>hd o (by simp[ho])
  -- an operation that keeps the heap
  have keep:∀(v:AV) (x:Value) (E1:ESX),E.step o.dst ⟨0,0,E.u,E.u,E.h,v⟩=some E1->P5 fuel f No t0 pa.toList assign body ops L E1 ph=some (E',ph')->Mono E E'/\(Under RD WD M E.u E'->∀(a:Act) (w:World) (Q:Exit->Act->World->Prop) (x:Value),(∀C,VR C (Jv l v) x)->
   Od RD WD M Ni C0 l Dl (mkL fn tm pa assign body D) (bc t0) tm E.st ph a w->(∀a' w',Od RD WD M Ni C0 l Dl (mkL fn tm pa assign body D) (bc t0) tm E'.st ph' a' w'->Q .normal a' w')->wpListIn Fence.wide q P ops Q L (a.put o.dst x) w):=by
   intro v x E1 hs hp
   have m1:=u7 rfl (Ce v) hs
   obtain⟨m2,k2⟩:=vw hf hm ht hu L E1 ph E' ph' g3 (m1.low hl) hp
   refine⟨m1.trans m2,fun h6 a w Q x hx h4 hK=>?_⟩
   refine k2 (h6.up m1.u) _ w Q ?_ hK
   obtain⟨C,rfl,hR,h7,hN,hτ,h0⟩:=h4
   obtain⟨s1,_⟩:=ir hs
   have hr:=hR.rel h7 hN hτ
   have ha:=hr.put (Ev.refl C) hr.good (η':=be E.h) (u':=E.u) hr.η hr.free (iv.dst h9) (hx C)
   have e1:E1.st=⟨j1 (bc E.t) o.dst v,be E.h,E.u⟩:=s1
   rw[e1]
   refine⟨C,rfl,hR.of ha (FrX.refl C),ha.defers,ha.size,fun t=>?_,h0⟩
   have:=ha.τ t
   show VR C (yT l (j1 (bc E.t) o.dst v) t) _
   rw[Jt]
   exact this
  simp only[P5]at h;split at h;cases h;rename_i hw;split at h;cases h;rename_i E1 hs;obtain⟨m,k⟩:=keep (.v undef) undef E1 hs h;refine⟨m,fun h6 a w Q h4 hK=>have h8:=h4;?_⟩;obtain⟨C,rfl,hR,h7,hN,hτ,h0⟩:=h8;unfold wpListIn;rw[eg (s:=⟨yT l (bc E.t),be E.h,E.u⟩) (adk.trans hw) (hR.rel h7 hN hτ) (iv.guard h9)];simp only[Bool.false_eq_true,if_false];exact⟨fun _ _=>trivial,k h6 a C.w Q undef (fun C=>VR.v C _) h4 hK⟩;rename_i hw;cases hn:Uc (bc E.t) o with
  |true=>
   rw[hn]at h
   simp only[cond_true]at h
   split at h
   ·cases h
   ·rename_i E1 hs
    obtain⟨m,k⟩:=keep yAV undef E1 hs h
    refine⟨m,fun h6 a w Q h4 hK=>?_⟩
    have h8:=h4
    obtain⟨C,rfl,hR,h7,hN,hτ,h0⟩:=h8
    unfold wpListIn
    rw[eg (s:=⟨yT l (bc E.t),be E.h,E.u⟩) (adk.trans hw) (hR.rel h7 hN hτ) (iv.guard h9)]
    simp only[if_true]
    unfold Uc at hn
    split at hn
    ·rename_i t g4
     have hval:a.eval (.tmp t)=.func (.yield l) #[] #[]:=by
      have h1:=hτ t
      have h2:yT l (bc E.t) t=.v (.func (.yield l) #[] #[]):=Ju hn
      have h3:yT l E.st.τ t=.v (.func (.yield l) #[] #[]):=h2
      rw[h3]at h1
      exact h1.v_inv
     have hi:(execOp a.eval o).run P C.w=.ok (.value (.func (.yield l) #[] #[])) C.w:=by
      have g5:o=⟨o.dst,.move (.tmp t),o.type,o.pos,o.after,o.guard⟩:=by rw[<-g4]
      rw[g5,<-hval]
      rfl
     refine Zv FOk.wide (iv.nd h9) ?_
     unfold Oper.wp
     rw[hi]
     exact k h6 a C.w Q _ (fun C=>VR.v C _) h4 hK
    ·cases hn
  |false=>
   rw[hn]at h
   simp only[cond_false]at h
   split at h
   ·-- a round
    rename_i xs hc
    split at h
    ·cases h
    ·split at h
     ·cases h
     ·rename_i e E2 h5
      split at h
      ·cases h
      ·rename_i ph1 hj
       split at h
       ·cases h
       ·rename_i E1 hs
        obtain⟨mr,kr⟩:=Pu (RD:=RD) (WD:=WD) (M:=M) (C0:=C0) (l:=l) (D:=D) (Dl:=Dl) (fn:=fn) (q:=q-1) hf hm ht hu hl h5 hj
        have g7:=mr.low hl
        have m1:=u7 (E:=⟨E.t,E2.h,E2.u,E2.rd,E2.wr⟩) rfl (Ce (E:=⟨E.t,E2.h,E2.u,E2.rd,E2.wr⟩) (.v (.bool ph1.isNone))) hs
        have mr':Mono E ⟨E.t,E2.h,E2.u,E2.rd,E2.wr⟩:=⟨mr.rd,mr.wr,mr.u,mr.h,mr.low,mr.sub,mr.lrd⟩
        obtain⟨m2,k2⟩:=vw hf hm ht hu L E1 ph1 E' ph' g3 (m1.low g7) h
        refine⟨(mr'.trans m1).trans m2,fun h6 a w Q h4 hK=>?_⟩
        obtain⟨C,rfl,hR,h7,hN,hτ,h0⟩:=h4
        unfold wpListIn
        rw[eg (s:=⟨yT l (bc E.t),be E.h,E.u⟩) (adk.trans hw) (hR.rel h7 hN hτ) (iv.guard h9)]
        simp only[if_true]
        unfold Ye at hc
        split at hc
        ·rename_i t xs' ats g4
         cases hy:isY (bc E.t t)&&xs'.toList.all (fun x=>!isY (aev (bc E.t) x))with
         |false=>rw[hy]at hc;simp at hc
         |true=>
          rw[hy]at hc
          simp only[cond_true,agw]at hc
          subst hc
          obtain⟨g8,g9⟩:=Bool.and_eq_true_iff.1 hy
          have hval:a.eval (.tmp t)=.func (.yield l) #[] #[]:=by
           have h1:=hτ t
           have h3:yT l E.st.τ t=.v (.func (.yield l) #[] #[]):=Ju g8
           rw[h3]at h1
           exact h1.v_inv
          have h4:=hR.rel h7 hN hτ
          have hq:VRl C (xs'.toList.map (aev (bc E.t))) (xs'.map a.eval).toList:=by
           rw[Array.toList_map]
           refine Fv _ (fun x hx=>?_)
           have h1:VR C (aev (yT l (bc E.t)) x) (a.eval x):=h4.eval x
           have h2:=List.all_eq_true.1 g9 x hx
           rw[N7 (show isY (aev (bc E.t) x)=false by simpa using h2)]at h1
           exact h1
          have hb:=h6.back (m1.trans m2)
          obtain⟨ga,h5⟩:=kr ⟨hb.rd,hb.wd,hb.u,hb.new⟩ C (xs'.map a.eval) hR h0 hq
          have hi:(execOp a.eval o).run P C.w=.ok (.round l fn ((pa.zip (xs'.map a.eval)).foldl (fun tmps (t,a)=>tmps.setIfInBounds t a) tm) assign body) C.w:=by
           have g5:o=⟨o.dst,.call ⟨.value (.tmp t),xs',ats⟩,o.type,o.pos,o.after,o.guard⟩:=by rw[<-g4]
           have e0:execOp a.eval ⟨o.dst,.call ⟨.value (.tmp t),xs',ats⟩,o.type,o.pos,o.after,o.guard⟩=(do let dd<-Deferred.ofValue (a.eval (.tmp t)) (xs'.map a.eval);invoke dd.target dd.args):=rfl
           rw[g5,e0,hval]
           have e1:(do let dd<-Deferred.ofValue (.func (.yield l) #[] #[]) (xs'.map a.eval);invoke dd.target dd.args)=Instr.yield l (#[]++xs'.map a.eval++#[]):=rfl
           rw[e1]
           simpa using ga
          refine⟨fun _ _=>trivial,?_⟩
          rw[Oper.semAt_eq _ _ _ (iv.nd h9),hi,Oper.uponIn_round]
          refine⟨fun e=>(by cases e),h5.mono ?_⟩
          rintro e' w' ⟨rfl,C',rfl,hz,hh⟩
          refine k2 (h6.up (ahb mr.u m1.u)) _ C'.w Q ?_ hK
          obtain⟨s1,_⟩:=ir hs
          have e1:E1.st=⟨j1 (bc E.t) o.dst (.v (.bool ph1.isNone)),be E2.h,E2.u⟩:=s1
          rw[e1]
          have g0:SRelX [] RD M Ni C' ⟨yT l (bc E.t),be E2.h,E2.u⟩ a:=⟨hz.good,hz.η,hz.free,h7,hN,fun t=>hh _ _ (hτ t)⟩
          have ha:=g0.put (Ev.refl C') g0.good (η':=be E2.h) (u':=E2.u) g0.η g0.free (iv.dst h9) (VR.v C' (.bool ph1.isNone))
          refine⟨C',rfl,hz.of ha (FrX.refl C'),ha.defers,ha.size,fun t=>?_,fun t=>hh _ _ (h0 t)⟩
          have:=ha.τ t
          show VR C' (yT l (j1 (bc E.t) o.dst (.v (.bool ph1.isNone))) t) _
          rw[Jt,uy rfl]
          exact this
        ·cases hc
   ·-- a plain operation
    cases hk:o.op.operands.toList.all (fun x=>!isY (aev (bc E.t) x))with
    |false=>rw[hk]at h;simp at h
    |true=>
     rw[hk]at h
     simp only[cond_true]at h
     split at h
     ·cases h
     ·rename_i r hr
      cases g6:isY r.v with
      |true=>rw[g6]at h;simp at h
      |false=>
       rw[g6]at h
       simp only[cond_false]at h
       split at h
       ·cases h
       ·rename_i E1 hs
        obtain⟨r1,r2,r3⟩:=hf o E r hl hr
        have m1:=u7 r1 r2 hs
        obtain⟨m2,k2⟩:=vw hf hm ht hu L E1 ph E' ph' g3 (m1.low hl) h
        refine⟨m1.trans m2,fun h6 a w Q h4 hK=>?_⟩
        have inn:=Ql r1 r2 hs m2 h6
        obtain⟨C,rfl,hR,h7,hN,hτ,h0⟩:=h4
        have h4:=hR.rel h7 hN hτ
        unfold wpListIn
        rw[eg (s:=⟨yT l (bc E.t),be E.h,E.u⟩) (adk.trans hw) h4 (iv.guard h9)]
        simp only[if_true]
        have L':re P o (yT l (bc E.t)) (be E.h) r.rc:=r3.congr (fun x hx=>N7 (by
         have:=List.all_eq_true.1 hk x (by simpa using hx)
         simpa using this))
        refine Zv FOk.wide (iv.nd h9) (L' C a hR.good (fun x _=>h4.eval x) (fun id gb=>hR.η id (inn.rd id gb)) (fun id h1 h2=>hR.free id (by have h3:r.u0<=id:=h1;show E.u<=id;omega) (Nat.lt_of_lt_of_le h2 inn.u)) _ _ fun x C' g1 g2 hg he hv=>?_)
        obtain⟨q1,q2⟩:=h4.step2 (o:=o) (iv.dst h9) r1 r2 inn g1 g2 hg he hv
        refine k2 (h6.up m1.u) _ C'.w Q ?_ hK
        obtain⟨s1,_⟩:=ir hs
        have e1:E1.st=⟨j1 (bc E.t) o.dst r.v,be r.h,r.u⟩:=s1
        rw[e1]
        refine⟨C',rfl,hR.of q1 q2,q1.defers,q1.size,fun t=>?_,fun t=>(h0 t).mono hR.good he⟩
        have:=q1.τ t
        show VR C' (yT l (j1 (bc E.t) o.dst r.v) t) _
        rw[Jt,uy g6]
        exact this
end
section
variable{P:Program}{fuel:Nat}{f:cm}{No Ni:Nat}{t0:Tri AV}{pa:Array Tmp}{assign body:Code}
variable{RD WD:Nat->Prop}{M:Nat}{C0:Ctx}{l D:Nat}{Dl:List Nat}{fn:FuncId}{tm:Array Value}{q:Nat}
def agq(P:Program)(No Ni:Nat)(t0:Tri AV)(pa:Array Tmp)(assign body:Code)(c:Code)(E:ESX)(ph:Option Code)(e:Exit)(E':ESX)(ph':Option Code):Prop:=
 Mono E E'/\∀(RD WD:Nat->Prop) (M:Nat) (C0:Ctx) (l D:Nat) (Dl:List Nat) (fn:FuncId) (tm:Array Value) (q:Nat),(∀d∈Dl,d≠l)->tm.size=No->Under RD WD M E.u E'->∀(a:Act) (w:World),
  Od RD WD M Ni C0 l Dl (mkL fn tm pa assign body D) (bc t0) tm E.st ph a w->c.wpIn Fence.wide q P (fun e1 a' w'=>e1=e/\Od RD WD M Ni C0 l Dl (mkL fn tm pa assign body D) (bc t0) tm E'.st ph' a' w') a w
def Hv(P:Program)(No Ni:Nat)(t0:Tri AV)(pa:Array Tmp)(assign body:Code)(m:Nat)(c:Code)(E:ESX)(ph:Option Code)(e:Exit)(E':ESX)(ph':Option Code):Prop:=
 Mono E E'/\∀(RD WD:Nat->Prop) (M:Nat) (C0:Ctx) (l D:Nat) (Dl:List Nat) (fn:FuncId) (tm:Array Value) (q:Nat),(∀d∈Dl,d≠l)->tm.size=No->Under RD WD M E.u E'->∀(a:Act) (w:World),
  Od RD WD M Ni C0 l Dl (mkL fn tm pa assign body D) (bc t0) tm E.st ph a w->Code.roundsIn Fence.wide q P c (fun e1 a' w'=>e1=e/\Od RD WD M Ni C0 l Dl (mkL fn tm pa assign body D) (bc t0) tm E'.st ph' a' w') m a w
theorem Q6(hf:f.Ok P)(hm:P.follows .mixedOrders=true):∀(n:Nat),(∀(c:Code) (E:ESX) (ph:Option Code) (e:Exit) (E':ESX) (ph':Option Code),Ax E.h E.u->kj fuel f No t0 pa.toList assign body Ni n c E ph=some (e,E',ph')->agq P No Ni t0 pa assign body c E ph e E' ph')/\
 (∀(c:Code) (E:ESX) (ph:Option Code) (e:Exit) (E':ESX) (ph':Option Code),Ax E.h E.u->kj fuel f No t0 pa.toList assign body Ni n (.loop c) E ph=some (e,E',ph')->Hv P No Ni t0 pa assign body n c E ph e E' ph'):=by
 intro n
 induction n with
 |zero=>exact⟨fun c E ph e E' ph' _ h=>by simp[kj]at h,fun c E ph e E' ph' _ h=>by simp[kj]at h⟩
 |succ n ih=>
  obtain⟨ihA,ihB⟩:=ih
  have hB:∀(c:Code) (E:ESX) (ph:Option Code) (e:Exit) (E':ESX) (ph':Option Code),Ax E.h E.u->kj fuel f No t0 pa.toList assign body Ni (n+1) (.loop c) E ph=some (e,E',ph')->Hv P No Ni t0 pa assign body (n+1) c E ph e E' ph':=by
   intro c E ph e E' ph' hl h
   simp only[kj]at h
   split at h
   ·rename_i E1 p1 h1
    obtain⟨m1,k1⟩:=ihA c E ph _ E1 p1 hl h1
    obtain⟨m2,k2⟩:=ihB c E1 p1 e E' ph' (m1.low hl) h
    refine⟨m1.trans m2,fun RD WD M C0 l D Dl fn tm q h4 h5 h6 a w hr=>?_⟩
    rw[roundsIn_succ]
    refine Code.wpIn_mono ?_ (k1 RD WD M C0 l D Dl fn tm q h4 h5 (h6.back m2) a w hr)
    rintro e1 a' w' ⟨rfl,h7⟩
    exact k2 RD WD M C0 l D Dl fn tm q h4 h5 (h6.up m1.u) a' w' h7
   ·rename_i h8
    obtain⟨m1,k1⟩:=ihA c E ph e E' ph' hl h
    refine⟨m1,fun RD WD M C0 l D Dl fn tm q h4 h5 h6 a w hr=>?_⟩
    rw[roundsIn_succ]
    refine Code.wpIn_mono ?_ (k1 RD WD M C0 l D Dl fn tm q h4 h5 h6 a w hr)
    rintro e1 a' w' ⟨rfl,h7⟩
    cases e1 with
    |normal=>exact absurd h (h8 _ _)
    |_=>exact⟨rfl,h7⟩
  refine⟨fun c E ph e E' ph' hl h=>?_,hB⟩
  cases c with
  |skip=>
   simp only[kj,agw,Prod.mk.injEq]at h
   obtain⟨rfl,rfl,rfl⟩:=h
   exact⟨Mono.refl _,fun RD WD M C0 l D Dl fn tm q h4 h5 h6 a w hr=>wpIn_skip ⟨rfl,hr⟩⟩
  |ret=>
   simp only[kj,agw,Prod.mk.injEq]at h
   obtain⟨rfl,rfl,rfl⟩:=h
   exact⟨Mono.refl _,fun RD WD M C0 l D Dl fn tm q h4 h5 h6 a w hr=>wpIn_ret ⟨rfl,hr⟩⟩
  |exit id=>
   simp only[kj,agw,Prod.mk.injEq]at h
   obtain⟨rfl,rfl,rfl⟩:=h
   exact⟨Mono.refl _,fun RD WD M C0 l D Dl fn tm q h4 h5 h6 a w hr=>wpIn_exit ⟨rfl,hr⟩⟩
  |seq x y=>
   simp only[kj]at h
   split at h
   ·rename_i E1 p1 h1
    obtain⟨m1,k1⟩:=ihA x E ph _ E1 p1 hl h1
    obtain⟨m2,k2⟩:=ihA y E1 p1 e E' ph' (m1.low hl) h
    refine⟨m1.trans m2,fun RD WD M C0 l D Dl fn tm q h4 h5 h6 a w hr=>wpIn_seq ?_⟩
    refine Code.wpIn_mono ?_ (k1 RD WD M C0 l D Dl fn tm q h4 h5 (h6.back m2) a w hr)
    rintro e1 a' w' ⟨rfl,h7⟩
    exact k2 RD WD M C0 l D Dl fn tm q h4 h5 (h6.up m1.u) a' w' h7
   ·rename_i h8
    obtain⟨m1,k1⟩:=ihA x E ph e E' ph' hl h
    refine⟨m1,fun RD WD M C0 l D Dl fn tm q h4 h5 h6 a w hr=>wpIn_seq ?_⟩
    refine Code.wpIn_mono ?_ (k1 RD WD M C0 l D Dl fn tm q h4 h5 h6 a w hr)
    rintro e1 a' w' ⟨rfl,h7⟩
    cases e1 with
    |normal=>exact absurd h (h8 _ _)
    |_=>exact⟨rfl,h7⟩
  |cond c x y=>
   simp only[kj]at h
   have hc:∀(b:Bool),aev (bc E.t) c=.v (.bool b)->∀{RD WD:Nat->Prop} {M:Nat} {C0:Ctx} {l D:Nat} {Dl:List Nat} {fn:FuncId} {tm:Array Value} {a:Act} {w:World},Od RD WD M Ni C0 l Dl (mkL fn tm pa assign body D) (bc t0) tm E.st ph a w->a.eval c=.bool b:=by
    intro b hb RD WD M C0 l D Dl fn tm a w hr
    obtain⟨C,rfl,hR,hh,hN,hτ,h0⟩:=hr
    have h1:=(hR.rel hh hN hτ).eval c
    have h2:aev (yT l E.st.τ) c=.v (.bool b):=Rn hb
    have h3:VR C (aev (yT l E.st.τ) c) (a.eval c):=h1
    rw[h2]at h3
    exact h3.v_inv
   split at h
   ·rename_i hb
    obtain⟨m1,k1⟩:=ihA x E ph e E' ph' hl h
    exact⟨m1,fun RD WD M C0 l D Dl fn tm q h4 h5 h6 a w hr=>wpIn_cond_split (hc true hb hr) (fun _=>k1 RD WD M C0 l D Dl fn tm q h4 h5 h6 a w hr) (fun e=>by cases e)⟩
   ·rename_i hb
    obtain⟨m1,k1⟩:=ihA y E ph e E' ph' hl h
    exact⟨m1,fun RD WD M C0 l D Dl fn tm q h4 h5 h6 a w hr=>wpIn_cond_split (hc false hb hr) (fun e=>by cases e) (fun _=>k1 RD WD M C0 l D Dl fn tm q h4 h5 h6 a w hr)⟩
   ·cases h
  |block id c=>
   simp only[kj]at h
   split at h
   ·rename_i i E1 p1 h1
    obtain⟨m1,k1⟩:=ihA c E ph _ E1 p1 hl h1
    have h9:E'=E1/\ph'=p1/\((i=id/\e=.normal)\/(i≠id/\e=.exit i)):=by
     cases hb:Nat.beq i id with
     |true=>
      rw[hb]at h
      simp only[cond_true,agw,Prod.mk.injEq]at h
      obtain⟨rfl,rfl,rfl⟩:=h
      exact⟨rfl,rfl,.inl ⟨agv hb,rfl⟩⟩
     |false=>
      rw[hb]at h
      simp only[cond_false,agw,Prod.mk.injEq]at h
      obtain⟨rfl,rfl,rfl⟩:=h
      exact⟨rfl,rfl,.inr ⟨fun e=>(by subst e;rw[Nat.beq_refl]at hb;cases hb),rfl⟩⟩
    obtain⟨rfl,rfl,he⟩:=h9
    refine⟨m1,fun RD WD M C0 l D Dl fn tm q h4 h5 h6 a w hr=>wpIn_block ?_⟩
    refine Code.wpIn_mono ?_ (k1 RD WD M C0 l D Dl fn tm q h4 h5 h6 a w hr)
    rintro e1 a' w' ⟨rfl,h7⟩
    simp only[Exit.inBlock]
    rcases he with⟨h1,h2⟩|⟨h1,h2⟩
    ·rw[ag2 h1];exact⟨h2.symm,h7⟩
    ·rw[ag1 h1];exact⟨h2.symm,h7⟩
   ·rename_i h8
    obtain⟨m1,k1⟩:=ihA c E ph e E' ph' hl h
    refine⟨m1,fun RD WD M C0 l D Dl fn tm q h4 h5 h6 a w hr=>wpIn_block ?_⟩
    refine Code.wpIn_mono ?_ (k1 RD WD M C0 l D Dl fn tm q h4 h5 h6 a w hr)
    rintro e1 a' w' ⟨rfl,h7⟩
    cases e1 with
    |exit i=>exact absurd h (h8 _ _ _)
    |_=>exact⟨rfl,h7⟩
  |loop c=>
   obtain⟨m1,k1⟩:=hB c E ph e E' ph' hl h
   exact⟨m1,fun RD WD M C0 l D Dl fn tm q h4 h5 h6 a w hr=>wpIn_loop_rounds _ (k1 RD WD M C0 l D Dl fn tm q h4 h5 h6 a w hr)⟩
  |region id ops d=>
   cases d with
   |true=>simp[kj]at h
   |false=>
    simp only[kj]at h
    cases hd:Ha Ni ops with
    |false=>rw[hd]at h;simp at h
    |true=>
     rw[hd]at h
     simp only[cond_true]at h
     split at h
     ·cases h
     ·rename_i E1 p1 h1
      simp only[agw,Prod.mk.injEq]at h
      obtain⟨rfl,rfl,rfl⟩:=h
      have hg:∀o∈ops.toList,iv Ni ops o=true:=List.all_eq_true.1 hd
      have mono:Mono E E1:=by
       obtain⟨m,_⟩:=vw (RD:=fun _=>True) (WD:=fun _=>True) (M:=0) (C0:=⟨fun _=>(0,0),fun _=>0,m4,fun _=>False,fun _=>False,default⟩) (l:=0) (D:=1) (Dl:=[]) (fn:=0) (q:=0) (tm:=Array.replicate No undef) hf hm (by simp) (by simp) _ _ _ _ _ hg hl h1
       exact m
      refine⟨mono,fun RD WD M C0 l D Dl fn tm q h4 h5 h6 a w hr=>?_⟩
      obtain⟨_,k⟩:=vw (RD:=RD) (WD:=WD) (M:=M) (C0:=C0) (l:=l) (D:=D) (Dl:=Dl) (fn:=fn) (q:=q) (tm:=tm) hf hm h4 h5 _ _ _ _ _ hg hl h1
      have eo:ops=ops.toList.toArray:=by simp
      have ha:=k h6 a w (fun e1 a' w'=>e1=.normal/\Od RD WD M Ni C0 l Dl (mkL fn tm pa assign body D) (bc t0) tm E1.st p1 a' w') hr (fun a' w' h=>⟨rfl,h⟩)
      exact wpIn_region_list ha
  |_=>simp[kj]at h
end
def Cj:Option Code->Option Exit
 |none=>some .normal
 |some .ret=>some .ret
 |some (.exit id)=>some (.exit id)
 |_=>none
def K7:Exit->Bool
 |.normal=>true
 |.ret=>true
 |_=>false
theorem K6{e:Exit}(h:K7 e=true):e=.normal\/e=.ret:=by unfold K7 at h;split at h;exact .inl rfl;exact .inr rfl;cases h
noncomputable def X5(P:Program)(fuel:Nat)(f:cm)(No:Nat)(g:Operand)(pa:Array Tmp)(assign body:Code)(E:ESX):Option (Exit×ESX):=
 match aev (bc E.t) g with
 |.clo gf caps=>match P.funcs[gf]? with
  |none=>none
  |some fi=>match fi.body with
   |none=>none
   |some c=>bif bv P gf&&fi.results.isEmpty&&caps.all (fun x=>!isY x)&&Nat.ble (caps.length+1) fi.ntmps then(match kg 0 (yAV::caps) .nil with
    |none=>none
    |some t=>match kj fuel f No E.t pa.toList assign body fi.ntmps fuel c ⟨t,E.h,E.u,E.rd,E.wr⟩ none with
     |none=>none
     |some (ei,E',ph)=>bif K7 ei then(match Cj ph with
      |none=>none
      |some e=>some (e,⟨E.t,E'.h,E'.u,E'.rd,E'.wr⟩))else none)else none
 |_=>none
def Eg(D:Nat):Deferred:={target:=.collected D,args:=#[]}
def Xt(RD WD:Nat->Prop)(M N:Nat)(C0:Ctx)(s:St)(Ds:List Nat)(a:Act)(w:World):Prop:=
 ∃C,C.w=w/\SRelX (Ds.map Eg) RD M N C s a/\FrX WD C0 C/\Ds.Nodup/\∀D∈Ds,Mark C0.w.heap.size C D (.deferred (some []))
def Rq(P:Program)(N:Nat)(c:Code)(E:ESX)(e:Exit)(E':ESX):Prop:=
 Mono E E'/\∀(RD WD:Nat->Prop) (M:Nat) (C0:Ctx) (q:Nat),Under RD WD M E.u E'->∀(Ds:List Nat) (a:Act) (w:World),Xt RD WD M N C0 E.st Ds a w->
  c.wpIn Fence.wide q P (fun e1 a' w'=>e1=e/\∃Ds',Xt RD WD M N C0 E'.st Ds' a' w') a w
theorem Rq.of{P:Program}{N:Nat}{c:Code}{E:ESX}{e:Exit}{E':ESX}(h:Ff P N c E e E'):Rq P N c E e E':=by obtain⟨m,k⟩:=h;refine⟨m,fun RD WD M C0 q h1 Ds a w hr=>?_⟩;obtain⟨C,rfl,hs,hf,h2,hm⟩:=hr;refine Code.wpIn_mono ?_ (k RD WD M (fun e1 s1=>e1=e/\s1=E'.st) h1 ⟨rfl,rfl⟩ Fence.wide FOk.wide q _ C a hs);rintro e1 a' w' ⟨s',C',⟨rfl,rfl⟩,rfl,h3,h0⟩;exact⟨rfl,Ds,C',rfl,h3,hf.trans h0,h2,fun D hD=>(hm D hD).ev h0.ev⟩
theorem zk{P:Program}{fn:Func}(h:fn.results.isEmpty=true)(tm:Array Value)(w:World):∃v,(results fn tm).run P w=.ok v w:=by have h0:fn.results=#[]:=(by simpa using h);exact⟨.tuple #[],by unfold results;rw[h0];simp⟩
theorem Ku{P:Program}{fuel:Nat}{f:cm}(hf:f.Ok P)(hm:P.follows .mixedOrders=true){No:Nat}{g:Operand}{pa:Array Tmp}{assign body:Code}{E E2:ESX}{e:Exit}(hl:Ax E.h E.u)
 (h:X5 P fuel f No g pa assign body E=some (e,E2)):Rq P No (.rangeFunc g pa assign body) E e E2:=by
 unfold X5 at h
 split at h
 ·rename_i gf caps hg
  split at h
  ·cases h
  ·rename_i fi g0
   split at h
   ·cases h
   ·rename_i c hc
    cases hb:(bv P gf&&fi.results.isEmpty&&caps.all (fun x=>!isY x)&&Nat.ble (caps.length+1) fi.ntmps)with
    |false=>rw[hb]at h;simp at h
    |true=>
     rw[hb]at h
     simp only[cond_true]at h
     simp only[ahs]at hb
     obtain⟨⟨⟨g2,g3⟩,g4⟩,g5⟩:=hb
     split at h
     ·cases h
     ·rename_i t ht
      split at h
      ·cases h
      ·rename_i ei E' ph hh
       cases ho:K7 ei with
       |false=>rw[ho]at h;simp at h
       |true=>
        rw[ho]at h
        simp only[cond_true]at h
        split at h
        ·cases h
        ·rename_i e' h5
         simp only[agw,Prod.mk.injEq]at h
         obtain⟨rfl,rfl⟩:=h
         obtain⟨m0,k⟩:=(Q6 (No:=No) (t0:=E.t) (pa:=pa) (assign:=assign) (body:=body) (Ni:=fi.ntmps) hf hm fuel).1 c ⟨t,E.h,E.u,E.rd,E.wr⟩ none ei E' ph hl hh
         refine⟨⟨m0.rd,m0.wr,m0.u,m0.h,m0.low,m0.sub,m0.lrd⟩,fun RD WD M C0 q ha Ds a w hr=>?_⟩
         obtain⟨C,rfl,hs,hw,g6,hi⟩:=hr
         have g7:=hs.eval g
         have hj:VR C (.clo gf caps) (a.eval g):=by rw[<-hg];exact g7
         obtain⟨lb,hv,hll,g8⟩:=hj.clo_inv
         refine wpIn_rangeFunc fun fn _=>?_
         obtain⟨W1,hx⟩:∃W1,(C.w.alloc (.deferred (some []))).alloc (.loop (mkL fn a.tmps pa assign body C.w.heap.size .ready none))=W1:=⟨_,rfl⟩
         -- the world with the two new blocks
         have bk1:=Book.alloc C0.w.heap.size C (.deferred (some []))
         have g1:=bk1.good hs.good
         have bk2:=Book.alloc C0.w.heap.size (C.on (C.w.alloc (.deferred (some [])))) (.loop (mkL fn a.tmps pa assign body C.w.heap.size .ready none))
         have hn:C0.w.heap.size<=C.w.heap.size:=hw.ev.size
         have md1:=(Mark.new hs.good hn (.deferred (some []))).alloc (.loop (mkL fn a.tmps pa assign body C.w.heap.size .ready none))
         have h7:(C.on (C.w.alloc (.deferred (some [])))).w.heap.size=C.w.heap.size+1:=World.size_alloc _ _
         have ml1:=Mark.new (B:=C0.w.heap.size) g1 (by rw[h7];omega) (.loop (mkL fn a.tmps pa assign body C.w.heap.size .ready none))
         rw[h7]at ml1
         have he:=(hs.on bk1).on bk2
         have hp:=(hw.on bk1).on bk2
         have hq:∀D∈Ds,Mark C0.w.heap.size ((C.on (C.w.alloc (.deferred (some [])))).on ((C.on (C.w.alloc (.deferred (some [])))).w.alloc (.loop (mkL fn a.tmps pa assign body C.w.heap.size .ready none)))) D (.deferred (some [])):=fun D hD=>((hi D hD).alloc _).alloc _
         refine⟨C.w.heap.size+1,[Eg C.w.heap.size],W1,{target:=.fn (.func gf) lb,args:=#[.func (.yield (C.w.heap.size+1)) #[] #[]]},W1,gf,#[Value.func (.yield (C.w.heap.size+1)) #[] #[]]++lb,W1,?_,?_,?_,?_,(fun e=>by cases e),?_⟩
         ·rw[<-hx];exact run_enterLoop_outer _ _ _ _ _
         ·simp only[resolve,hv]
          simp[go_sem]
         ·intro f' _;trivial
         ·simp[invoke,go_sem,d9 g2]
         ·have hy:∀d∈C.w.heap.size::Ds,d≠C.w.heap.size+1:=by
           intro d hd
           rcases ahk.1 hd with rfl|hd
           ·omega
           ·have:=(hi d hd).lt
            omega
          have h8:Od RD WD M fi.ntmps C0 (C.w.heap.size+1) (C.w.heap.size::Ds) (mkL fn a.tmps pa assign body C.w.heap.size) (bc E.t) a.tmps (⟨t,E.h,E.u,E.rd,E.wr⟩:ESX).st none
           {tmps:=(#[Value.func (.yield (C.w.heap.size+1)) #[] #[]]++lb)++Array.replicate (fi.ntmps-(#[Value.func (.yield (C.w.heap.size+1)) #[] #[]]++lb).size) undef,defers:=[]} W1:=by
           refine⟨_,hx,⟨he.good,he.η,he.free,hp,ml1,fun d hd=>?_⟩,rfl,?_,fun k'=>?_,fun k'=>he.τ k'⟩
           ·rcases ahk.1 hd with rfl|hd
            ·exact md1
            ·exact hq d hd
           ·have:=aha g5
            simp
            omega
           ·have hu:(⟨t,E.h,E.u,E.rd,E.wr⟩:ESX).st.τ=b7 (yAV::caps):=j6 ht
            rw[hu]
            simp only[Act.eval]
            rw[Array.getD_eq_getD_getElem?]
            cases k' with
            |zero=>
             have h1:yT (C.w.heap.size+1) (b7 (yAV::caps)) 0=.v (.func (.yield (C.w.heap.size+1)) #[] #[]):=rfl
             rw[h1]
             have h2:(((#[Value.func (.yield (C.w.heap.size+1)) #[] #[]]++lb)++Array.replicate (fi.ntmps-(#[Value.func (.yield (C.w.heap.size+1)) #[] #[]]++lb).size) undef)[0]?).getD undef=.func (.yield (C.w.heap.size+1)) #[] #[]:=by
              rw[Array.getElem?_append_left (by simp;omega),Array.getElem?_append_left (by simp)]
              rfl
             rw[h2]
             exact VR.v _ _
            |succ k'=>
             by_cases hk:k'<caps.length
             ·have h1:yT (C.w.heap.size+1) (b7 (yAV::caps)) (k'+1)=caps[k']:=by
               have h3:b7 (yAV::caps) (k'+1)=caps[k']:=by simp[b7,hk]
               show Jv _ (b7 (yAV::caps) (k'+1))=_
               rw[h3]
               refine uy ?_
               have:=List.all_eq_true.1 g4 caps[k'] (agt _)
               simpa using this
              have h2:(((#[Value.func (.yield (C.w.heap.size+1)) #[] #[]]++lb)++Array.replicate (fi.ntmps-(#[Value.func (.yield (C.w.heap.size+1)) #[] #[]]++lb).size) undef)[k'+1]?).getD undef=lb[k']'(by omega):=by
               rw[Array.getElem?_append_left (by simp;omega),Array.getElem?_append_right (by simp)]
               simp[show k'<lb.size by omega]
              rw[h1,h2]
              exact((g8 k' hk (by omega)).on (bk1.T hs.good)).on (bk2.T g1)
             ·have h1:yT (C.w.heap.size+1) (b7 (yAV::caps)) (k'+1)=.v undef:=by
               have h3:b7 (yAV::caps) (k'+1)=.v undef:=by simp[b7,List.getElem?_eq_none (Nat.le_of_not_lt hk)]
               show Jv _ (b7 (yAV::caps) (k'+1))=_
               rw[h3]
               rfl
              have h2:(((#[Value.func (.yield (C.w.heap.size+1)) #[] #[]]++lb)++Array.replicate (fi.ntmps-(#[Value.func (.yield (C.w.heap.size+1)) #[] #[]]++lb).size) undef)[k'+1]?).getD undef=undef:=by
               rw[Array.getElem?_append_right (by simp;omega),Array.getElem?_replicate]
               split<;>rfl
              rw[h1,h2]
              exact VR.v _ _
          refine callsIn_of_wp g0 hc trivial (Code.wpIn_mono ?_ (k RD WD M C0 (C.w.heap.size+1) C.w.heap.size (C.w.heap.size::Ds) fn a.tmps (q-1) hy hs.size ⟨ha.rd,ha.wd,ha.u,ha.new⟩ _ W1 h8)) rfl
          rintro e1 a' w' ⟨rfl,C2,rfl,h0,h9,hN2,hτ2,g9⟩
          obtain⟨v,hz⟩:=zk (P:=P) g3 a'.tmps C2.w
          have h4:rangePost Fence.wide q P (C.w.heap.size+1) (fun e1 a' w'=>e1=e'/\∃Ds',Xt RD WD M No C0 (⟨E.t,E'.h,E'.u,E'.rd,E'.wr⟩:ESX).st Ds' a' w') {a with defers:=[Eg C.w.heap.size]++a.defers} (.returned v) C2.w:=by
           refine⟨_,_,run_endLoop h0.ml.here (by cases ph<;>simp[mkL,X3]),?_⟩
           have bk:=h0.ml.book (.loop {mkL fn a.tmps pa assign body C.w.heap.size (X3 ph) ph with state:=.exhausted})
           have h6:Xt RD WD M No C0 (⟨E.t,E'.h,E'.u,E'.rd,E'.wr⟩:ESX).st (C.w.heap.size::Ds) {a with defers:=[Eg C.w.heap.size]++a.defers} (C2.w.putObj (C.w.heap.size+1) (.loop {mkL fn a.tmps pa assign body C.w.heap.size (X3 ph) ph with state:=.exhausted})):=by
            refine⟨C2.on _,rfl,⟨bk.good h0.good,h0.η,h0.free,by simp[hs.defers],hs.size,fun k'=>(g9 k').on (bk.T h0.good)⟩,h0.fr.on bk,List.nodup_cons.2 ⟨fun hd=>?_,g6⟩,fun d hd=>(h0.md d hd).other (hy d hd) _⟩
            have:=(hi _ hd).lt
            omega
           cases ph with
           |none=>
            simp only[Cj,agw]at h5
            exact⟨h5,_,h6⟩
           |some c=>
            cases c with
            |ret=>
             simp only[Cj,agw]at h5
             exact wpIn_ret ⟨h5,_,h6⟩
            |exit id=>
             simp only[Cj,agw]at h5
             exact wpIn_exit ⟨h5,_,h6⟩
            |_=>simp[Cj]at h5
          rcases K6 ho with rfl|rfl
          ·exact⟨h9,v,hz,h4⟩
          ·exact⟨h9,v,hz,h4⟩
 ·cases h
noncomputable def E5(P:Program)(N fuel:Nat)(f:cm):Code->ESX->Option (Exit×ESX)
 |.seq x y=>fun E=>match E5 P N fuel f x E with
  |some (.normal,E1)=>E5 P N fuel f y E1
  |r=>r
 |.block id c=>fun E=>match E5 P N fuel f c E with
  |some (.exit i,E1)=>bif Nat.beq i id then some (.normal,E1)else some (.exit i,E1)
  |r=>r
 |.rangeFunc g pa a b=>fun E=>X5 P fuel f N g pa a b E
 |c=>fun E=>jg N fuel f c E
theorem Hg{P:Program}{N fuel:Nat}{f:cm}(hf:f.Ok P)(hm:P.follows .mixedOrders=true):∀(c:Code) (E:ESX) (e:Exit) (E':ESX),Ax E.h E.u->E5 P N fuel f c E=some (e,E')->Rq P N c E e E':=by
 intro c;induction c with
 |seq x y ihx ihy=>
  intro E e E' hl h
  simp only[E5]at h
  split at h
  ·rename_i E1 h1
   obtain⟨m1,k1⟩:=ihx E _ E1 hl h1
   obtain⟨m2,k2⟩:=ihy E1 e E' (m1.low hl) h
   refine⟨m1.trans m2,fun RD WD M C0 q h0 Ds a w hr=>wpIn_seq ?_⟩
   refine Code.wpIn_mono ?_ (k1 RD WD M C0 q (h0.back m2) Ds a w hr)
   rintro e1 a' w' ⟨rfl,Ds',h3⟩
   exact k2 RD WD M C0 q (h0.up m1.u) Ds' a' w' h3
  ·rename_i h4
   obtain⟨m1,k1⟩:=ihx E e E' hl h
   refine⟨m1,fun RD WD M C0 q h0 Ds a w hr=>wpIn_seq ?_⟩
   refine Code.wpIn_mono ?_ (k1 RD WD M C0 q h0 Ds a w hr)
   rintro e1 a' w' ⟨rfl,h3⟩
   cases e1 with
   |normal=>exact absurd h (h4 _)
   |_=>exact⟨rfl,h3⟩
 |block id c ih=>
  intro E e E' hl h
  simp only[E5]at h
  split at h
  ·rename_i i E1 h1
   obtain⟨m1,k1⟩:=ih E _ E1 hl h1
   have h5:E'=E1/\((i=id/\e=.normal)\/(i≠id/\e=.exit i)):=by
    cases hb:Nat.beq i id with
    |true=>
     rw[hb]at h
     simp only[cond_true,agw,Prod.mk.injEq]at h
     obtain⟨rfl,rfl⟩:=h
     exact⟨rfl,.inl ⟨agv hb,rfl⟩⟩
    |false=>
     rw[hb]at h
     simp only[cond_false,agw,Prod.mk.injEq]at h
     obtain⟨rfl,rfl⟩:=h
     exact⟨rfl,.inr ⟨fun e=>(by subst e;rw[Nat.beq_refl]at hb;cases hb),rfl⟩⟩
   obtain⟨rfl,he⟩:=h5
   refine⟨m1,fun RD WD M C0 q h0 Ds a w hr=>wpIn_block ?_⟩
   refine Code.wpIn_mono ?_ (k1 RD WD M C0 q h0 Ds a w hr)
   rintro e1 a' w' ⟨rfl,h3⟩
   simp only[Exit.inBlock]
   rcases he with⟨h1,h2⟩|⟨h1,h2⟩
   ·rw[ag2 h1];exact⟨h2.symm,h3⟩
   ·rw[ag1 h1];exact⟨h2.symm,h3⟩
  ·rename_i h4
   obtain⟨m1,k1⟩:=ih E e E' hl h
   refine⟨m1,fun RD WD M C0 q h0 Ds a w hr=>wpIn_block ?_⟩
   refine Code.wpIn_mono ?_ (k1 RD WD M C0 q h0 Ds a w hr)
   rintro e1 a' w' ⟨rfl,h3⟩
   cases e1 with
   |exit i=>exact absurd h (h4 _ _)
   |_=>exact⟨rfl,h3⟩
 |rangeFunc g pa a b _ _=>
  intro E e E' hl h
  exact Ku hf hm hl h
 |_=>intro E e E' hl h;exact .of (mq (fuel:=fuel) hf hm _ _ _ _ hl h)
theorem nz{P:Program}{fn:Func}{tm:Array Value}{R:Ending->World->Prop}{B q:Nat}:∀(Ds:List Nat) (C:Ctx),Good C->Ds.Nodup->(∀D∈Ds,Mark B C D (.deferred (some [])))->
 (∀w',Book B C w'->∃v,(results fn tm).run P w'=.ok v w'/\R (.returned v) w')->LeavesInM Fence.wide q P fn tm R (Ds.map Eg) .returning C.w
 |[],C,hg,_,_,hK=>by show LeavesIn Fence.wide q P fn tm R [] .returning C.w;exact hK C.w ⟨rfl,rfl,rfl,ag8 _,fun _ _ _=>rfl⟩
 |D::Ds,C,hg,h0,h1,hK=>by have hD:=h1 D (by simp);have bk:=hD.book (.deferred none);exact⟨by simp,.inl ⟨D,_,rfl,run_takeDeferred hD.here,nz Ds (C.on (C.w.putObj D (.deferred none))) (bk.good hg) (List.nodup_cons.1 h0).2 (fun d hd=>(h1 d (by simp[hd])).other (fun e=>(List.nodup_cons.1 h0).1 (by rw[<-e];exact hd)) _) (fun w' hb=>hK w' ⟨hb.os.trans bk.os,hb.tape.trans bk.tape,hb.output.trans bk.output,ahb bk.size hb.size,fun k hk hc=>(hb.heap k (Nat.lt_of_lt_of_le hk bk.size) hc).trans (bk.heap k hk hc)⟩)⟩⟩
theorem Fd.of_bodyR{P:Program}{f:FuncId}{fn:Func}{c:Code}{N:Nat}{args:List AV}{η:bf}{r:Rc}{τ0:Nat->AV}{e0:Exit}{s1:St}(hf:P.funcs[f]? =some fn)(hb:fn.body=some c)(hN:fn.ntmps=N)(hl:args.length<=N)(hτ0:τ0=b7 args)(h7:Fits η r)(hηn:∀id,r.u0<=id->η id=none)
 (h:∀C0 q Ds a w,Xt (fun id=>r.F.testBit id=true\/(r.u0<=id/\id<r.u)) (fun id=>r.D id=true) r.u N C0 ⟨τ0,η,r.u0⟩ Ds a w->c.wpIn Fence.wide q P (fun e1 a' w'=>e1=e0/\∃Ds',Xt (fun id=>r.F.testBit id=true\/(r.u0<=id/\id<r.u)) (fun id=>r.D id=true) r.u N C0 s1 Ds' a' w') a w)
 (he:e0=.normal\/e0=.ret)(hη':∀id,r.D id=true->s1.η id=r.η id)(ho:Xu P (fun id=>r.F.testBit id=true\/(r.u0<=id/\id<r.u)) r.u N fn s1 r.v):Fd P f args η r:=by
 intro C vals hg ⟨hlen,hv⟩ hF ha
 subst hτ0
 have h5:∀id,r.u0<=id->id<r.u->C.η id=none:=fun id h1 h2=>by
  cases hb':C.η id with
  |none=>rfl
  |some b=>exact absurd (hg.used hb') (ha id h1 h2)
 have hr:SRelX [] (fun id=>r.F.testBit id=true\/(r.u0<=id/\id<r.u)) r.u N C ⟨b7 args,η,r.u0⟩ {tmps:=vals++Array.replicate (fn.ntmps-vals.size) undef,defers:=[]}:=by
  refine⟨hg,fun id hh=>hh.elim (hF id) (fun h=>(h5 id h.1 h.2).trans (hηn id h.1).symm),ha,rfl,by simp;omega,fun t=>?_⟩
  simp only[Act.eval,b7]
  by_cases ht:t<args.length
  ·have h1:args.getD t (.v undef)=args[t]:=by simp[List.getD,ht]
   have h2:(vals++Array.replicate (fn.ntmps-vals.size) undef).getD t undef=vals[t]'(by omega):=by
    rw[Array.getD_eq_getD_getElem?,Array.getElem?_append_left (by omega)]
    simp[show t<vals.size by omega]
   rw[h1,h2]
   exact hv t ht (by omega)
  ·have h1:args.getD t (.v undef)=.v undef:=by simp[List.getD,List.getElem?_eq_none (Nat.le_of_not_lt ht)]
   have h2:(vals++Array.replicate (fn.ntmps-vals.size) undef).getD t undef=undef:=by
    rw[Array.getD_eq_getD_getElem?,Array.getElem?_append_right (by omega)]
    rw[Array.getElem?_replicate]
    split<;>rfl
   rw[h1,h2]
   exact VR.v _ _
 refine callsIn_wide (n:=0).1 (callsIn_of_wp_marks hf hb trivial (Code.wpIn_mono ?_ (h C 0 [] _ C.w ⟨C,rfl,hr,FrX.refl C,List.nodup_nil,fun D hD=>by cases hD⟩)) rfl)
 rintro e a' w' ⟨rfl,Ds',C',rfl,h8,hi,hj,hk⟩
 have h6:∀w',Book C.w.heap.size C' w'->∃v,(results fn a'.tmps).run P w'=.ok v w'/\∃x' C'',(Ending.returned v)=.returned x'/\C''.w=w'/\(∀id,C''.η id=if r.D id=true then r.η id else C.η id)/\(∀id,C''.U id->C.U id\/r.D id=true)/\Good C''/\Ev C C''/\VR C'' r.v x':=by
  intro w' hc
  have h9:=h8.on hc
  have h0:=hi.on hc
  obtain⟨x,h1,h2⟩:=ho _ _ a' h9
  refine⟨x,h1,x,C'.on w',rfl,rfl,fun id=>?_,h0.U,h9.good,h0.ev,h2⟩
  by_cases hd:r.D id=true
  ·rw[ag2 hd,<-hη' id hd]
   refine h9.η id ?_
   rcases Rc.D_iff.1 hd with h3|h3
   ·exact .inl (h7.sub id h3)
   ·exact .inr h3
  ·rw[ag1 hd]
   exact h0.η id hd
 have h4:=nz (P:=P) (fn:=fn) (tm:=a'.tmps) (q:=0) (R:=fun e w'=>∃x C'',e=.returned x/\C''.w=w'/\(∀id,C''.η id=if r.D id=true then r.η id else C.η id)/\(∀id,C''.U id->C.U id\/r.D id=true)/\Good C''/\Ev C C''/\VR C'' r.v x) Ds' C' h8.good hj hk h6
 rw[<-h8.defers]at h4
 rcases he with rfl|rfl
 ·exact h4
 ·exact h4
theorem Mw{P:Program}{f:FuncId}{fn:Func}{c:Code}{ys:List AV}{h:Tri (Option Blk)}{u:Nat}{t:Tri AV}{e:Exit}{E:ESX}{r:Rx}(hf:P.funcs[f]? =some fn)(hb:fn.body=some c)(hl:ys.length<=fn.ntmps)(ht:kg 0 ys .nil=some t)
 (h5:Ax h u)(he:e=.normal\/e=.ret)(h9:Rq P fn.ntmps c ⟨t,h,u,0,0⟩ e E)(h3:O0 P fn E u=some r):r.u0=u/\Fits (be h) r.rc/\Fd P f ys (be h) r.rc:=by
 unfold O0 at h3
 split at h3
 ·cases h3
 ·rename_i m vs ha
  rw[ij,ij]at h3
  simp only[agw]at h3
  subst h3
  obtain⟨mo,hc⟩:=h9
  have h4:=mo.low h5
  have h6:=mo.sub (fun id h0=>by simp at h0)
  have h7:=mo.lrd (fun id h0=>by simp at h0)
  have hu:u<=E.u:=mo.u
  have hd:∀id,(Nat.lor E.rd m).testBit id=(E.rd.testBit id||m.testBit id):=fun id=>Nat.testBit_or ..
  have hF:∀id,(A6 (Nat.lor E.rd m) u).testBit id=true↔(id<u/\(E.rd.testBit id=true\/m.testBit id=true)):=fun id=>by rw[ui,hd,Bool.or_eq_true]
  have hW:∀id,(A6 E.wr u).testBit id=true↔(id<u/\E.wr.testBit id=true):=fun id=>ui
  have hD:∀id,(Rx.rc ⟨A6 (Nat.lor E.rd m) u,A6 E.wr u,u,E.u,E.h,Sz vs⟩).D id=true↔((id<u/\E.wr.testBit id=true)\/(u<=id/\id<E.u)):=fun id=>by
   rw[Rc.D_iff]
   show((A6 E.wr u).testBit id=true\/(u<=id/\id<E.u))↔_
   rw[hW]
  have h8:Fits (be h) (Rx.rc ⟨A6 (Nat.lor E.rd m) u,A6 E.wr u,u,E.u,E.h,Sz vs⟩):=by
   refine⟨hu,fun id h0=>?_,fun id h0=>?_,fun id h0=>((hF id).1 h0).1⟩
   ·show be E.h id=be h id
    by_cases h1:id<u
    ·refine mo.h id h1 ?_
     cases hw:E.wr.testBit id with
     |false=>rfl
     |true=>rw[(hD id).2 (.inl ⟨h1,hw⟩)]at h0;cases h0
    ·by_cases h2:id<E.u
     ·rw[(hD id).2 (.inr ⟨by omega,h2⟩)]at h0;cases h0
     ·rw[h4 id (by omega),h5 id (by omega)]
   ·obtain⟨h1,h2⟩:=(hW id).1 h0
    exact(hF id).2 ⟨h1,.inl (h6 id h2)⟩
  refine⟨rfl,h8,Fd.of_bodyR (e0:=e) (s1:=E.st) hf hb rfl hl (j6 ht) h8 h5 (fun C0 q Ds a w hr=>hc _ _ _ C0 q ?_ Ds a w hr) he (fun id _=>rfl) ?_⟩
  ·refine⟨fun id h0=>?_,fun id h0=>(hD id).2 ?_,ag8 _,fun id h1 h2=>⟨.inr ⟨h1,h2⟩,(hD id).2 (.inr ⟨h1,h2⟩)⟩⟩
   ·by_cases h1:id<u
    ·exact .inl ((hF id).2 ⟨h1,.inl h0⟩)
    ·exact .inr ⟨by show u<=id;omega,h7 id h0⟩
   ·by_cases h1:id<u
    ·exact .inl ⟨h1,h0⟩
    ·exact .inr ⟨by omega,h7 id (h6 id h0)⟩
  ·refine oa (zo _ _ _ (fun id b hb' hg=>?_) ha)
   ·by_cases h1:id<u
    ·exact .inl ((hF id).2 ⟨h1,.inr hg⟩)
    ·refine .inr ⟨by show u<=id;omega,?_⟩
     show id<E.u
     by_cases h2:id<E.u
     ·exact h2
     ·rw[h4 id (by omega)]at hb';cases hb'
theorem VR.tup_inv'{C:Ctx}{cs:List AV}{x:Value}(h:VR C (.tup cs) x):∃vs:Array Value,x=.tuple vs/\cs.length=vs.size/\∀i (h:i<cs.length) (h':i<vs.size),VR C cs[i] vs[i]:=by
 cases h with
 |tup hl hi=>exact⟨_,rfl,hl,hi⟩
 |imm h=>cases h with
  |tup hl hi=>exact⟨_,rfl,hl,fun i h h'=>.imm (hi i h h')⟩
theorem FzP.tup{fp:List Nat}{η:bf}{cs ds:List AV}(hl:cs.length=ds.length)(h:∀i (h:i<cs.length) (h':i<ds.length),FzP fp η cs[i] ds[i]):FzP fp η (.tup cs) (.tup ds):=fun C hg hη x hx=>by obtain⟨vs,rfl,h1,h2⟩:=hx.tup_inv';exact .tup (by omega) (fun i hi h0=>h i (by omega) hi C hg hη _ (h2 i (by omega) h0))
def fzT(η:bf)(a:AV):Option (List Nat×AV):=match a with
 |.tup cs=>match Dm (fz η 64) cs with
  |some (fp,ds)=>some (fp,.tup ds)
  |none=>none
 |a=>fz η 64 a
theorem aa1{η:bf}{a:AV}{fp:List Nat}{r:AV}(h:fzT η a=some (fp,r)):FzP fp η a r:=by
 unfold fzT at h
 split at h
 ·rename_i cs
  cases h1:Dm (fz η 64) cs with
  |none=>rw[h1]at h;cases h
  |some q=>
   obtain⟨fp1,ds⟩:=q
   rw[h1]at h
   simp only[agw,Prod.mk.injEq]at h
   obtain⟨rfl,rfl⟩:=h
   obtain⟨hl,hi⟩:=sf (Mk 64) _ _ _ h1
   exact FzP.tup hl.symm (fun i h h'=>hi i h h')
 ·exact Mk _ _ _ _ h
def inN(l:List Nat)(f:Nat):Bool:=match l with
 |[]=>false
 |a::r=>bif Nat.beq f a then true else inN r f
def u8s:List AV->Option (List UInt8)
 |[]=>some []
 |.v (.int .u8 (.ofNat n))::r=>bif Nat.blt n 256 then(match u8s r with|some l=>some (UInt8.ofNat n::l)|none=>none)else none
 |_=>none
theorem Sd:∀{news:List AV} {l:List UInt8},u8s news=some l->news.length=l.length/\∀j (h:j<news.length) (h':j<l.length),news[j]=.v (.int .u8 ((l[j].toNat:Nat):Int))
 |[],l,h=>by
  simp only[u8s,agw]at h
  subst h
  exact⟨rfl,fun j h=>absurd h (by simp)⟩
 |a::r,l,h=>by
  unfold u8s at h
  split at h
  ·rename_i h0;cases h0
  ·rename_i n r' h0
   obtain⟨rfl,rfl⟩:=List.cons.inj h0
   cases hn:Nat.blt n 256 with
   |false=>rw[hn]at h;cases h
   |true=>
    rw[hn]at h
    simp only[cond_true]at h
    split at h
    ·rename_i l' hl
     simp only[agw]at h
     subst h
     obtain⟨h1,h2⟩:=Sd hl
     have hlt:n<256:=aha hn
     refine⟨by simp[h1],fun j hj h3=>?_⟩
     cases j with
     |zero=>
      simp only[List.getElem_cons_zero]
      have:(UInt8.ofNat n).toNat=n:=by simp[UInt8.toNat_ofNat'];omega
      rw[this];rfl
     |succ j=>simp only[List.getElem_cons_succ];exact h2 j (by simpa using hj) (by simpa using h3)
    ·cases h
  ·cases h
section
variable{P:Program}{τ:Nat->AV}{η:bf}{d:Option Tmp}{ty:TypeId}{pos:String}{af:Array Edge}{g:Option (Nat×Bool)}
theorem yr{src dst e m:Nat}{x:Operand}{fp:List Nat}{news:List AV}{l:List UInt8}(hs:P.underlying src=some (.slice e))(he:P.underlying e=some (.int .u8))(hd:P.underlying dst=some .string)(h4:Src η fp (aev τ x) m news)(hn:u8s news=some l)(hm:m=l.length):
 LOp P ⟨d,.convert src dst x,ty,pos,af,g⟩ τ η fp [] (.v (.string ⟨l.toArray⟩)):=
 .look fp fun C a hg h7 h8=>by
  obtain⟨hl,h9⟩:=Sd hn;have h1:=h7 x (by simp[Op.operands])
  rcases h4 C hg h8 _ h1 with⟨h0,h00,ad,c,hx⟩|⟨ad,c,vals,hx,hvl,hv,hr⟩;have ha:l=[]:=ahm (by omega)
  subst ha;refine⟨.string ⟨#[]⟩,?_,VR.v C _⟩
  have h2:(convert src dst (.slice ad 0 c)).run P C.w=.ok (.string ⟨#[]⟩) C.w:=by
   cases ad with
   |none=>
    rw[run_convert_bytes_string C.w src dst e none 0 c hs he hd]
    simp[Conv.bytesToString]
    rfl
   |some ad=>exact run_convert_bytes_back C.w src dst e ad c [] hs he hd (fun j hj=>absurd hj (by simp))
  simp only[execOp,hx,Sem.run_bind,h2,ahc,ahd];refine⟨.string ⟨l.toArray⟩,?_,VR.v C _⟩;have h2:(convert src dst (.slice (some ad) m c)).run P C.w=.ok (.string ⟨l.toArray⟩) C.w:=by rw[hm];refine run_convert_bytes_back C.w src dst e ad c l hs he hd (fun j hj=>?_);have h5:j<news.length:=(by omega);have h6:j<vals.length:=(by omega);have h3:=hr j h5 h6;rw[h9 j h5 hj]at h3;rw[hv j _ (agu h6),h3.v_inv]
  simp only[execOp,hx,Sem.run_bind,h2,ahc,ahd]
end
def Tr(P:Program)(E:ESX)(o:Oper):Option Rec:=match o.op with
 |.convert s t x=>match P.underlying s,P.underlying t with
  |some (.slice e),some .string=>match P.underlying e with
   |some (.int .u8)=>match acy (be E.h) 1 (aev (bc E.t) x)with
    |some (fp,m,news)=>match u8s news with
     |some l=>bif Nat.beq m l.length then some ⟨fp,[],.v (.string ⟨l.toArray⟩),E.u⟩else none
     |none=>none
    |none=>none
   |_=>none
  |_,_=>none
 |_=>none
def kh(P:Program):cm:=fun o E=>match Wu P o E with
 |some r=>some r
 |none=>match Tr P E o with
  |some r=>zr E r
  |none=>none
theorem q8{P:Program}:(kh P).Ok P:=by
 intro o E r hl h
 unfold kh at h
 split at h
 ·rename_i r' hr
  simp only[agw]at h
  subst h
  exact Qv _ _ _ hl hr
 ·split at h
  ·rename_i r' hr
   refine oq h ?_
   obtain⟨d,op,ty,pos,af,g⟩:=o
   unfold Tr at hr
   split at hr
   ·rename_i s t x h0
    simp only at h0
    subst h0
    split at hr
    ·rename_i e hs ht
     split at hr
     ·rename_i he
      split at hr
      ·rename_i fp m news h1
       split at hr
       ·rename_i l hu
        cases hm:Nat.beq m l.length with
        |false=>rw[hm]at hr;cases hr
        |true=>
         rw[hm]at hr
         simp only[cond_true,agw]at hr
         subst hr
         exact yr hs he ht (Kd h1).1 hu (agv hm)
       ·cases hr
      ·cases hr
     ·cases hr
    ·cases hr
   ·cases hr
  ·cases h
end Go.Proofs.YtmbmbhkemgmhfaaGreatDoor
