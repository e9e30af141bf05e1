/- Texts of the claim. -/
import Derived.RangeFuncIn
import Derived.LoopNIn
import Derived.Laws.IdiomStrings
import Derived.Test.YtbhhmbchdponjaaGreatDoorE1
import Derived.Test.YtbhhmbchdponjaaGreatDoorE2
namespace Go.Proofs.YtbhhmbchdponjaaGreatDoor
set_option linter.unusedVariables false
set_option linter.unusedSimpArgs false
open Go.RowKit
section
variable{α:Type}
noncomputable def Ts(p:List Bool):Tri α->α->Option (Tri α):=
 List.rec (motive:=fun _=>Tri α->α->Option (Tri α))
  (fun t a=>Tri.rec (motive:=fun _=>Option (Tri α)) (some (.node (some a) .nil .nil)) (fun _ l r _ _=>some (.node (some a) l r)) t)
  (fun b _ ih t a=>Tri.rec (motive:=fun _=>Option (Tri α))
   (Bool.rec (motive:=fun _=>Option (Tri α)) (Option.rec (motive:=fun _=>Option (Tri α)) none (fun r=>some (.node none .nil r)) (ih .nil a)) (Option.rec (motive:=fun _=>Option (Tri α)) none (fun l=>some (.node none l .nil)) (ih .nil a)) b)
   (fun v l r _ _=>Bool.rec (motive:=fun _=>Option (Tri α)) (Option.rec (motive:=fun _=>Option (Tri α)) none (fun r'=>some (.node v l r')) (ih r a)) (Option.rec (motive:=fun _=>Option (Tri α)) none (fun l'=>some (.node v l' r)) (ih l a)) b) t) p
theorem vo:∀(p:List Bool) (t:Tri α) (a:α),Ts p t a=cd p t a
 |[],t,a=>by cases t<;>rfl
 |b::p,t,a=>by
  have e:Ts (b::p) t a=Tri.rec (motive:=fun _=>Option (Tri α))
   (Bool.rec (motive:=fun _=>Option (Tri α)) (Option.rec (motive:=fun _=>Option (Tri α)) none (fun r=>some (.node none .nil r)) (Ts p .nil a)) (Option.rec (motive:=fun _=>Option (Tri α)) none (fun l=>some (.node none l .nil)) (Ts p .nil a)) b)
   (fun v l r _ _=>Bool.rec (motive:=fun _=>Option (Tri α)) (Option.rec (motive:=fun _=>Option (Tri α)) none (fun r'=>some (.node v l r')) (Ts p r a)) (Option.rec (motive:=fun _=>Option (Tri α)) none (fun l'=>some (.node v l' r)) (Ts p l a)) b) t:=rfl
  rw[e]
  cases t with
  |nil=>
   cases b with
   |true=>simp only[vo p,cd];cases cd p .nil a<;>rfl
   |false=>simp only[vo p,cd];cases cd p .nil a<;>rfl
  |node v l r=>
   cases b with
   |true=>simp only[vo p,cd];cases cd p l a<;>rfl
   |false=>simp only[vo p,cd];cases cd p r a<;>rfl
noncomputable def aa0(k:Nat)(t:Tri α)(a:α):Option (Tri α):=Bool.rec (motive:=fun _=>Option (Tri α)) none (Ts (xn 24 k) t a) (Nat.ble k 16777214)
theorem Tt(k:Nat)(t:Tri α)(a:α):aa0 k t a=Tri.set 24 t k a:=by
 unfold aa0 Tri.set
 cases Nat.ble k 16777214 with
 |true=>exact vo _ _ _
 |false=>rfl
end
noncomputable def Hm(dst:Option Nat)(E:ESX)(r:Rx):Option ESX:=
 Option.rec (motive:=fun _=>Option ESX) (some ⟨E.t,r.h,r.u,Nat.lor E.rd r.F,Nat.lor E.wr r.W⟩) (fun d=>Option.rec (motive:=fun _=>Option ESX) none (fun t=>some ⟨t,r.h,r.u,Nat.lor E.rd r.F,Nat.lor E.wr r.W⟩) (aa0 d E.t r.v)) dst
theorem Oj(dst:Option Nat)(E:ESX)(r:Rx):Hm dst E r=E.step dst r:=by
 unfold Hm ESX.step
 rw[fh,fh,fh]
 cases dst with
 |none=>rfl
 |some d=>
  simp only[Tt,Ce]
  cases Tri.set 24 E.t d r.v<;>rfl
noncomputable def O9(f:bw)(ops:Array Oper)(l:List Oper):ESX->List Rx->Option (List Rx×ESX):=
 List.rec (motive:=fun _=>ESX->List Rx->Option (List Rx×ESX)) (fun E acc=>some (acc,E))
  (fun o _ ih E acc=>Option.rec (motive:=fun _=>Option (List Rx×ESX)) none
   (fun w=>Bool.rec (motive:=fun _=>Option (List Rx×ESX))
    (Option.rec (motive:=fun _=>Option (List Rx×ESX)) none (fun E'=>ih E' (⟨0,0,E.u,E.u,E.h,.v undef⟩::acc)) (Hm o.dst E ⟨0,0,E.u,E.u,E.h,.v undef⟩))
    (Option.rec (motive:=fun _=>Option (List Rx×ESX)) none (fun r=>Option.rec (motive:=fun _=>Option (List Rx×ESX)) none (fun E'=>ih E' (r::acc)) (Hm o.dst E r)) (f o E)) w)
   (Option.rec (motive:=fun _=>Option Bool) (some true) (fun _=>l9 ops (bc E.t) o) o.guard)) l
theorem Dw{f:bw}{ops:Array Oper}:∀(l:List Oper) (E:ESX) (acc:List Rx),O9 f ops l E acc=(j8 f ops l E).map fun q=>(q.1.reverse++acc,q.2)
 |[],E,acc=>rfl
 |o::l,E,acc=>by
  have hw:(Option.rec (motive:=fun _=>Option Bool) (some true) (fun _=>l9 ops (bc E.t) o) o.guard)=l9 ops (bc E.t) o:=by
   unfold l9
   cases hg:o.guard<;>rfl
  have e:O9 f ops (o::l) E acc=Option.rec (motive:=fun _=>Option (List Rx×ESX)) none
   (fun w=>Bool.rec (motive:=fun _=>Option (List Rx×ESX))
    (Option.rec (motive:=fun _=>Option (List Rx×ESX)) none (fun E'=>O9 f ops l E' (⟨0,0,E.u,E.u,E.h,.v undef⟩::acc)) (Hm o.dst E ⟨0,0,E.u,E.u,E.h,.v undef⟩))
    (Option.rec (motive:=fun _=>Option (List Rx×ESX)) none (fun r=>Option.rec (motive:=fun _=>Option (List Rx×ESX)) none (fun E'=>O9 f ops l E' (r::acc)) (Hm o.dst E r)) (f o E)) w)
   (Option.rec (motive:=fun _=>Option Bool) (some true) (fun _=>l9 ops (bc E.t) o) o.guard):=rfl
  rw[e,hw]
  simp only[j8,Oj]
  cases l9 ops (bc E.t) o with
  |none=>rfl
  |some w=>
   cases w with
   |false=>
    simp only
    cases E.step o.dst ⟨0,0,E.u,E.u,E.h,.v undef⟩with
    |none=>rfl
    |some E'=>
     simp only[Dw l]
     cases j8 f ops l E' with
     |none=>rfl
     |some q=>simp
   |true=>
    simp only
    cases f o E with
    |none=>rfl
    |some r=>
     simp only
     cases E.step o.dst r with
     |none=>rfl
     |some E'=>
      simp only[Dw l]
      cases j8 f ops l E' with
      |none=>rfl
      |some q=>simp
noncomputable def Gk{β:Type}(n:Nat)(k:Nat->Option β):Option β:=Nat.rec (motive:=fun _=>Option β) (k 0) (fun m _=>k (m+1)) n
theorem wx{β:Type}(n:Nat)(k:Nat->Option β):Gk n k=k n:=by cases n<;>rfl
noncomputable def Fp{β:Type}(E:ESX)(w:Nat)(k:ESX->Option β):Option β:=Gk E.rd fun rd=>Gk (Nat.lor E.wr w) fun wr=>Gk E.u fun u=>k ⟨E.t,E.h,u,rd,wr⟩
theorem Bj{β:Type}(E:ESX)(w:Nat)(k:ESX->Option β):Fp E w k=k ⟨E.t,E.h,E.u,E.rd,Nat.lor E.wr w⟩:=by
 unfold Fp
 rw[wx,wx,wx]
abbrev Out:=Option (Exit×ESX)
noncomputable def Kq(r:ESX->Out)(fuel:Nat):ESX->Out:=
 Nat.rec (motive:=fun _=>ESX->Out) (fun _=>none) (fun _ ih E=>match r E with
  |none=>none
  |some (e,E')=>match e with
   |.normal=>ih E'
   |.exit id=>some (.exit id,E')
   |.ret=>some (.ret,E')
   |_=>none) fuel
noncomputable def ip(N fuel:Nat)(f:bw):Code->ESX->Out
 |.skip=>fun E=>some (.normal,E)
 |.ret=>fun E=>some (.ret,E)
 |.exit id=>fun E=>some (.exit id,E)
 |.seq x y=>fun E=>match ip N fuel f x E with
  |none=>none
  |some (e,E')=>match e with
   |.normal=>ip N fuel f y E'
   |.exit id=>some (.exit id,E')
   |.ret=>some (.ret,E')
   |_=>none
 |.cond c x y=>fun E=>match xp c E with
  |.v (.bool true)=>ip N fuel f x E
  |.v (.bool false)=>ip N fuel f y E
  |_=>none
 |.block id c=>fun E=>match ip N fuel f c E with
  |none=>none
  |some (e,E')=>match e with
   |.normal=>some (.normal,E')
   |.exit id'=>bif Nat.beq id' id then some (.normal,E')else some (.exit id',E')
   |.ret=>some (.ret,E')
   |_=>none
 |.loop c=>Kq (ip N fuel f c) fuel
 |.region id ops drawn=>bif yl N ops then
  (bif drawn then
   (fun E=>match O9 f ops ops.toList ⟨E.t,E.h,E.u,E.rd,0⟩ []with
   |none=>none
   |some (rs,E')=>bif (Ah ops E.u rs.reverse E'||yy f ops ⟨E.t,E.h,E.u,E.rd,0⟩ rs.reverse)then Fp E' E.wr fun E'=>some (.normal,E')else none)
  else fun E=>match O9 f ops ops.toList E []with
   |none=>none
   |some (_,E')=>Fp E' 0 fun E'=>some (.normal,E'))
  else fun _=>none
 |_=>fun _=>none
noncomputable def Jm(P:Program)(ov:FuncId->Bool)(ovr:c8)(ext:bw)(steps:Nat):Nat->xe
 |0,_,_,_,_=>none
 |n+1,f,ys,h,u=>match P.funcs[f]? with
  |none=>none
  |some fn=>match fn.body with
   |none=>none
   |some c=>bif Nat.ble ys.length fn.ntmps then
    match ka 0 ys .nil with
    |none=>none
    |some t=>match ip fn.ntmps steps (opF P ov ovr (Jm P ov ovr ext steps n) ext) c ⟨t,h,u,0,0⟩with
     |some (.normal,E)=>zx P fn E u
     |some (.ret,E)=>zx P fn E u
     |_=>none
    else none
noncomputable def vx(P:Program)(ov:FuncId->Bool)(ovr:c8)(ext:bw)(steps depth:Nat)(f:FuncId)(ys:List AV):Option AV:=match Jm P ov ovr ext steps depth f ys .nil 0 with
 |none=>none
 |some r=>match fz (av r.h) 64 r.v with
  |none=>none
  |some (_,ret)=>some ret
theorem Fz{f:bw}{ops:Array Oper}{l:List Oper}{E E':ESX}{rs:List Rx}(h:O9 f ops l E []=some (rs,E')):j8 f ops l E=some (rs.reverse,E'):=by
 rw[Dw]at h
 cases hr:j8 f ops l E with
 |none=>rw[hr]at h;cases h
 |some q=>
  rw[hr]at h
  simp only[aep,adw,Prod.mk.injEq,List.append_nil]at h
  obtain⟨h1,h2⟩:=h
  rw[<-h1,List.reverse_reverse,<-h2]
def At(P:Program)(N:Nat)(c:Code)(E:ESX)(e:Exit)(E':ESX):Prop:=
 Mono E E'/\∀(RD WD:Nat->Prop) (M:Nat) (Q:Exit->St->Prop),Under RD WD M E.u E'->Q e E'.st->qr P RD WD M N c Q E.st
theorem jy{P:Program}{N fuel:Nat}{f:bw}(hf:f.Ok P)(hm:P.follows .mixedOrders=true):∀(c:Code) (E:ESX) (e:Exit) (E':ESX),ul E.h E.u->ip N fuel f c E=some (e,E')->At P N c E e E':=by
 intro c
 induction c with
 |skip=>
  intro E e E' hl h
  simp only[ip,adw,Prod.mk.injEq]at h
  obtain⟨rfl,rfl⟩:=h
  exact⟨Mono.refl _,fun RD WD M Q _ hq=>qr.skip hq⟩
 |ret=>
  intro E e E' hl h
  simp only[ip,adw,Prod.mk.injEq]at h
  obtain⟨rfl,rfl⟩:=h
  exact⟨Mono.refl _,fun RD WD M Q _ hq=>qr.ret hq⟩
 |exit id=>
  intro E e E' hl h
  simp only[ip,adw,Prod.mk.injEq]at h
  obtain⟨rfl,rfl⟩:=h
  exact⟨Mono.refl _,fun RD WD M Q _ hq=>qr.exit hq⟩
 |seq x y ihx ihy=>
  intro E e E' hl h
  simp only[ip]at h
  cases h1:ip N fuel f x E with
  |none=>rw[h1]at h;cases h
  |some q=>
   obtain⟨e1,E1⟩:=q
   rw[h1]at h
   obtain⟨m1,k1⟩:=ihx E e1 E1 hl h1
   cases e1 with
   |normal=>
    obtain⟨m2,k2⟩:=ihy E1 e E' (m1.low hl) h
    exact⟨m1.trans m2,fun RD WD M Q h0 hq=>qr.seq (k1 RD WD M _ (h0.back m2) (k2 RD WD M Q (h0.up m1.u) hq))⟩
   |exit id=>
    simp only[adw,Prod.mk.injEq]at h
    obtain⟨rfl,rfl⟩:=h
    exact⟨m1,fun RD WD M Q h0 hq=>qr.seq (k1 RD WD M _ h0 hq)⟩
   |ret=>
    simp only[adw,Prod.mk.injEq]at h
    obtain⟨rfl,rfl⟩:=h
    exact⟨m1,fun RD WD M Q h0 hq=>qr.seq (k1 RD WD M _ h0 hq)⟩
   |_=>simp at h
 |cond c x y ihx ihy=>
  intro E e E' hl h
  simp only[ip]at h
  split at h
  ·rename_i hc
   rw[cq]at hc
   obtain⟨m1,k1⟩:=ihx E e E' hl h
   exact⟨m1,fun RD WD M Q h0 hq=>qr.condT hc (k1 RD WD M Q h0 hq)⟩
  ·rename_i hc
   rw[cq]at hc
   obtain⟨m1,k1⟩:=ihy E e E' hl h
   exact⟨m1,fun RD WD M Q h0 hq=>qr.condF hc (k1 RD WD M Q h0 hq)⟩
  ·cases h
 |block id c ih=>
  intro E e E' hl h
  simp only[ip]at h
  cases h1:ip N fuel f c E with
  |none=>rw[h1]at h;cases h
  |some q=>
   obtain⟨e1,E1⟩:=q
   rw[h1]at h
   obtain⟨m1,k1⟩:=ih E e1 E1 hl h1
   cases e1 with
   |normal=>
    simp only[adw,Prod.mk.injEq]at h
    obtain⟨rfl,rfl⟩:=h
    exact⟨m1,fun RD WD M Q h0 hq=>qr.block (k1 RD WD M _ h0 hq)⟩
   |exit id'=>
    simp only at h
    cases hb:Nat.beq id' id with
    |true=>
     rw[hb]at h
     simp only[cond_true,adw,Prod.mk.injEq]at h
     obtain⟨rfl,rfl⟩:=h
     exact⟨m1,fun RD WD M Q h0 hq=>qr.block (k1 RD WD M _ h0 (by simp only[rl,hb,cond_true];exact hq))⟩
    |false=>
     rw[hb]at h
     simp only[cond_false,adw,Prod.mk.injEq]at h
     obtain⟨rfl,rfl⟩:=h
     exact⟨m1,fun RD WD M Q h0 hq=>qr.block (k1 RD WD M _ h0 (by simp only[rl,hb,cond_false];exact hq))⟩
   |ret=>
    simp only[adw,Prod.mk.injEq]at h
    obtain⟨rfl,rfl⟩:=h
    exact⟨m1,fun RD WD M Q h0 hq=>qr.block (k1 RD WD M _ h0 hq)⟩
   |_=>simp at h
 |loop c ih=>
  intro E e E' hl h
  simp only[ip]at h
  have key:∀(n:Nat) (E:ESX) (e:Exit) (E':ESX),ul E.h E.u->Kq (ip N fuel f c) n E=some (e,E')->Mono E E'/\∀(RD WD:Nat->Prop) (M:Nat) (Q:Exit->St->Prop),Under RD WD M E.u E'->Q e E'.st->
   ∃I:Nat->St->Prop,(∀m s,I m s->qr P RD WD M N c (andThen (fun s'=>∃m',m'<m/\I m' s') Q) s)/\I n E.st:=by
   intro n
   induction n with
   |zero=>intro E e E' hl h;simp[Kq]at h
   |succ n ihn=>
    intro E e E' hl h
    have h7:Kq (ip N fuel f c) (n+1) E=(match ip N fuel f c E with
     |none=>none
     |some (e,E')=>match e with
      |.normal=>Kq (ip N fuel f c) n E'
      |.exit id=>some (.exit id,E')
      |.ret=>some (.ret,E')
      |_=>none):=rfl
    rw[h7]at h
    cases h1:ip N fuel f c E with
    |none=>rw[h1]at h;cases h
    |some q=>
     obtain⟨e1,E1⟩:=q
     rw[h1]at h
     obtain⟨m1,k1⟩:=ih E e1 E1 hl h1
     have once:∀(e2:Exit),e1=e2->e2≠.normal->e=e2->E'=E1->Mono E E'/\∀(RD WD:Nat->Prop) (M:Nat) (Q:Exit->St->Prop),Under RD WD M E.u E'->Q e E'.st->
      ∃I:Nat->St->Prop,(∀m s,I m s->qr P RD WD M N c (andThen (fun s'=>∃m',m'<m/\I m' s') Q) s)/\I (n+1) E.st:=by
      rintro e2 rfl ho rfl rfl
      refine⟨m1,fun RD WD M Q h0 hq=>⟨fun m s=>s=E.st,fun m s hs=>?_,rfl⟩⟩
      subst hs
      refine k1 RD WD M _ h0 ?_
      cases e<;>first|exact absurd rfl ho|exact hq
     cases e1 with
     |normal=>
      obtain⟨m2,k2⟩:=ihn E1 e E' (m1.low hl) h
      refine⟨m1.trans m2,fun RD WD M Q h0 hq=>?_⟩
      obtain⟨I,i1,i2⟩:=k2 RD WD M Q (h0.up m1.u) hq
      refine⟨fun m s=>(m<=n/\I m s)\/(m=n+1/\s=E.st),fun m s hp=>?_,.inr ⟨rfl,rfl⟩⟩
      rcases hp with⟨hle,hI⟩|⟨rfl,rfl⟩
      ·refine(i1 m s hI).mono fun e s' hi=>?_
       cases e with
       |normal=>
        obtain⟨m',ht,hv⟩:=hi
        exact⟨m',ht,.inl ⟨by omega,hv⟩⟩
       |_=>exact hi
      ·exact k1 RD WD M _ (h0.back m2) ⟨n,Nat.lt_succ_self n,.inl ⟨ad9 _,i2⟩⟩
     |exit id=>
      simp only[adw,Prod.mk.injEq]at h
      exact once (.exit id) rfl (by intro e;cases e) h.1.symm h.2.symm
     |ret=>
      simp only[adw,Prod.mk.injEq]at h
      exact once .ret rfl (by intro e;cases e) h.1.symm h.2.symm
     |_=>simp at h
  obtain⟨m1,k1⟩:=key fuel E e E' hl h
  refine⟨m1,fun RD WD M Q h0 hq=>?_⟩
  obtain⟨I,i1,i2⟩:=k1 RD WD M Q h0 hq
  exact qr.loop I i1 i2
 |region id ops drawn=>
  intro E e E' hl h
  simp only[ip]at h
  cases hd:yl N ops with
  |false=>rw[hd]at h;simp at h
  |true=>
   rw[hd]at h
   simp only[cond_true]at h
   have hj:∀o∈ops.toList,fx N ops o=true:=List.all_eq_true.1 hd
   have eo:ops=ops.toList.toArray:=by simp
   have h8:∀(Eb E1:ESX) (r:Rx) (RD WD:Nat->Prop) (M:Nat),(∀id,E.u<=id->id<M->RD id/\WD id)->RunOk Eb E1 r->Eb.u=E.u->(∀id,E1.rd.testBit id=true->RD id)->(∀id,E1.wr.testBit id=true->WD id)->E1.u<=M->Inn RD WD M r.rc:=by
    intro Eb E1 r RD WD M hn hr hu h1 h2 h3
    have:=hr.u0
    have:=hr.u
    refine⟨fun id h4=>h1 id (hr.F id h4),fun id a b=>(hn id ?_ ?_).1,fun id h4=>?_,aec hr.u h3⟩
    ·have ha:r.u0<=id:=a
     omega
    ·have hb:id<r.u:=b
     omega
    ·rcases Rc.D_iff.1 h4 with h5|⟨h5,h6⟩
     ·exact h2 id (hr.W id h5)
     ·have ha:r.u0<=id:=h5
      have hb:id<r.u:=h6
      exact(hn id (by omega) (by omega)).2
   cases drawn with
   |true=>
    simp only[cond_true]at h
    cases h1:O9 f ops ops.toList ⟨E.t,E.h,E.u,E.rd,0⟩ []with
    |none=>rw[h1]at h;cases h
    |some q=>
     obtain⟨rs,E1⟩:=q
     rw[h1]at h
     simp only at h
     cases hc:(Ah ops E.u rs.reverse E1||yy f ops ⟨E.t,E.h,E.u,E.rd,0⟩ rs.reverse)with
     |false=>rw[hc]at h;simp at h
     |true=>
      rw[hc]at h
      simp only[cond_true,Bj,adw,Prod.mk.injEq]at h
      obtain⟨rfl,rfl⟩:=h
      obtain⟨hs,m1,hr⟩:=x8 hf (N:=N) _ ⟨E.t,E.h,E.u,E.rd,0⟩ _ _ hj hl (Fz h1)
      have he:∀id,(Nat.lor E1.wr E.wr).testBit id=(E1.wr.testBit id||E.wr.testBit id):=fun id=>Nat.testBit_or ..
      refine⟨⟨m1.rd,fun id h4=>?_,m1.u,fun id h4 hw=>?_,m1.low,fun hs id h4=>?_,m1.lrd⟩,fun RD WD M Q h0 hq=>?_⟩
      ·show(Nat.lor E1.wr E.wr).testBit id=true
       rw[he,h4,Bool.or_true]
      ·have hk:(Nat.lor E1.wr E.wr).testBit id=false:=hw
       rw[he,Bool.or_eq_false_iff]at hk
       exact m1.h id h4 hk.1
      ·have h9:(Nat.lor E1.wr E.wr).testBit id=true:=h4
       rw[he,Bool.or_eq_true]at h9
       rcases h9 with h5|h5
       ·exact m1.sub (fun id h=>by simp at h) id h5
       ·exact m1.rd id (hs id h5)
      ·have hI:∀r∈rs.reverse.map Rx.rc,Inn RD WD M r:=fun r hg=>by
        obtain⟨x,hx,rfl⟩:=aej.1 hg
        exact h8 _ _ x RD WD M h0.new (hr x hx) rfl h0.rd (fun id h4=>h0.wd id (by
         show(Nat.lor E1.wr E.wr).testBit id=true
         rw[he,h4,Bool.true_or])) h0.u
       rw[Bool.or_eq_true]at hc
       rw[eo]
       rcases hc with hc|hc
       ·have hh:DrawOk ops.toList (rs.reverse.map Rx.rc):=H8 (E:=⟨E.t,E.h,E.u,E.rd,0⟩) (by rw[<-eo];exact hs) hr (by rw[<-eo];exact hc)
        exact qr.regionD hm (by rw[<-eo];exact hs) hh hI hq
       ·obtain⟨sa,hh⟩:=Hn hf (P:=P) (N:=N) (l:=ops.toList) (E:=⟨E.t,E.h,E.u,E.rd,0⟩) (E':=E1) hl (by rw[<-eo];exact hs) (by rw[<-eo];exact hc)
        exact C8 hm (by rw[<-eo];exact hs) hh hI hq
   |false=>
    simp only[cond_false]at h
    cases h1:O9 f ops ops.toList E []with
    |none=>rw[h1]at h;cases h
    |some q=>
     obtain⟨rs,E1⟩:=q
     rw[h1]at h
     simp only[Bj,adw,Prod.mk.injEq]at h
     have e1:(⟨E1.t,E1.h,E1.u,E1.rd,Nat.lor E1.wr 0⟩:ESX)=E1:=by
      have:Nat.lor E1.wr 0=E1.wr:=Nat.or_zero _
      rw[this]
     rw[e1]at h
     obtain⟨rfl,rfl⟩:=h
     obtain⟨hs,m1,hr⟩:=x8 hf (N:=N) _ _ _ _ hj hl (Fz h1)
     refine⟨m1,fun RD WD M Q h0 hq=>?_⟩
     rw[eo]
     refine qr.region (by rw[<-eo];exact hs) (fun r hg=>?_) hq
     obtain⟨x,hx,rfl⟩:=aej.1 hg
     exact h8 _ _ x RD WD M h0.new (hr x hx) rfl h0.rd h0.wd h0.u
 |_=>intro E e E' hl h;simp[ip]at h
theorem s9{P:Program}{f:FuncId}{fn:Func}{c:Code}{ys:List AV}{h:Tri (Option Blk)}{u:Nat}{t:Tri AV}{e:Exit}{E:ESX}{r:Rx}(hf:P.funcs[f]? =some fn)(hb:fn.body=some c)(hl:ys.length<=fn.ntmps)(ht:ka 0 ys .nil=some t)
 (h5:ul h u)(he:e=.normal\/e=.ret)(h9:At P fn.ntmps c ⟨t,h,u,0,0⟩ e E)(h3:zx P fn E u=some r):r.u0=u/\Fits (av h) r.rc/\Aq P f ys (av h) r.rc:=by
 unfold zx at h3
 split at h3
 ·cases h3
 ·rename_i m vs ha
  rw[fh,fh]at h3
  simp only[adw]at h3
  subst h3
  obtain⟨mo,hc⟩:=h9
  have h4:=mo.low h5
  have h6:=mo.sub (fun id h0=>by simp at h0)
  have h7:=mo.lrd (fun id h0=>by simp at h0)
  have hu:u<=E.u:=mo.u
  have hd:∀id,(Nat.lor E.rd m).testBit id=(E.rd.testBit id||m.testBit id):=fun id=>Nat.testBit_or ..
  have hF:∀id,(wq (Nat.lor E.rd m) u).testBit id=true↔(id<u/\(E.rd.testBit id=true\/m.testBit id=true)):=fun id=>by rw[rg,hd,Bool.or_eq_true]
  have hW:∀id,(wq E.wr u).testBit id=true↔(id<u/\E.wr.testBit id=true):=fun id=>rg
  have hD:∀id,(Rx.rc ⟨wq (Nat.lor E.rd m) u,wq E.wr u,u,E.u,E.h,Np vs⟩).D id=true↔((id<u/\E.wr.testBit id=true)\/(u<=id/\id<E.u)):=fun id=>by
   rw[Rc.D_iff]
   show((wq E.wr u).testBit id=true\/(u<=id/\id<E.u))↔_
   rw[hW]
  have h8:Fits (av h) (Rx.rc ⟨wq (Nat.lor E.rd m) u,wq E.wr u,u,E.u,E.h,Np vs⟩):=by
   refine⟨hu,fun id h0=>?_,fun id h0=>?_,fun id h0=>((hF id).1 h0).1⟩
   ·show av E.h id=av h id
    by_cases h1:id<u
    ·refine mo.h id h1 ?_
     cases hw:E.wr.testBit id with
     |false=>rfl
     |true=>rw[(hD id).2 (.inl ⟨h1,hw⟩)]at h0;cases h0
    ·by_cases h2:id<E.u
     ·rw[(hD id).2 (.inr ⟨by omega,h2⟩)]at h0;cases h0
     ·rw[h4 id (by omega),h5 id (by omega)]
   ·obtain⟨h1,h2⟩:=(hW id).1 h0
    exact(hF id).2 ⟨h1,.inl (h6 id h2)⟩
  refine⟨rfl,h8,Aq.of_body hf hb rfl hl (ki ht) h8 h5 ?_⟩
  refine hc _ _ _ _ ⟨fun id h0=>?_,fun id h0=>(hD id).2 ?_,ad9 _,fun id h1 h2=>⟨.inr ⟨h1,h2⟩,(hD id).2 (.inr ⟨h1,h2⟩)⟩⟩ ⟨he,fun id _=>rfl,la (uu _ _ _ (fun id b hb' hg=>?_) ha)⟩
  ·by_cases h1:id<u
   ·exact .inl ((hF id).2 ⟨h1,.inl h0⟩)
   ·exact .inr ⟨by show u<=id;omega,h7 id h0⟩
  ·by_cases h1:id<u
   ·exact .inl ⟨h1,h0⟩
   ·exact .inr ⟨by omega,h7 id (h6 id h0)⟩
  ·by_cases h1:id<u
   ·exact .inl ((hF id).2 ⟨h1,.inr hg⟩)
   ·refine .inr ⟨by show u<=id;omega,?_⟩
    show id<E.u
    by_cases h2:id<E.u
    ·exact h2
    ·rw[h4 id (by omega)]at hb';cases hb'
theorem Ov{P:Program}{ov:FuncId->Bool}{ovr:c8}{ext:bw}(hm:P.follows .mixedOrders=true)(ho:∀f ys ret,ovr f ys=some ret->d8 P f ys ret)(h2:ext.Ok P){steps:Nat}:∀(n:Nat),xe.Ok P (Jm P ov ovr ext steps n):=by
 intro n
 induction n with
 |zero=>intro f ys h u r _ hr;simp[Jm]at hr
 |succ n ih=>
  intro f ys h u r h0 hr
  simp only[Jm]at hr
  split at hr
  ·cases hr
  ·rename_i fn hf
   split at hr
   ·cases hr
   ·rename_i c hb
    cases hl:Nat.ble ys.length fn.ntmps with
    |false=>rw[hl]at hr;simp at hr
    |true=>
     rw[hl]at hr
     simp only[cond_true]at hr
     split at hr
     ·cases hr
     ·rename_i t ht
      split at hr
      ·rename_i E h1
       exact s9 hf hb (aeb hl) ht h0 (.inl rfl) (jy (nh ho ih h2) hm _ _ _ _ h0 h1) hr
      ·rename_i E h1
       exact s9 hf hb (aeb hl) ht h0 (.inr rfl) (jy (nh ho ih h2) hm _ _ _ _ h0 h1) hr
      ·cases hr
theorem Tx{P:Program}{ov:FuncId->Bool}{ovr:c8}{ext:bw}(hm:P.follows .mixedOrders=true)(ho:∀f ys ret,ovr f ys=some ret->d8 P f ys ret)(h0:ext.Ok P){steps depth:Nat}{f:FuncId}{ys:List AV}{ret:AV}(h:vx P ov ovr ext steps depth f ys=some ret):d8 P f ys ret:=by
 unfold vx at h
 split at h
 ·cases h
 ·rename_i r hr
  split at h
  ·cases h
  ·rename_i fp ret' hz
   simp only[adw]at h
   subst h
   have hη0:av .nil=lx:=vg
   obtain⟨h1,h2,h3⟩:=Ov hm ho h0 depth f ys .nil 0 r (fun id _=>by rw[hη0];rfl) hr
   rw[hη0]at h2 h3
   exact te h2 (P4 64 _ _ _ hz) h3
theorem VR.forget{C C':Ctx}(hρ:C'.ρ=C.ρ)(h5:C'.sz=C.sz)(hT:C'.T=C.T)(hw:C'.w=C.w)(hU:C'.U=C.U)(hη:∀id,C'.η id=C.η id\/C'.η id=none)(h0:∀{id b},C.η id=some b->C.U id){a:AV}{x:Value}(h:VR C a x):VR C' a x:=by
 have st:∀{id ver:Nat},(∀b,C.η id=some b->ver<b.ver)->∀b,C'.η id=some b->ver<b.ver:=fun{id ver} h b hb=>by
  rcases hη id with e|e
  ·rw[e]at hb;exact h b hb
  ·rw[e]at hb;cases hb
 have keep:∀{id:Nat} {b:Blk},C.η id=some b->C'.η id=some b\/C'.η id=none:=fun{id b} hb=>(hη id).imp (fun e=>e.trans hb) (fun e=>e)
 have non:∀{id ver:Nat},C'.η id=none->∀b,C'.η id=some b->ver<b.ver:=fun e b hb=>by rw[e]at hb;cases hb
 induction h with
 |imm h=>exact .imm (by rw[hT,hw];exact h)
 |ptr hb he hn=>
  rcases keep hb with h'|h'
  ·rw[<-hρ];exact .ptr h' he hn
  ·exact .stalep rfl (by rw[hU];exact h0 hb) (non h')
 |sl hb he hn h1 h2 h3 h4=>
  rcases keep hb with h'|h'
  ·rw[<-hρ];exact .sl h' he hn h1 h2 h3 (by rw[hρ,h5];exact h4)
  ·exact .stales rfl (by rw[hU];exact h0 hb) (non h')
 |slz hb he hn=>
  rcases keep hb with h'|h'
  ·exact .slz h' he hn
  ·exact .stales rfl (by rw[hU];exact h0 hb) (non h')
 |slnil hb he hn=>
  rcases keep hb with h'|h'
  ·exact .slnil h' he hn
  ·exact .stales rfl (by rw[hU];exact h0 hb) (non h')
 |mp hb he hn=>
  rcases keep hb with h'|h'
  ·rw[<-hρ];exact .mp h' he hn
  ·exact .stalem rfl (by rw[hU];exact h0 hb) (non h')
 |it hb he hn=>
  rcases keep hb with h'|h'
  ·rw[<-hρ];exact .it h' he hn
  ·exact .stalei rfl (by rw[hU];exact h0 hb) (non h')
 |stalep h1 hu hs=>exact .stalep h1 (by rw[hU];exact hu) (st hs)
 |stales h1 hu hs=>exact .stales h1 (by rw[hU];exact hu) (st hs)
 |stalem h1 hu hs=>exact .stalem h1 (by rw[hU];exact hu) (st hs)
 |stalei h1 hu hs=>exact .stalei h1 (by rw[hU];exact hu) (st hs)
 |agg hl _ ih=>exact .agg hl ih
 |tup hl _ ih=>exact .tup hl ih
 |clo hl _ ih=>exact .clo hl ih
theorem ObjR.forget{C C':Ctx}(hρ:C'.ρ=C.ρ)(h3:C'.sz=C.sz)(hT:C'.T=C.T)(hw:C'.w=C.w)(hU:C'.U=C.U)(hη:∀id,C'.η id=C.η id\/C'.η id=none)(h0:∀{id b},C.η id=some b->C.U id){cs:List AV}{o:Obj}(h:ObjR C cs o):ObjR C' cs o:=by
 cases h with
 |map hl hi=>exact .map hl (fun i h1 h2=>⟨(hi i h1 h2).1,(hi i h1 h2).2.1.forget hρ h3 hT hw hU hη h0,(hi i h1 h2).2.2⟩)
 |siter=>exact .siter
 |miter0=>exact .miter0
 |miter hv=>exact .miter (hv.forget hρ h3 hT hw hU hη h0)
def Ctx.less(C:Ctx)(η:bg):Ctx:={C with η:=η}
theorem r9{C:Ctx}{η:bg}(hg:Good C)(hη:∀id,η id=C.η id\/η id=none):Good (C.less η)/\Ev C (C.less η):=by
 have sub:∀{id b},η id=some b->C.η id=some b:=fun{id b} hb=>by
  rcases hη id with e|e
  ·rw[<-e];exact hb
  ·rw[e]at hb;cases hb
 have live:∀{id},(C.less η).live id->C.live id:=fun⟨b,hb,hk⟩=>⟨b,sub hb,hk⟩
 have mine:∀{k},(C.less η).mine k->C.mine k:=fun⟨id,hl,hk⟩=>⟨id,live hl,hk⟩
 refine⟨⟨fun hb=>hg.used (sub hb),fun{id b} hb hk=>?_,fun{id b} hb hn=>?_,fun h1 h2 h3=>hg.inj (live h1) (live h2) h3,hg.tok,fun hk hT=>hg.apart (mine hk) hT,fun hb hv hn=>hg.tight (sub hb) hv hn⟩,
  ⟨⟨rfl,rfl,rfl,ad9 _,fun _ _ _=>rfl,fun k hk=>.inl (mine hk),fun _ h=>h,fun _ h=>.inl h⟩,fun _ h=>h,fun id b' _ hb=>⟨b',sub hb,ad9 _,fun _=>⟨rfl,rfl,rfl,rfl⟩⟩⟩⟩
 ·obtain⟨o,h1,h2⟩:=hg.obj (sub hb) hk
  exact⟨o,h1,ObjR.forget (C:=C) (C':=C.less η) rfl rfl rfl rfl rfl hη hg.used h2⟩
 ·obtain⟨c,t,g1,g2,g3,g4⟩:=hg.blk (sub hb) hn
  exact⟨c,t,g1,g2,g3,fun j hj h0=>VR.forget (C:=C) (C':=C.less η) rfl rfl rfl rfl rfl hη hg.used (g4 j hj h0)⟩
def LOps(P:Program)(o:Oper)(τ:Nat->AV)(η:bg)(fp:List Nat)(id:Nat)(outs:List (Blk×AV)):Prop:=
 ∀(C:Ctx) (a:Act),Good C->(∀x∈o.op.operands,VR C (aev τ x) (a.eval x))->(∀i∈fp,C.η i=η i)->
  ∀(K:Act->World->Prop) (Q:Exit->Act->World->Prop),
   (∀q∈outs,∀x C',C'.η=C.η.set id (some q.1)->C'.U=C.U->Good C'->Ev C C'->VR C' q.2 x->K (a.put o.dst x) C'.w)->o.wp P a C.w K Q
section
variable{P:Program}{τ:Nat->AV}{η:bg}{d:Option Tmp}{ty:TypeId}{pos:String}{af:Array Edge}{g:Option (Nat×Bool)}
def Bx(P:Program)(τ:Nat->AV)(η:bg)(x:Operand):Option (Nat×Nat×List (Blk×AV)):=match aev τ x with
 |.it id ver=>match Ks η id ver with
  |some (b,.ofm mid mver since seen last)=>match pm η mid mver with
   |none=>none
   |some (mb,clock,es)=>
    bif !seen.isEmpty&&!es.isEmpty&&es.all (fun e=>Nat.ble last e.2.2)then none else
    match(es.filter fun e=>!seen.contains e.2.2).filter (fun e=>Nat.blt e.2.2 since),(es.filter fun e=>!seen.contains e.2.2).filter (fun e=>Nat.ble since e.2.2)with
    |e1::e2::l,[]=>some (id,mid,(e1::e2::l).map fun e=>(jt ver b.esz (.mp mid mver) since (seen++[e.2.2]) clock,.tup [.v (.bool true),.v e.1,e.2.1]))
    |_,_=>none
  |_=>none
 |_=>none
theorem J6{x:Operand}{id mid:Nat}{outs:List (Blk×AV)}(h:Bx P τ η x=some (id,mid,outs)):(∃b,η id=some b)/\LOps P ⟨d,.next x false,ty,pos,af,g⟩ τ η [id,mid] id outs:=by
 unfold Bx at h
 split at h
 ·rename_i id' ver hx
  split at h
  ·rename_i b mid' mver since seen last hb
   obtain⟨hn,ha⟩:=ux hb
   have hv:b.cs=ic (.mp mid' mver) since seen last:=by rw[ha];rfl
   split at h
   ·cases h
   ·rename_i mb clock es hm
    obtain⟨hw,ho⟩:=iz hm
    cases h0:(!seen.isEmpty&&!es.isEmpty&&es.all (fun e=>Nat.ble last e.2.2))with
    |true=>rw[h0]at h;simp at h
    |false=>
     rw[h0]at h
     simp only[cond_false]at h
     split at h
     ·rename_i a1 a2 al f1 f2
      simp only[adw,Prod.mk.injEq]at h
      obtain⟨rfl,rfl,rfl⟩:=h
      refine⟨⟨b,hn⟩,fun C a hg hy hp K Q hK=>?_⟩
      have hc:C.η id'=some b:=(hp id' (by simp)).trans hn
      have hq:C.η mid'=some mb:=(hp mid' (by simp)).trans hw
      have e1:=hy x (by simp[Op.operands])
      rw[hx]at e1
      have e1':=e1.it_inv hc (by rw[ha];rfl)
      have hd:b.kind=2:=by rw[ha];rfl
      obtain⟨ob,g1,g2⟩:=hg.obj hc hd
      rw[hv]at g2
      obtain⟨m,rfl,hs⟩:=g2.miter_inv
      have hz:=hs.mp_inv hq (by rw[ho];rfl)
      have g0:m=(C.ρ mid').1:=by simpa using hz
      subst g0
      obtain⟨entries,q1,q2,q3⟩:=wm hg hq ho
      have h4:All2 (fun(x:Value×AV×Nat) (e:MapEntry)=>e.key=x.1/\VR C x.2.1 e.val/\e.born=x.2.2) es entries.toList:=nb (by simpa using q2) (fun i h1 h2=>by simpa using q3 i h1 (by simpa using h2))
      have h3:All2 (fun(x:Value×AV×Nat) (e:MapEntry)=>e.key=x.1/\VR C x.2.1 e.val/\e.born=x.2.2) (es.filter fun e=>!seen.contains e.2.2) (entries.filter fun e=>!seen.toArray.contains e.born).toList:=by
       rw[Array.toList_filter]
       refine h4.filter (fun a b h5=>?_)
       rw[h5.2.2]
       simp
      have t1:(!seen.toArray.isEmpty&&!entries.isEmpty&&entries.all (·.born≥last))=false:=by
       rw[<-h0]
       congr 1
       ·congr 1
        ·simp
        ·have:=h4.isEmpty
         rw[this]
         simp
       ·rw[h4.all (q:=fun e=>decide (e.born≥last)) (fun a b h5=>by
         rw[h5.2.2]
         rw[Bool.eq_iff_iff]
         simp[Nat.ble_eq])]
        simp
      have t2:All2 (fun(x:Value×AV×Nat) (e:MapEntry)=>e.key=x.1/\VR C x.2.1 e.val/\e.born=x.2.2) ((es.filter fun e=>!seen.contains e.2.2).filter (fun e=>Nat.blt e.2.2 since)) ((entries.filter fun e=>!seen.toArray.contains e.born).filter (·.born<since)).toList:=by
       rw[Array.toList_filter]
       refine h3.filter (fun a b h5=>?_)
       rw[h5.2.2,Bool.eq_iff_iff]
       simp
      have t3:All2 (fun(x:Value×AV×Nat) (e:MapEntry)=>e.key=x.1/\VR C x.2.1 e.val/\e.born=x.2.2) ((es.filter fun e=>!seen.contains e.2.2).filter (fun e=>Nat.ble since e.2.2)) ((entries.filter fun e=>!seen.toArray.contains e.born).filter (·.born≥since)).toList:=by
       rw[Array.toList_filter]
       refine h3.filter (fun a b h5=>?_)
       rw[h5.2.2,Bool.eq_iff_iff]
       simp[Nat.ble_eq]
      rw[f1]at t2
      rw[f2]at t3
      generalize hf:((entries.filter fun e=>!seen.toArray.contains e.born).filter (·.born<since))=old at t2
      generalize g3:((entries.filter fun e=>!seen.toArray.contains e.born).filter (·.born≥since))=nw at t3
      obtain⟨ol⟩:=old
      obtain⟨nl⟩:=nw
      have g4:nl=[]:=by
       cases t3;rfl
      subst g4
      have hi:∀{l:List (Value×AV×Nat)} {m:List MapEntry} {R},All2 R l m->l.length=m.length:=fun h=>by
       induction h with
       |nil=>rfl
       |cons _ _ ih=>simp[ih]
      have g5:2<=ol.length:=by
       have:=hi t2
       simp at this
       omega
      have g6:(⟨ol⟩:Array MapEntry).isEmpty=false:=by
       cases ol with
       |nil=>simp at g5
       |cons=>rfl
      have hj:∀{l:List (Value×AV×Nat)} {m:List MapEntry},All2 (fun(x:Value×AV×Nat) (e:MapEntry)=>e.key=x.1/\VR C x.2.1 e.val/\e.born=x.2.2) l m->∀(k:Nat) (h':k<m.length),∃e∈l,m[k].key=e.1/\VR C e.2.1 m[k].val/\m[k].born=e.2.2:=by
       intro l m h
       induction h with
       |nil=>intro k h';simp at h'
       |cons hr _ ih=>
        intro k h'
        cases k with
        |zero=>exact⟨_,List.mem_cons_self ..,hr⟩
        |succ k=>
         obtain⟨e,he,hh⟩:=ih k (by simpa using h')
         exact⟨e,List.mem_cons_of_mem _ he,hh⟩
      obtain⟨gd,ed⟩:=jh hg
      have h6:((if(⟨ol⟩:Array MapEntry).isEmpty=true then(#[none]:Array (Option MapEntry))else#[])++((⟨ol⟩:Array MapEntry)++(⟨[]⟩:Array MapEntry)).map some)=(⟨ol⟩:Array MapEntry).map some:=by
       rw[g6]
       simp
      have g7:((⟨ol⟩:Array MapEntry).map some).size=ol.length:=by simp
      -- the choice
      have g8:(Question.mapNext ol.length).forced=false:=by
       simp[Question.forced];omega
      have ht:(choose (.mapNext ol.length)).run P C.w=.ok ((Question.mapNext ol.length).cut (C.w.tape C.w.drawn (.mapNext ol.length))) C.w.drew:=by
       simp[choose,Sem.run,g8]
      generalize hk:(Question.mapNext ol.length).cut (C.w.tape C.w.drawn (.mapNext ol.length))=k at ht
      have h7:k<ol.length:=by
       rw[<-hk]
       exact Nat.mod_lt _ (by omega)
      obtain⟨e,he,k1,k2,k3⟩:=hj t2 k h7
      have g9:((⟨ol⟩:Array MapEntry).map some)[k]? =some (some ol[k]):=by simp[h7]
      have gd':C.w.drew.heap[(C.ρ id').1]? =some (.mapIter (some (C.ρ mid').1) since seen.toArray last):=g1
      have hl:(execOp a.eval ⟨d,.next x false,ty,pos,af,g⟩).run P C.w=.ok (.value (.tuple #[.bool true,ol[k].key,ol[k].val])) {C.w.drew with heap:=C.w.drew.heap.setIfInBounds (C.ρ id').1 (.mapIter (some (C.ρ mid').1) since (seen++[e.2.2]).toArray clock)}:=by
       have h8:(seen++[e.2.2]).toArray=seen.toArray.push ol[k].born:=by rw[k3];simp
       rw[h8]
       have ga:(execOp a.eval ⟨d,.next x false,ty,pos,af,g⟩).run P C.w=((Instr.next (a.eval x) false ty).run P C.w).andThen fun x w=>.ok (.value x) w:=by
        simp only[execOp,Sem.run_bind]
        rfl
       rw[ga,e1']
       simp only[Instr.next,Sem.run_bind,dx g1 (fun _ _ _ e=>by cases e),aed,dx q1 (fun _ _ _ e=>by cases e),t1,Bool.false_eq_true,if_false,hf,g3,h6,g7,ht,g9,fc gd' (fun _ _ _ e=>by cases e),aee]
      unfold Oper.wp
      rw[hl]
      have h9:(jt ver b.esz (.mp mid' mver) since (seen++[e.2.2]) clock).ver=b.ver:=by rw[ha];rfl
      have gb:ObjR {C with w:=C.w.drew} (jt ver b.esz (.mp mid' mver) since (seen++[e.2.2]) clock).cs (.mapIter (some (C.ρ mid').1) since (seen++[e.2.2]).toArray clock):=.miter (hs.mono hg ed)
      have hu:=m7 (C:={C with w:=C.w.drew}) (o:=.mapIter (some (C.ρ mid').1) since (seen++[e.2.2]).toArray clock) (b:=jt ver b.esz (.mp mid' mver) since (seen++[e.2.2]) clock) gd hc hd rfl h9 rfl
      have gc:=mz (C:={C with w:=C.w.drew}) (o:=.mapIter (some (C.ρ mid').1) since (seen++[e.2.2]).toArray clock) (b:=jt ver b.esz (.mp mid' mver) since (seen++[e.2.2]) clock) gd hc hd rfl h9 rfl gb
      refine hK _ (aej.2 ⟨e,he,rfl⟩) _ (Ctx.setO {C with w:=C.w.drew} id' (jt ver b.esz (.mp mid' mver) since (seen++[e.2.2]) clock) (.mapIter (some (C.ρ mid').1) since (seen++[e.2.2]).toArray clock)) rfl rfl gc (ed.trans hu) (Mv (VR.v _ _) ?_ ?_)
      ·rw[k1];exact VR.v _ _
      ·exact(k2.mono hg ed).mono gd hu
     ·cases h
  ·cases h
 ·cases h
end
def uk{α β:Type}:List α->(α->Option (List β))->Option (List β)
 |[],_=>some []
 |a::l,k=>match k a with
  |none=>none
  |some r=>match uk l k with
   |none=>none
   |some r'=>some (r++r')
theorem jb{α β:Type}:∀{l:List α} {k:α->Option (List β)} {out:List β},uk l k=some out->∀a∈l,∃r,k a=some r/\∀b∈r,b∈out
 |[],_,_,_,a,ha=>by cases ha
 |x::l,k,out,h,a,ha=>by
  simp only[uk]at h
  split at h
  ·cases h
  ·rename_i r hr
   split at h
   ·cases h
   ·rename_i r' h0
    simp only[adw]at h
    subst h
    rcases aek.1 ha with rfl|ha
    ·exact⟨r,hr,fun b hb=>List.mem_append_left _ hb⟩
    ·obtain⟨q,h1,h2⟩:=jb h0 a ha
     exact⟨q,h1,fun b hb=>List.mem_append_right _ (h2 b hb)⟩
theorem u5{α β:Type}:∀{l:List α} {k:α->Option (List β)} {out:List β},uk l k=some out->∀b∈out,∃a∈l,∃r,k a=some r/\b∈r
 |[],_,_,h,b,hb=>by simp only[uk,adw]at h;subst h;cases hb
 |x::l,k,out,h,b,hb=>by
  simp only[uk]at h
  split at h
  ·cases h
  ·rename_i r hr
   split at h
   ·cases h
   ·rename_i r' h0
    simp only[adw]at h
    subst h
    rcases adz.1 hb with hb|hb
    ·exact⟨x,List.mem_cons_self ..,r,hr,hb⟩
    ·obtain⟨a,h1,h2⟩:=u5 h0 b hb
     exact⟨a,List.mem_cons_of_mem _ h1,h2⟩
def O6(E:ESX)(id mid:Nat)(q:Blk×AV):Option Rx:=bif Nat.ble (id+1) E.u&&Nat.ble (mid+1) E.u then(match Tri.set 24 E.h id (some q.1)with
 |some h=>some ⟨ff [id,mid],Nat.shiftLeft 1 id,E.u,E.u,h,q.2⟩
 |none=>none)else none
theorem zg{E:ESX}{id mid:Nat}{q:Blk×AV}{r:Rx}(h:O6 E id mid q=some r):r.u0=E.u/\Fits (av E.h) r.rc/\r.rc.η=(av E.h).set id (some q.1)/\r.v=q.2/\(∀i,r.rc.D i=true↔i=id)/\(∀i∈[id,mid],r.F.testBit i=true)/\r.u=E.u:=by
 unfold O6 at h
 cases hc:(Nat.ble (id+1) E.u&&Nat.ble (mid+1) E.u)with
 |false=>rw[hc]at h;simp at h
 |true=>
  rw[hc]at h
  simp only[cond_true]at h
  rw[aes]at hc
  have c1:=aeb hc.1
  have c2:=aeb hc.2
  split at h
  ·rename_i h' hs
   simp only[adw]at h
   subst h
   have e:av h'=(av E.h).set id (some q.1):=j4 hs
   have hD:∀i,(Rx.rc ⟨ff [id,mid],Nat.shiftLeft 1 id,E.u,E.u,h',q.2⟩).D i=true↔i=id:=fun i=>by
    rw[Rc.D_iff]
    simp only[Rx.rc,qm]
    constructor
    ·rintro(h1|⟨h1,h2⟩)
     ·exact h1
     ·omega
    ·exact .inl
   refine⟨rfl,⟨ad9 _,fun i hi=>?_,fun i hi=>?_,fun i hi=>?_⟩,e,rfl,hD,fun i hi=>B4.2 hi,rfl⟩
   ·show av h' i=_
    rw[e]
    have:i≠id:=fun e=>by rw[(hD i).2 e]at hi;cases hi
    rw[am _ _ this]
   ·have:(Nat.shiftLeft 1 id).testBit i=true:=hi
    rw[qm]at this
    subst this
    exact B4.2 (by simp)
   ·have:=B4.1 hi
    simp only[aek,List.mem_nil_iff,or_false]at this
    show i<E.u
    rcases this with rfl|rfl<;>omega
  ·cases h
def Kf(P:Program)(E:ESX)(o:Oper):Option (Nat×Nat×List (Blk×AV)):=match o.op with
 |.next x false=>Bx P (bc E.t) (av E.h) x
 |_=>none
def Bv(P:Program)(f:bw)(ops:Array Oper):List Oper->ESX->Option (List ESX)
 |[],E=>some [E]
 |o::l,E=>match l9 ops (bc E.t) o with
  |none=>none
  |some false=>match E.step o.dst ⟨0,0,E.u,E.u,E.h,.v undef⟩with
   |none=>none
   |some E'=>Bv P f ops l E'
  |some true=>match Kf P E o with
   |some (id,mid,outs)=>uk outs fun q=>match O6 E id mid q with
    |none=>none
    |some r=>match E.step o.dst r with
     |none=>none
     |some E'=>Bv P f ops l E'
   |none=>match f o E with
    |none=>none
    |some r=>match E.step o.dst r with
     |none=>none
     |some E'=>Bv P f ops l E'
theorem SRelX.step2{DS:List Deferred}{RD WD:Nat->Prop}{M N:Nat}{s:St}{C C':Ctx}{a:Act}{o:Oper}{r:Rc}{x:Value}(hr:SRelX DS RD M N C s a)(hd:∀d,o.dst=some d->d<N)(hu:r.u0=s.u)(h0:Fits s.η r)(hi:Inn RD WD M r)(h1:∀id,C'.η id=if r.D id=true then r.η id else C.η id)(h2:∀id,C'.U id->C.U id\/r.D id=true)(hg:Good C')(he:Ev C C')(hv:VR C' r.v x):
 SRelX DS RD M N C' (qx o r s) (a.put o.dst x)/\FrX WD C C':=by
 refine⟨hr.put he hg (fun id h4=>?_) (fun id hle h5 h6=>?_) hd hv,he,fun id h4=>?_,fun id h4=>(h2 id h4).imp (fun h=>h) (hi.wd id)⟩
 ·rw[h1 id]
  cases hd:r.D id with
  |true=>rw[ad3 rfl]
  |false=>rw[ad1 (by simp),hr.η id h4,h0.same id hd]
 ·rcases h2 id h6 with h|h
  ·exact hr.free id (by have:=h0.le;omega) h5 h
  ·rcases Rc.D_iff.1 h with h3|h3
   ·have:=h0.low id (h0.sub id h3)
    have:=h0.le
    omega
   ·omega
 ·rw[h1 id,ad1 (fun hd=>h4 (hi.wd id hd))]
theorem wc{P:Program}{f:bw}(hf:f.Ok P){ops:Array Oper}:∀(l:List Oper) (E:ESX) (Es:List ESX),ul E.h E.u->Bv P f ops l E=some Es->∀E'∈Es,Mono E E'
 |[],E,Es,_,h,E',hE=>by
  simp only[Bv,adw]at h
  subst h
  simp only[ady]at hE
  subst hE
  exact Mono.refl _
 |o::l,E,Es,hl,h,E',hE=>by
  simp only[Bv]at h
  have one:∀(r:Rx) (E1:ESX) (Es1:List ESX),r.u0=E.u->Fits (av E.h) r.rc->E.step o.dst r=some E1->Bv P f ops l E1=some Es1->E'∈Es1->Mono E E':=by
   intro r E1 Es1 hu h0 hs hr hE
   obtain⟨s1,s2,s3,s4,s5⟩:=fa hs
   have m1:Mono E E1:=im s2 s3 s4 s5 hu h0
   exact m1.trans (wc hf l E1 Es1 (m1.low hl) hr E' hE)
  split at h
  ·cases h
  ·split at h
   ·cases h
   ·rename_i E1 hs
    exact one _ E1 Es rfl (oc rfl) hs h hE
  ·split at h
   ·rename_i id mid outs hm
    obtain⟨q,hq,rs,hk,hb⟩:=u5 h E' hE
    split at hk
    ·cases hk
    ·rename_i r hr
     obtain⟨o1,o2,_⟩:=zg hr
     split at hk
     ·cases hk
     ·rename_i E1 hs
      exact one r E1 rs o1 o2 hs hk hb
   ·split at h
    ·cases h
    ·rename_i r hr
     obtain⟨o1,o2,_⟩:=hf o E r hl hr
     split at h
     ·cases h
     ·rename_i E1 hs
      exact one r E1 Es o1 o2 hs h hE
theorem Qm{α β:Type}{l:List α}{k:α->Option (List β)}{out:List β}(h:uk l k=some out)(hl:l≠[])(hk:∀a r,k a=some r->r≠[]):out≠[]:=by
 obtain⟨a,ha⟩:=List.exists_mem_of_ne_nil _ hl
 obtain⟨r,h1,h2⟩:=jb h a ha
 obtain⟨b,hb⟩:=List.exists_mem_of_ne_nil _ (hk a r h1)
 exact List.ne_nil_of_mem (h2 b hb)
theorem J7{P:Program}{τ:Nat->AV}{η:bg}{x:Operand}{id mid:Nat}{outs:List (Blk×AV)}(h:Bx P τ η x=some (id,mid,outs)):outs≠[]:=by
 unfold Bx at h
 split at h
 ·split at h
  ·split at h
   ·cases h
   ·rename_i mb clock es hm
    revert h
    cases(!_&&!_&&_:Bool)with
    |true=>intro h;simp at h
    |false=>
     intro h
     simp only[cond_false]at h
     split at h
     ·simp only[adw,Prod.mk.injEq]at h
      rw[<-h.2.2]
      simp
     ·cases h
  ·cases h
 ·cases h
theorem wb{P:Program}{f:bw}{ops:Array Oper}:∀(l:List Oper) (E:ESX) (Es:List ESX),Bv P f ops l E=some Es->Es≠[]
 |[],E,Es,h=>by
  simp only[Bv,adw]at h
  subst h
  simp
 |o::l,E,Es,h=>by
  simp only[Bv]at h
  split at h
  ·cases h
  ·split at h
   ·cases h
   ·exact wb l _ _ h
  ·split at h
   ·rename_i id mid outs hm
    unfold Kf at hm
    split at hm
    ·refine Qm h (J7 hm) fun a r hk=>?_
     split at hk
     ·cases hk
     ·split at hk
      ·cases hk
      ·exact wb l _ _ hk
    ·cases hm
   ·split at h
    ·cases h
    ·split at h
     ·cases h
     ·exact wb l _ _ h
theorem uv{DS:List Deferred}{F:Fence}(hF:FOk F){n:Nat}{P:Program}{N:Nat}{f:bw}(hf:f.Ok P){ops:Array Oper}{RD WD:Nat->Prop}{M:Nat}:∀(l:List Oper) (E:ESX) (Es:List ESX),(∀o∈l,fx N ops o=true)->ul E.h E.u->Bv P f ops l E=some Es->(∀E'∈Es,Under RD WD M E.u E')->Es≠[]->
 ∀(C:Ctx) (a:Act) (Q:Exit->Act->World->Prop),SRelX DS RD M N C E.st a->(∀E'∈Es,∀C' a',SRelX DS RD M N C' E'.st a'->FrX WD C C'->Q .normal a' C'.w)->wpListIn F n P ops Q l a C.w
 |[],E,Es,_,_,h,_,_,C,a,Q,hr,hK=>by
  simp only[Bv,adw]at h
  subst h
  exact hK E (by simp) C a hr (FrX.refl C)
 |o::l,E,Es,hd,hl,h,hp,ha,C,a,Q,hr,hK=>by
  simp only[Bv]at h
  have h9:=hd o (by simp)
  have hg:∀o∈l,fx N ops o=true:=fun o ho=>hd o (by simp[ho])
  have inn:∀(r:Rx) (E1:ESX) (Es1:List ESX),r.u0=E.u->Fits (av E.h) r.rc->E.step o.dst r=some E1->Bv P f ops l E1=some Es1->(∀E'∈Es1,E'∈Es)->Es1≠[]->Inn RD WD M r.rc/\ul E1.h E1.u/\(∀E'∈Es1,Under RD WD M E1.u E')/\E1.st=qx o r.rc E.st:=by
   intro r E1 Es1 hu hh hs hj h8 hn
   obtain⟨s1,s2,s3,s4,s5⟩:=fa hs
   have m1:Mono E E1:=im s2 s3 s4 s5 hu hh
   have ht:=m1.low hl
   obtain⟨E',h7⟩:=List.exists_mem_of_ne_nil _ hn
   have m2:=wc hf l E1 Es1 ht hj E' h7
   have h0:=hp E' (h8 E' h7)
   have hu1:=m2.u
   refine⟨⟨fun id hc=>h0.rd id (m2.rd id (by rw[s4,Nat.testBit_or,show r.F.testBit id=true from hc,Bool.or_true])),fun id h1 h2=>?_,fun id hc=>?_,?_⟩,ht,fun E'' hE''=>(hp E'' (h8 E'' hE'')).up m1.u,s1⟩
   ·have hx:r.u0<=id:=h1
    have hy:id<r.u:=h2
    have:=h0.u
    exact(h0.new id (by omega) (by omega)).1
   ·rcases Rc.D_iff.1 hc with h5|⟨h5,h6⟩
    ·exact h0.wd id (m2.wr id (by rw[s5,Nat.testBit_or,show r.W.testBit id=true from h5,Bool.or_true]))
    ·have hx:r.u0<=id:=h5
     have hy:id<r.u:=h6
     have:=h0.u
     exact(h0.new id (by omega) (by omega)).2
   ·show r.u<=M
    have:=h0.u
    omega
  unfold wpListIn
  split at h
  ·cases h
  ·rename_i hw
   rw[dl (s:=E.st) hw hr (fx.guard h9)]
   simp only[Bool.false_eq_true,if_false]
   split at h
   ·cases h
   ·rename_i E1 hs
    obtain⟨i1,i2,i3,i4⟩:=inn _ E1 Es rfl (oc rfl) hs h (fun _ h=>h) ha
    have hD:∀id,(Rx.rc ⟨0,0,E.u,E.u,E.h,.v undef⟩).D id=false:=fun id=>by
     cases hd:(Rx.rc ⟨0,0,E.u,E.u,E.h,.v undef⟩).D id with
     |false=>rfl
     |true=>
      rcases Rc.D_iff.1 hd with h1|⟨h1,h2⟩
      ·have h3:(0:Nat).testBit id=true:=h1
       simp at h3
      ·have h3:E.u<=id:=h1
       have h4:id<E.u:=h2
       omega
    obtain⟨q1,q2⟩:=hr.step2 (C':=C) (x:=undef) (o:=o) (r:=Rx.rc ⟨0,0,E.u,E.u,E.h,.v undef⟩) (fx.dst h9) rfl (oc rfl) i1 (fun id=>by rw[hD id];rfl) (fun id h=>.inl h) hr.good (Ev.refl C) (VR.v C _)
    rw[<-i4]at q1
    exact⟨fun _ _=>hF.fn _,uv hF hf l E1 Es hg i2 h i3 ha C _ Q q1 (fun E' h7 C' a' h1 h2=>hK E' h7 C' a' h1 (q2.trans h2))⟩
  ·rename_i hw
   rw[dl (s:=E.st) hw hr (fx.guard h9)]
   simp only[if_true]
   refine Wn hF (mq h9) ?_
   split at h
   ·rename_i id mid outs hm
    unfold Kf at hm
    split at hm
    ·rename_i x hz
     have g0:o=⟨o.dst,.next x false,o.type,o.pos,o.after,o.guard⟩:=by rw[<-hz]
     obtain⟨⟨b,hb⟩,hL⟩:=J6 (d:=o.dst) (ty:=o.type) (pos:=o.pos) (af:=o.after) (g:=o.guard) hm
     rw[<-g0]at hL
     -- some outcome gives the bounds of what is iy at
     have he:∀q∈outs,∃r E1 Es1,O6 E id mid q=some r/\E.step o.dst r=some E1/\Bv P f ops l E1=some Es1/\∀E'∈Es1,E'∈Es:=by
      intro q hq
      obtain⟨rs,hk,h8⟩:=jb h q hq
      split at hk
      ·cases hk
      ·rename_i r g3
       split at hk
       ·cases hk
       ·rename_i E1 hs
        exact⟨r,E1,rs,g3,hs,hk,h8⟩
     have hneo:∀(l:List Oper) (E:ESX) (Es:List ESX),Bv P f ops l E=some Es->True:=fun _ _ _ _=>trivial
     refine hL C a hr.good (fun x _=>hr.eval x) (fun i hi=>?_) _ _ fun q hq x C' h1 h2 h3 h4 h5=>?_
     ·obtain⟨E',h7⟩:=List.exists_mem_of_ne_nil _ ha
      obtain⟨q,hq,rs,hk,hb'⟩:=u5 h E' h7
      obtain⟨r,E1,Es1,o1,o2,o3,o4⟩:=he q hq
      obtain⟨p1,p2,p3,p4,p5,p6,p7⟩:=zg o1
      rw[o1]at hk
      simp only at hk
      rw[o2]at hk
      simp only at hk
      rw[o3]at hk
      simp only[adw]at hk
      subst hk
      have g4:=inn r E1 Es1 p1 p2 o2 o3 o4 (fun e=>by rw[e]at hb';cases hb')
      exact hr.η i (g4.1.rd i (p6 i hi))
     ·obtain⟨r,E1,Es1,o1,o2,o3,o4⟩:=he q hq
      obtain⟨p1,p2,p3,p4,p5,p6,p7⟩:=zg o1
      have hv:Es1≠[]:=wb l E1 Es1 o3
      ·obtain⟨i1,i2,i3,i4⟩:=inn r E1 Es1 p1 p2 o2 o3 o4 hv
       have hη:∀i,C'.η i=if r.rc.D i=true then r.rc.η i else C.η i:=fun i=>by
        rw[h1,p3]
        by_cases e:i=id
        ·subst e;rw[ad3 ((p5 i).2 rfl),ak,ak]
        ·rw[ad1 (fun h=>e ((p5 i).1 h)),am _ _ e]
       obtain⟨q1,q2⟩:=hr.step2 (C':=C') (x:=x) (o:=o) (r:=r.rc) (fx.dst h9) p1 p2 i1 hη (fun i hi=>.inl (by rw[<-h2];exact hi)) h3 h4 (by show VR C' r.v x;rw[p4];exact h5)
       rw[<-i4]at q1
       exact uv hF hf l E1 Es1 hg i2 o3 i3 hv C' _ Q q1 (fun E' h7 C'' a' g1 g2=>hK E' (o4 E' h7) C'' a' g1 (q2.trans g2))
    ·cases hm
   ·split at h
    ·cases h
    ·rename_i r g5
     obtain⟨o1,o2,hL⟩:=hf o E r hl g5
     split at h
     ·cases h
     ·rename_i E1 hs
      obtain⟨i1,i2,i3,i4⟩:=inn r E1 Es o1 o2 hs h (fun _ h=>h) ha
      refine hL C a hr.good (fun x _=>hr.eval x) (fun id hc=>hr.η id (i1.rd id hc)) (fun id h1 h2=>hr.free id (by have:r.rc.u0=E.u:=o1;show E.u<=id;omega) (by have:=i1.u;omega)) _ _ fun x C' h1 h2 h3 h4 h5=>?_
      obtain⟨q1,q2⟩:=hr.step2 (C':=C') (x:=x) (o:=o) (r:=r.rc) (fx.dst h9) o1 o2 i1 h1 h2 h3 h4 h5
      rw[<-i4]at q1
      exact uv hF hf l E1 Es hg i2 h i3 ha C' _ Q q1 (fun E' h7 C'' a' g1 g2=>hK E' h7 C'' a' g1 (q2.trans g2))
abbrev Ta:=Option (List (Exit×ESX))
def Dz(k:ESX->Ta)(q:Exit×ESX):Ta:=match q.1 with
 |.normal=>k q.2
 |.exit id=>some [(.exit id,q.2)]
 |.ret=>some [(.ret,q.2)]
 |_=>none
def G7(id:Nat)(q:Exit×ESX):Ta:=match q.1 with
 |.normal=>some [(.normal,q.2)]
 |.exit id'=>bif Nat.beq id' id then some [(.normal,q.2)]else some [(.exit id',q.2)]
 |.ret=>some [(.ret,q.2)]
 |_=>none
def Kr(r:ESX->Ta):Nat->ESX->Ta
 |0,_=>none
 |n+1,E=>match r E with
  |none=>none
  |some l=>uk l (Dz (Kr r n))
noncomputable def mt(P:Program)(N fuel:Nat)(f:bw):Code->ESX->Ta
 |.skip=>fun E=>some [(.normal,E)]
 |.ret=>fun E=>some [(.ret,E)]
 |.exit id=>fun E=>some [(.exit id,E)]
 |.seq x y=>fun E=>match mt P N fuel f x E with
  |none=>none
  |some l=>uk l (Dz (mt P N fuel f y))
 |.cond c x y=>fun E=>match xp c E with
  |.v (.bool true)=>mt P N fuel f x E
  |.v (.bool false)=>mt P N fuel f y E
  |_=>none
 |.block id c=>fun E=>match mt P N fuel f c E with
  |none=>none
  |some l=>uk l (G7 id)
 |.loop c=>Kr (mt P N fuel f c) fuel
 |.region id ops drawn=>bif drawn then(fun E=>match ip N fuel f (.region id ops true) E with
  |none=>none
  |some q=>some [q])
  else bif yl N ops then(fun E=>match Bv P f ops ops.toList E with
   |none=>none
   |some l=>some (l.map fun E=>(.normal,E)))
  else fun _=>none
 |_=>fun _=>none
def As(P:Program)(N:Nat)(c:Code)(E:ESX)(outs:List (Exit×ESX)):Prop:=
 (outs≠[]/\∀q∈outs,Mono E q.2)/\∀(RD WD:Nat->Prop) (M:Nat) (Q:Exit->St->Prop),(∀q∈outs,Under RD WD M E.u q.2)->(∀q∈outs,Q q.1 q.2.st)->qr P RD WD M N c Q E.st
theorem As.of_one{P:Program}{N:Nat}{c:Code}{E E':ESX}{e:Exit}(h:At P N c E e E'):As P N c E [(e,E')]:=
 ⟨⟨by simp,fun q hq=>by simp only[ady]at hq;subst hq;exact h.1⟩,fun RD WD M Q h0 hq=>h.2 RD WD M Q (h0 _ (ady.2 rfl)) (hq _ (ady.2 rfl))⟩
theorem Al{E:ESX}{l outs:List (Exit×ESX)}{k:Exit×ESX->Ta}(h:uk l k=some outs)(hl:l≠[]/\∀q∈l,Mono E q.2)(hk:∀q∈l,∀r,k q=some r->r≠[]/\∀q'∈r,Mono q.2 q'.2):
 (outs≠[]/\∀q'∈outs,Mono E q'.2)/\∀(RD WD:Nat->Prop) (M:Nat),(∀q'∈outs,Under RD WD M E.u q'.2)->∀q∈l,Under RD WD M E.u q.2:=by
 refine⟨⟨?_,fun q' h0=>?_⟩,fun RD WD M h3 q hq=>?_⟩
 ·obtain⟨a,ha⟩:=List.exists_mem_of_ne_nil _ hl.1
  obtain⟨r,h1,h2⟩:=jb h a ha
  obtain⟨b,hb⟩:=List.exists_mem_of_ne_nil _ (hk a ha r h1).1
  exact List.ne_nil_of_mem (h2 b hb)
 ·obtain⟨a,ha,r,h1,h2⟩:=u5 h q' h0
  exact(hl.2 a ha).trans ((hk a ha r h1).2 q' h2)
 ·obtain⟨r,h1,h2⟩:=jb h q hq
  obtain⟨b,hb⟩:=List.exists_mem_of_ne_nil _ (hk q hq r h1).1
  exact(h3 b (h2 b hb)).back ((hk q hq r h1).2 b hb)
theorem yf{k:ESX->Ta}{q:Exit×ESX}{r:List (Exit×ESX)}(h:Dz k q=some r)(hk:∀r,k q.2=some r->r≠[]/\∀q'∈r,Mono q.2 q'.2):r≠[]/\∀q'∈r,Mono q.2 q'.2:=by
 unfold Dz at h
 split at h
 ·exact hk r h
 ·simp only[adw]at h
  subst h
  exact⟨by simp,fun q' h0=>by simp only[ady]at h0;subst h0;exact Mono.refl _⟩
 ·simp only[adw]at h
  subst h
  exact⟨by simp,fun q' h0=>by simp only[ady]at h0;subst h0;exact Mono.refl _⟩
 ·cases h
theorem Ew{id:Nat}{q:Exit×ESX}{r:List (Exit×ESX)}(h:G7 id q=some r):r≠[]/\∀q'∈r,Mono q.2 q'.2:=by
 have one:∀(e:Exit),r=[(e,q.2)]->r≠[]/\∀q'∈r,Mono q.2 q'.2:=fun e he=>by
  subst he
  exact⟨by simp,fun q' h0=>by simp only[ady]at h0;subst h0;exact Mono.refl _⟩
 unfold G7 at h
 split at h
 ·simp only[adw]at h
  exact one _ h.symm
 ·rename_i id' _
  cases hb:Nat.beq id' id with
  |true=>rw[hb]at h;simp only[cond_true,adw]at h;exact one _ h.symm
  |false=>rw[hb]at h;simp only[cond_false,adw]at h;exact one _ h.symm
 ·simp only[adw]at h
  exact one _ h.symm
 ·cases h
theorem Gz{P:Program}{N fuel:Nat}{f:bw}(hf:f.Ok P)(hm:P.follows .mixedOrders=true):∀(c:Code) (E:ESX) (outs:List (Exit×ESX)),ul E.h E.u->mt P N fuel f c E=some outs->As P N c E outs:=by
 intro c
 induction c with
 |skip=>
  intro E outs hl h
  simp only[mt,adw]at h
  subst h
  exact .of_one ⟨Mono.refl _,fun RD WD M Q _ hq=>qr.skip hq⟩
 |ret=>
  intro E outs hl h
  simp only[mt,adw]at h
  subst h
  exact .of_one ⟨Mono.refl _,fun RD WD M Q _ hq=>qr.ret hq⟩
 |exit id=>
  intro E outs hl h
  simp only[mt,adw]at h
  subst h
  exact .of_one ⟨Mono.refl _,fun RD WD M Q _ hq=>qr.exit hq⟩
 |seq x y ihx ihy=>
  intro E outs hl h
  simp only[mt]at h
  split at h
  ·cases h
  ·rename_i l h1
   obtain⟨m1,k1⟩:=ihx E l hl h1
   obtain⟨b1,b2⟩:=Al h m1 (fun q hq r hr=>yf hr (fun r hr=>(ihy q.2 r ((m1.2 q hq).low hl) hr).1))
   refine⟨b1,fun RD WD M Q h2 hQ=>qr.seq (k1 RD WD M _ (b2 RD WD M h2) fun q hq=>?_)⟩
   obtain⟨r,hr,h0⟩:=jb h q hq
   obtain⟨e,E1⟩:=q
   unfold Dz at hr
   split at hr
   ·rename_i he
    simp only at he hr
    subst he
    exact(ihy E1 r ((m1.2 _ hq).low hl) hr).2 RD WD M Q (fun q' h3=>(h2 q' (h0 q' h3)).up (m1.2 _ hq).u) (fun q' h3=>hQ q' (h0 q' h3))
   ·rename_i he
    simp only at he
    subst he
    simp only[adw]at hr
    subst hr
    exact hQ _ (h0 _ (ady.2 rfl))
   ·rename_i he
    simp only at he
    subst he
    simp only[adw]at hr
    subst hr
    exact hQ _ (h0 _ (ady.2 rfl))
   ·cases hr
 |cond c x y ihx ihy=>
  intro E outs hl h
  simp only[mt]at h
  split at h
  ·rename_i hc
   rw[cq]at hc
   obtain⟨m1,k1⟩:=ihx E outs hl h
   exact⟨m1,fun RD WD M Q h2 hq=>qr.condT hc (k1 RD WD M Q h2 hq)⟩
  ·rename_i hc
   rw[cq]at hc
   obtain⟨m1,k1⟩:=ihy E outs hl h
   exact⟨m1,fun RD WD M Q h2 hq=>qr.condF hc (k1 RD WD M Q h2 hq)⟩
  ·cases h
 |block id c ih=>
  intro E outs hl h
  simp only[mt]at h
  split at h
  ·cases h
  ·rename_i l h1
   obtain⟨m1,k1⟩:=ih E l hl h1
   obtain⟨b1,b2⟩:=Al h m1 (fun q hq r hr=>Ew hr)
   refine⟨b1,fun RD WD M Q h2 hQ=>qr.block (k1 RD WD M _ (b2 RD WD M h2) fun q hq=>?_)⟩
   obtain⟨r,hr,h0⟩:=jb h q hq
   obtain⟨e,E1⟩:=q
   unfold G7 at hr
   split at hr
   ·rename_i he
    simp only at he
    subst he
    simp only[adw]at hr
    subst hr
    exact hQ _ (h0 _ (ady.2 rfl))
   ·rename_i id' he
    simp only at he
    subst he
    cases hb:Nat.beq id' id with
    |true=>
     rw[hb]at hr
     simp only[cond_true,adw]at hr
     subst hr
     simp only[rl,hb,cond_true]
     exact hQ (.normal,E1) (h0 _ (ady.2 rfl))
    |false=>
     rw[hb]at hr
     simp only[cond_false,adw]at hr
     subst hr
     simp only[rl,hb,cond_false]
     exact hQ (.exit id',E1) (h0 _ (ady.2 rfl))
   ·rename_i he
    simp only at he
    subst he
    simp only[adw]at hr
    subst hr
    exact hQ _ (h0 _ (ady.2 rfl))
   ·cases hr
 |loop c ih=>
  intro E outs hl h
  simp only[mt]at h
  have key:∀(n:Nat) (E:ESX) (outs:List (Exit×ESX)),ul E.h E.u->Kr (mt P N fuel f c) n E=some outs->(outs≠[]/\∀q∈outs,Mono E q.2)/\∀(RD WD:Nat->Prop) (M:Nat) (Q:Exit->St->Prop),(∀q∈outs,Under RD WD M E.u q.2)->(∀q∈outs,Q q.1 q.2.st)->
   ∃I:Nat->St->Prop,(∀m s,I m s->qr P RD WD M N c (andThen (fun s'=>∃m',m'<m/\I m' s') Q) s)/\I n E.st:=by
   intro n
   induction n with
   |zero=>intro E outs hl h;simp[Kr]at h
   |succ n ihn=>
    intro E outs hl h
    simp only[Kr]at h
    split at h
    ·cases h
    ·rename_i l h1
     obtain⟨m1,k1⟩:=ih E l hl h1
     obtain⟨b1,b2⟩:=Al h m1 (fun q hq r hr=>yf hr (fun r hr=>(ihn q.2 r ((m1.2 q hq).low hl) hr).1))
     refine⟨b1,fun RD WD M Q h2 hQ=>?_⟩
     -- one invariant for all outcomes that go round
     have h6:∀q∈l,q.1=.normal->∃I:Nat->St->Prop,(∀m s,I m s->qr P RD WD M N c (andThen (fun s'=>∃m',m'<m/\I m' s') Q) s)/\I n q.2.st:=by
      intro q hq hn
      obtain⟨r,hr,h0⟩:=jb h q hq
      unfold Dz at hr
      rw[hn]at hr
      exact(ihn q.2 r ((m1.2 q hq).low hl) hr).2 RD WD M Q (fun q' h3=>(h2 q' (h0 q' h3)).up (m1.2 q hq).u) (fun q' h3=>hQ q' (h0 q' h3))
     refine⟨fun m s=>(m<=n/\∃I:Nat->St->Prop,(∀m s,I m s->qr P RD WD M N c (andThen (fun s'=>∃m',m'<m/\I m' s') Q) s)/\I m s)\/(m=n+1/\s=E.st),fun m s h9=>?_,.inr ⟨rfl,rfl⟩⟩
     rcases h9 with⟨hle,I,h7,ha⟩|⟨rfl,rfl⟩
     ·refine(h7 m s ha).mono fun e s' h3=>?_
      cases e with
      |normal=>
       obtain⟨m',hg,hh⟩:=h3
       exact⟨m',hg,.inl ⟨by omega,I,h7,hh⟩⟩
      |_=>exact h3
     ·refine k1 RD WD M _ (b2 RD WD M h2) fun q hq=>?_
      obtain⟨r,hr,h0⟩:=jb h q hq
      have hi:=h6 q hq
      obtain⟨e,E1⟩:=q
      unfold Dz at hr
      split at hr
      ·rename_i he
       simp only at he
       subst he
       obtain⟨I,i1,i2⟩:=hi rfl
       exact⟨n,Nat.lt_succ_self n,.inl ⟨ad9 _,I,i1,i2⟩⟩
      ·rename_i he
       simp only at he
       subst he
       simp only[adw]at hr
       subst hr
       exact hQ _ (h0 _ (ady.2 rfl))
      ·rename_i he
       simp only at he
       subst he
       simp only[adw]at hr
       subst hr
       exact hQ _ (h0 _ (ady.2 rfl))
      ·cases hr
  obtain⟨m1,k1⟩:=key fuel E outs hl h
  refine⟨m1,fun RD WD M Q h2 hq=>?_⟩
  obtain⟨I,i1,i2⟩:=k1 RD WD M Q h2 hq
  exact qr.loop I i1 i2
 |region id ops drawn=>
  intro E outs hl h
  simp only[mt]at h
  cases drawn with
  |true=>
   simp only[cond_true]at h
   split at h
   ·cases h
   ·rename_i q h1
    simp only[adw]at h
    subst h
    exact .of_one (jy hf hm _ _ _ _ hl h1)
  |false=>
   simp only[cond_false]at h
   cases hd:yl N ops with
   |false=>rw[hd]at h;simp at h
   |true=>
    rw[hd]at h
    simp only[cond_true]at h
    split at h
    ·cases h
    ·rename_i Es h1
     simp only[adw]at h
     subst h
     have hj:∀o∈ops.toList,fx N ops o=true:=List.all_eq_true.1 hd
     have h8:=wb _ _ _ h1
     refine⟨⟨by simpa using h8,fun q hq=>?_⟩,fun RD WD M Q h2 hQ=>?_⟩
     ·obtain⟨E',h5,rfl⟩:=aej.1 hq
      exact wc hf _ _ _ hl h1 E' h5
     ·intro F hF n DS C a hr
      have eo:ops=ops.toList.toArray:=by simp
      have h4:=uv hF (n:=n) hf (N:=N) ops.toList E Es hj hl h1 (fun E' h5=>h2 (.normal,E') (List.mem_map_of_mem h5)) h8 C a (fun e a' w'=>∃s' C',Q e s'/\C'.w=w'/\SRelX DS RD M N C' s' a'/\FrX WD C C') hr (fun E' h5 C' a' q1 q2=>⟨E'.st,C',hQ (.normal,E') (List.mem_map_of_mem h5),rfl,q1,q2⟩)
      rw[eo]
      rw[eo]at h4
      simp only[List.toList_toArray]at h4 ⊢
      exact wpIn_region_lit h4
 |_=>intro E outs hl h;simp[mt]at h
theorem xt{P:Program}{f:FuncId}{fn:Func}{c:Code}{N:Nat}{args:List AV}{η:bg}{r:Rc}(hf:P.funcs[f]? =some fn)(hb:fn.body=some c)(hN:fn.ntmps=N)(hl:args.length<=N){τ0:Nat->AV}(hτ0:τ0=b8 args)(h7:Fits η r)(hηn:∀id,r.u0<=id->η id=none)
 (h:qr P (fun id=>r.F.testBit id=true\/(r.u0<=id/\id<r.u)) (fun id=>r.D id=true) r.u N c (fun e s'=>(e=.normal\/e=.ret)/\(∀id,r.D id=true->s'.η id=r.η id\/r.η id=none)/\Mz P (fun id=>r.F.testBit id=true\/(r.u0<=id/\id<r.u)) r.u N fn s' r.v) ⟨τ0,η,r.u0⟩):Aq P f args η r:=by
 intro C vals hg ⟨hlen,hv⟩ hF h9
 subst hτ0
 have h5:∀id,r.u0<=id->id<r.u->C.η id=none:=fun id h1 h2=>by
  cases hb':C.η id with
  |none=>rfl
  |some b=>exact absurd (hg.used hb') (h9 id h1 h2)
 have hr:SRelX [] (fun id=>r.F.testBit id=true\/(r.u0<=id/\id<r.u)) r.u N C ⟨b8 args,η,r.u0⟩ {tmps:=vals++Array.replicate (fn.ntmps-vals.size) undef,defers:=[]}:=by
  refine⟨hg,fun id ha=>ha.elim (hF id) (fun h=>(h5 id h.1 h.2).trans (hηn id h.1).symm),h9,rfl,by simp;omega,fun t=>?_⟩
  simp only[Act.eval,b8]
  by_cases ht:t<args.length
  ·have h1:args.getD t (.v undef)=args[t]:=by simp[List.getD,ht]
   have h2:(vals++Array.replicate (fn.ntmps-vals.size) undef).getD t undef=vals[t]'(by omega):=by
    rw[Array.getD_eq_getD_getElem?,Array.getElem?_append_left (by omega)]
    simp[show t<vals.size by omega]
   rw[h1,h2]
   exact hv t ht (by omega)
  ·have h1:args.getD t (.v undef)=.v undef:=by simp[List.getD,List.getElem?_eq_none (Nat.le_of_not_lt ht)]
   have h2:(vals++Array.replicate (fn.ntmps-vals.size) undef).getD t undef=undef:=by
    rw[Array.getD_eq_getD_getElem?,Array.getElem?_append_right (by omega)]
    rw[Array.getElem?_replicate]
    split<;>rfl
   rw[h1,h2]
   exact VR.v _ _
 refine calls_of_wp hf hb (wpIn_wide.1 (Code.wpIn_mono ?_ (h Fence.wide FOk.wide 0 [] C _ hr)))
 rintro e a' w' ⟨s',C',⟨he,hη',ho⟩,rfl,h4,h8⟩
 obtain⟨x,h1,h2⟩:=ho [] C' a' h4
 have h6:∀id,(fun id=>if r.D id=true then r.η id else C.η id) id=C'.η id\/(fun id=>if r.D id=true then r.η id else C.η id) id=none:=by
  intro id
  simp only
  by_cases hd:r.D id=true
  ·rw[ad3 hd]
   rcases hη' id hd with e1|e1
   ·left
    rw[<-e1]
    refine(h4.η id ?_).symm
    rcases Rc.D_iff.1 hd with h3|h3
    ·exact .inl (h7.sub id h3)
    ·exact .inr h3
   ·exact .inr e1
  ·rw[ad1 hd]
   exact .inl (h8.η id hd).symm
 obtain⟨g1,g2⟩:=r9 (η:=fun id=>if r.D id=true then r.η id else C.η id) h4.good h6
 have h0:∃x' C'',(Ending.returned x)=.returned x'/\C''.w=C'.w/\(∀id,C''.η id=if r.D id=true then r.η id else C.η id)/\(∀id,C''.U id->C.U id\/r.D id=true)/\Good C''/\Ev C C''/\VR C'' r.v x':=
  ⟨x,C'.less (fun id=>if r.D id=true then r.η id else C.η id),rfl,rfl,fun id=>rfl,h8.U,g1,h8.ev.trans g2,VR.forget (C:=C') (C':=C'.less (fun id=>if r.D id=true then r.η id else C.η id)) rfl rfl rfl rfl rfl h6 h4.good.used h2⟩
 rcases he with rfl|rfl
 ·exact⟨h4.defers,x,h1,h0⟩
 ·exact⟨h4.defers,x,h1,h0⟩
def Ha{α:Type}(f:α->α->Bool):List α->List α->Bool
 |[],[]=>true
 |a::l,b::m=>f a b&&Ha f l m
 |_,_=>false
theorem mv{α:Type}{f:α->α->Bool}(hf:∀a b,f a b=true->a=b):∀(l m:List α),Ha f l m=true->l=m
 |[],[],_=>rfl
 |a::l,b::m,h=>by
  simp only[Ha,aes]at h
  rw[hf a b h.1,mv hf l m h.2]
 |[],_::_,h=>by simp[Ha]at h
 |_::_,[],h=>by simp[Ha]at h
def Tu:Value->Value->Bool
 |.bool a,.bool b=>a==b
 |.int k n,.int k' n'=>decide (k=k')&&decide (n=n')
 |.string s,.string s'=>decide (s=s')
 |.pointer none,.pointer none=>true
 |.slice none l c,.slice none l' c'=>Nat.beq l l'&&Nat.beq c c'
 |.map none,.map none=>true
 |.nilFunc,.nilFunc=>true
 |.nilIface,.nilIface=>true
 |_,_=>false
theorem Om:∀(a b:Value),Tu a b=true->a=b:=by
 intro a b h
 unfold Tu at h
 split at h
 ·simp at h;rw[h]
 ·simp at h;rw[h.1,h.2]
 ·simp at h;rw[h]
 ·rfl
 ·rw[aes]at h
  rw[adv h.1,adv h.2]
 ·rfl
 ·rfl
 ·rfl
 ·cases h
def q9:Nat->AV->AV->Bool
 |0,_,_=>false
 |n+1,a,b=>match a,b with
  |.v x,.v y=>Tu x y
  |.ptr a b c,.ptr a' b' c'=>Nat.beq a a'&&Nat.beq b b'&&Nat.beq c c'
  |.sl a b c d,.sl a' b' c' d'=>Nat.beq a a'&&Nat.beq b b'&&Nat.beq c c'&&Nat.beq d d'
  |.mp a b,.mp a' b'=>Nat.beq a a'&&Nat.beq b b'
  |.it a b,.it a' b'=>Nat.beq a a'&&Nat.beq b b'
  |.tree k xs,.tree k' xs'=>Nat.beq k k'&&Ha (Ha (q9 n)) xs xs'
  |.tp cs o,.tp cs' o'=>Ha (q9 n) cs cs'&&Nat.beq o o'
  |.clo f cs,.clo f' cs'=>Nat.beq f f'&&Ha (q9 n) cs cs'
  |.agg cs,.agg cs'=>Ha (q9 n) cs cs'
  |.tup cs,.tup cs'=>Ha (q9 n) cs cs'
  |.unk,.unk=>true
  |_,_=>false
theorem q8:∀(n:Nat) (a b:AV),q9 n a b=true->a=b
 |0,a,b,h=>by simp[q9]at h
 |n+1,a,b,h=>by
  have ih:=q8 n
  unfold q9 at h
  split at h
  ·rw[Om _ _ h]
  ·simp only[aes]at h
   rw[adv h.1.1,adv h.1.2,adv h.2]
  ·simp only[aes]at h
   rw[adv h.1.1.1,adv h.1.1.2,adv h.1.2,adv h.2]
  ·simp only[aes]at h
   rw[adv h.1,adv h.2]
  ·simp only[aes]at h
   rw[adv h.1,adv h.2]
  ·simp only[aes]at h
   rw[adv h.1,mv (fun a b=>mv ih a b) _ _ h.2]
  ·simp only[aes]at h
   rw[mv ih _ _ h.1,adv h.2]
  ·simp only[aes]at h
   rw[adv h.1,mv ih _ _ h.2]
  ·rw[mv ih _ _ h]
  ·rw[mv ih _ _ h]
  ·rfl
  ·cases h
def Tw(a b:Blk):Bool:=Nat.beq a.ver b.ver&&Ha (q9 16) a.cs b.cs&&Nat.beq a.esz b.esz&&(a.nilp==b.nilp)
theorem Oo{a b:Blk}(h:Tw a b=true):a=b:=by
 obtain⟨v,cs,e,np⟩:=a
 obtain⟨v',cs',e',np'⟩:=b
 simp only[Tw,aes]at h
 obtain rfl:v=v':=adv h.1.1.1
 obtain rfl:cs=cs':=mv (q8 16) _ _ h.1.1.2
 obtain rfl:e=e':=adv h.1.2
 obtain rfl:np=np':=by simpa using h.2
 rfl
def Mp(b:Blk)(id:Nat):List Rx->Bool
 |[]=>true
 |r::l=>(match av r.h id with
  |some b'=>Tw b' b
  |none=>false)&&Mp b id l
theorem Hb{b:Blk}{id:Nat}:∀{l:List Rx},Mp b id l=true->∀r∈l,av r.h id=some b
 |[],_,r,hr=>by cases hr
 |x::l,h,r,hr=>by
  simp only[Mp,aes]at h
  rcases aek.1 hr with rfl|hr
  ·have h1:=h.1
   split at h1
   ·rename_i b' hb
    rw[hb,Oo h1]
   ·cases h1
  ·exact Hb h.2 r hr
def tq(r0:Rx)(rs:List Rx):Nat->Nat->Tri (Option Blk)->Option (Tri (Option Blk))
 |0,_,t=>some t
 |n+1,id,t=>match av r0.h id with
  |none=>tq r0 rs n (id+1) t
  |some b=>bif Mp b id rs then(match Tri.set 24 t id (some b)with
   |none=>none
   |some t'=>tq r0 rs n (id+1) t')
   else tq r0 rs n (id+1) t
theorem wl{r0:Rx}{rs:List Rx}:∀(n id:Nat) (t t':Tri (Option Blk)),tq r0 rs n id t=some t'->∀i,((i<id\/id+n<=i)/\av t' i=av t i)\/(id<=i/\i<id+n/\(av t' i=av t i\/∀r∈r0::rs,av r.h i=av t' i))
 |0,id,t,t',h,i=>by
  simp only[tq,adw]at h
  subst h
  exact .inl ⟨by omega,rfl⟩
 |n+1,id,t,t',h,i=>by
  have skip:tq r0 rs n (id+1) t=some t'->((i<id\/id+(n+1)<=i)/\av t' i=av t i)\/(id<=i/\i<id+(n+1)/\(av t' i=av t i\/∀r∈r0::rs,av r.h i=av t' i)):=by
   intro h
   rcases wl n (id+1) t t' h i with⟨h1,h2⟩|⟨h1,h2,h3⟩
   ·by_cases e:i=id
    ·exact .inr ⟨by omega,by omega,.inl h2⟩
    ·exact .inl ⟨by omega,h2⟩
   ·exact .inr ⟨by omega,by omega,h3⟩
  simp only[tq]at h
  split at h
  ·exact skip h
  ·rename_i b hb
   cases ha:Mp b id rs with
   |false=>rw[ha]at h;exact skip h
   |true=>
    rw[ha]at h
    simp only[cond_true]at h
    split at h
    ·cases h
    ·rename_i t1 ht
     have e1:=j4 ht
     rcases wl n (id+1) t1 t' h i with⟨h1,h2⟩|⟨h1,h2,h3⟩
     ·by_cases e:i=id
      ·subst e
       rw[e1,ak]at h2
       refine .inr ⟨by omega,by omega,.inr fun r hr=>?_⟩
       rw[h2]
       rcases aek.1 hr with rfl|hr
       ·exact hb
       ·exact Hb ha r hr
      ·rw[e1,am _ _ e]at h2
       exact .inl ⟨by omega,h2⟩
     ·refine .inr ⟨by omega,by omega,h3.imp (fun h3=>?_) (fun h=>h)⟩
      rw[h3,e1,am _ _ (by omega)]
def D9(P:Program)(fn:Func)(u:Nat):List (Exit×ESX)->Option (List Rx)
 |[]=>some []
 |q::l=>bif (match q.1 with|.normal=>true|.ret=>true|_=>false)then(match zx P fn q.2 u with
  |none=>none
  |some r=>match D9 P fn u l with
   |none=>none
   |some rs=>some (r::rs))else none
theorem Gm{P:Program}{fn:Func}{u:Nat}:∀{l:List (Exit×ESX)} {rs:List Rx},D9 P fn u l=some rs->(∀q∈l,(q.1=.normal\/q.1=.ret)/\∃r∈rs,zx P fn q.2 u=some r)/\∀r∈rs,∃q∈l,zx P fn q.2 u=some r
 |[],rs,h=>by
  simp only[D9,adw]at h
  subst h
  exact⟨fun q hq=>(by cases hq),fun r hr=>(by cases hr)⟩
 |q::l,rs,h=>by
  simp only[D9]at h
  have h2:(match q.1 with|.normal=>true|.ret=>true|_=>false)=true->(q.1=.normal\/q.1=.ret):=by
   intro h
   split at h
   ·exact .inl ‹_›
   ·exact .inr ‹_›
   ·cases h
  cases hb:(match q.1 with|.normal=>true|.ret=>true|_=>false)with
  |false=>rw[hb]at h;simp at h
  |true=>
   rw[hb]at h
   simp only[cond_true]at h
   split at h
   ·cases h
   ·rename_i r hr
    split at h
    ·cases h
    ·rename_i rs' h3
     simp only[adw]at h
     subst h
     obtain⟨i1,i2⟩:=Gm h3
     refine⟨fun q' h0=>?_,fun r' h1=>?_⟩
     ·rcases aek.1 h0 with rfl|h0
      ·exact⟨h2 hb,r,List.mem_cons_self ..,hr⟩
      ·obtain⟨j1,r',j2,j3⟩:=i1 q' h0
       exact⟨j1,r',List.mem_cons_of_mem _ j2,j3⟩
     ·rcases aek.1 h1 with rfl|h1
      ·exact⟨q,List.mem_cons_self ..,hr⟩
      ·obtain⟨q',j1,j2⟩:=i2 r' h1
       exact⟨q',List.mem_cons_of_mem _ j1,j2⟩
theorem Lh{P:Program}{fn:Func}{E:ESX}{u:Nat}{r:Rx}(h:zx P fn E u=some r):∃m vs,Dv P E fn.results.toList=some (m,vs)/\r=⟨wq (Nat.lor E.rd m) u,wq E.wr u,u,E.u,E.h,Np vs⟩:=by
 unfold zx at h
 split at h
 ·cases h
 ·rename_i m vs h0
  rw[fh,fh]at h
  simp only[adw]at h
  exact⟨m,vs,h0,h.symm⟩
def orF:List Rx->Nat->Nat
 |[],m=>m
 |r::l,m=>orF l (Nat.lor m r.F)
theorem J0{i:Nat}:∀(l:List Rx) (m:Nat),(orF l m).testBit i=true↔m.testBit i=true\/∃r∈l,r.F.testBit i=true
 |[],m=>by simp[orF]
 |r::l,m=>by
  have e:(Nat.lor m r.F).testBit i=(m.testBit i||r.F.testBit i):=Nat.testBit_or ..
  simp only[orF]
  rw[J0 l,e,Bool.or_eq_true]
  simp only[aek,exists_eq_or_imp]
  rw[or_assoc]
def B3(u:Nat)(h:Tri (Option Blk)):List Rx->Option Rx
 |[]=>none
 |r0::rs=>bif (r0::rs).all (fun r=>Nat.beq r.W 0&&Nat.beq r.u r0.u&&q9 16 r.v r0.v)then(match tq r0 rs (r0.u-u) u h with
  |none=>none
  |some h'=>some ⟨orF (r0::rs) 0,0,u,r0.u,h',r0.v⟩)
  else none
theorem Kh{u:Nat}{h:Tri (Option Blk)}{rs:List Rx}{r:Rx}(hm:B3 u h rs=some r):r.u0=u/\r.W=0/\rs≠[]/\(∀q∈rs,q.W=0/\q.u=r.u/\q.v=r.v)/\(∀i,r.F.testBit i=true↔∃q∈rs,q.F.testBit i=true)/\
 ∀i,((i<u\/u+(r.u-u)<=i)/\av r.h i=av h i)\/(u<=i/\i<u+(r.u-u)/\(av r.h i=av h i\/∀q∈rs,av q.h i=av r.h i)):=by
 unfold B3 at hm
 split at hm
 ·cases hm
 ·rename_i r0 rs
  cases hc:(r0::rs).all (fun r=>Nat.beq r.W 0&&Nat.beq r.u r0.u&&q9 16 r.v r0.v)with
  |false=>rw[hc]at hm;simp at hm
  |true=>
   rw[hc]at hm
   simp only[cond_true]at hm
   split at hm
   ·cases hm
   ·rename_i h' hh
    simp only[adw]at hm
    subst hm
    refine⟨rfl,rfl,by simp,fun q hq=>?_,fun i=>?_,fun i=>wl _ _ _ _ hh i⟩
    ·have h1:=List.all_eq_true.1 hc q hq
     simp only[aes]at h1
     exact⟨adv h1.1.1,adv h1.1.2,q8 _ _ _ h1.2⟩
    ·show(orF (r0::rs) 0).testBit i=true↔_
     rw[J0]
     simp
theorem Li{P:Program}{f:FuncId}{fn:Func}{c:Code}{ys:List AV}{h:Tri (Option Blk)}{u:Nat}{t:Tri AV}{outs:List (Exit×ESX)}{rs:List Rx}{r:Rx}(hf:P.funcs[f]? =some fn)(hb:fn.body=some c)(hl:ys.length<=fn.ntmps)(ht:ka 0 ys .nil=some t)
 (h4:ul h u)(h8:As P fn.ntmps c ⟨t,h,u,0,0⟩ outs)(h9:D9 P fn u outs=some rs)(hj:B3 u h rs=some r):r.u0=u/\Fits (av h) r.rc/\Aq P f ys (av h) r.rc:=by
 obtain⟨f1,f2⟩:=Gm h9
 obtain⟨m1,m2,m3,m4,m5,m6⟩:=Kh hj
 obtain⟨⟨k1,k2⟩,ha⟩:=h8
 have hg:∀id,r.W.testBit id=false:=fun id=>by rw[m2];exact Nat.zero_testBit id
 have hD:∀id,r.rc.D id=true↔(u<=id/\id<r.u):=fun id=>by
  rw[Rc.D_iff]
  constructor
  ·rintro(h1|h1)
   ·have h2:r.W.testBit id=true:=h1
    rw[hg]at h2;cases h2
   ·have h2:r.u0<=id/\id<r.u:=h1
    rw[m1]at h2
    exact h2
  ·intro h1
   right
   show r.u0<=id/\id<r.u
   rw[m1]
   exact h1
 -- what is known of each outcome
 have each:∀q∈outs,∃m vs,Dv P q.2 fn.results.toList=some (m,vs)/\q.2.u=r.u/\Np vs=r.v/\(∀id,id<u->q.2.rd.testBit id=true\/m.testBit id=true->r.F.testBit id=true)/\(∀id,id<u->q.2.wr.testBit id=false)/\(∀i,(∀x∈rs,av x.h i=av r.h i)->av q.2.h i=av r.h i):=by
  intro q hq
  obtain⟨_,x,hx,hc⟩:=f1 q hq
  obtain⟨m,vs,ho,rfl⟩:=Lh hc
  obtain⟨w1,w2,w3⟩:=m4 _ hx
  refine⟨m,vs,ho,w2,w3,fun id h0 hh=>(m5 id).2 ⟨_,hx,?_⟩,fun id h0=>?_,fun i hi=>hi _ hx⟩
  ·show(wq (Nat.lor q.2.rd m) u).testBit id=true
   rw[rg]
   refine⟨h0,?_⟩
   have:(Nat.lor q.2.rd m).testBit id=(q.2.rd.testBit id||m.testBit id):=Nat.testBit_or ..
   rw[this,Bool.or_eq_true]
   exact hh
  ·cases hw:q.2.wr.testBit id with
   |false=>rfl
   |true=>
    have h1:(wq q.2.wr u).testBit id=true:=rg.2 ⟨h0,hw⟩
    have h2:wq q.2.wr u=0:=w1
    rw[h2]at h1
    simp at h1
 have hle:u<=r.u:=by
  obtain⟨q,hq⟩:=List.exists_mem_of_ne_nil _ k1
  obtain⟨m,vs,_,e,_⟩:=each q hq
  have:u<=q.2.u:=(k2 q hq).u
  omega
 have h5:Fits (av h) r.rc:=by
  refine⟨by show r.u0<=r.u;omega,fun id h0=>?_,fun id h0=>?_,fun id h0=>?_⟩
  ·show av r.h id=av h id
   rcases m6 id with⟨_,h2⟩|⟨h1,h2,h3⟩
   ·exact h2
   ·rw[(hD id).2 ⟨h1,by omega⟩]at h0;cases h0
  ·have h2:r.W.testBit id=true:=h0
   rw[hg]at h2;cases h2
  ·show id<r.u0
   rw[m1]
   obtain⟨x,hx,hk⟩:=(m5 id).1 h0
   obtain⟨q,hq,hc⟩:=f2 x hx
   obtain⟨m,vs,_,rfl⟩:=Lh hc
   exact(rg.1 hk).1
 refine⟨m1,h5,xt hf hb rfl hl (ki ht) h5 (fun id h0=>h4 id (by have h2:r.u0<=id:=h0;omega)) ?_⟩
 have e0:(⟨bc t,av h,r.rc.u0⟩:St)=(⟨t,h,u,0,0⟩:ESX).st:=by
  show(⟨bc t,av h,r.u0⟩:St)=_
  rw[m1]
  rfl
 rw[e0]
 have hd:∀id,(r.rc.F.testBit id=true\/(r.rc.u0<=id/\id<r.rc.u))↔(r.F.testBit id=true\/(u<=id/\id<r.u)):=fun id=>by
  show(r.F.testBit id=true\/(r.u0<=id/\id<r.u))↔_
  rw[m1]
 refine ha _ _ _ _ (fun q hq=>?_) (fun q hq=>?_)
 ·obtain⟨m,vs,g1,g2,g3,g4,g5,g6⟩:=each q hq
  have mo:=k2 q hq
  have he:=mo.sub (fun id h0=>by simp at h0)
  have h6:=mo.lrd (fun id h0=>by simp at h0)
  refine⟨fun id h0=>(hd id).2 ?_,fun id h0=>(hD id).2 ?_,by show q.2.u<=r.u;omega,fun id h1 h2=>⟨(hd id).2 (.inr ⟨h1,h2⟩),(hD id).2 ⟨h1,h2⟩⟩⟩
  ·by_cases h1:id<u
   ·exact .inl (g4 id h1 (.inl h0))
   ·exact .inr ⟨by omega,by have:=h6 id h0;omega⟩
  ·by_cases h1:id<u
   ·rw[g5 id h1]at h0;cases h0
   ·exact⟨by omega,by have:=h6 id (he id h0);omega⟩
 ·obtain⟨m,vs,g1,g2,g3,g4,g5,g6⟩:=each q hq
  have mo:=k2 q hq
  have h7:=mo.low h4
  refine⟨(f1 q hq).1,fun id h0=>?_,?_⟩
  ·have hid':=(hD id).1 h0
   show av q.2.h id=av r.h id\/av r.h id=none
   rcases m6 id with⟨h1,h2⟩|⟨h1,h2,h3⟩
   ·omega
   ·rcases h3 with h3|h3
    ·exact .inr (h3.trans (h4 id h1))
    ·exact .inl (g6 id h3)
  ·show Mz _ _ _ _ _ _ r.v
   rw[<-g3]
   refine la (uu _ _ _ (fun id b hb' hm=>(hd id).2 ?_) g1)
   by_cases h1:id<u
   ·exact .inl (g4 id h1 (.inr hm))
   ·refine .inr ⟨by omega,?_⟩
    by_cases h2:id<q.2.u
    ·omega
    ·rw[h7 id (by omega)]at hb';cases hb'
structure Book(B:Nat)(C:Ctx)(w':World):Prop where
 os:w'.os=C.w.os
 tape:w'.tape=C.w.tape
 output:w'.output=C.w.output
 size:C.w.heap.size<=w'.heap.size
 heap:∀k,k<C.w.heap.size->(k<B\/C.mine k\/C.T k)->w'.heap[k]? =C.w.heap[k]?
def Ctx.on(C:Ctx)(w':World):Ctx:={C with w:=w'}
theorem VR.on{C:Ctx}{w':World}(hT:∀k,C.T k->w'.heap[k]? =C.w.heap[k]?){a:AV}{x:Value}(h:VR C a x):VR (C.on w') a x:=by
 induction h with
 |imm h=>exact .imm (h.mono (fun _ h=>h) (fun k hk=>hT k hk))
 |ptr h1 h2 h3=>exact .ptr (C:=C.on w') h1 h2 h3
 |sl h1 h2 h3 h4 h5 h6 h7=>exact .sl (C:=C.on w') h1 h2 h3 h4 h5 h6 h7
 |slz h1 h2 h3=>exact .slz (C:=C.on w') h1 h2 h3
 |slnil h1 h2 h3=>exact .slnil (C:=C.on w') h1 h2 h3
 |mp h1 h2 h3=>exact .mp (C:=C.on w') h1 h2 h3
 |it h1 h2 h3=>exact .it (C:=C.on w') h1 h2 h3
 |stalem h1 h2 h3=>exact .stalem (C:=C.on w') h1 h2 h3
 |stalei h1 h2 h3=>exact .stalei (C:=C.on w') h1 h2 h3
 |stalep h1 h2 h3=>exact .stalep (C:=C.on w') h1 h2 h3
 |stales h1 h2 h3=>exact .stales (C:=C.on w') h1 h2 h3
 |agg hl _ ih=>exact .agg hl ih
 |tup hl _ ih=>exact .tup hl ih
 |clo hl _ ih=>exact .clo hl ih
theorem ObjR.on{C:Ctx}{w':World}(hT:∀k,C.T k->w'.heap[k]? =C.w.heap[k]?){cs:List AV}{o:Obj}(ho:ObjR C cs o):ObjR (C.on w') cs o:=by
 cases ho with
 |map hl hi=>exact .map hl (fun i h1 h2=>⟨(hi i h1 h2).1,(hi i h1 h2).2.1.on hT,(hi i h1 h2).2.2⟩)
 |siter=>exact .siter
 |miter0=>exact .miter0
 |miter hv=>exact .miter (hv.on hT)
theorem Good.on{C:Ctx}{w':World}(hg:Good C)(hT:∀k,C.T k->w'.heap[k]? =C.w.heap[k]?)(hm:∀k,C.mine k->w'.heap[k]? =C.w.heap[k]?):Good (C.on w') where
 used:=hg.used
 obj:=fun{id b} hb hk=>by
  obtain⟨o,h,ho⟩:=hg.obj hb hk
  exact⟨o,(hm _ ⟨id,⟨b,hb,by rw[hk];decide⟩,rfl⟩).trans h,ho.on hT⟩
 blk:=fun{id b} hb hn=>by
  obtain⟨c,t',g1,g2,g3,g4⟩:=hg.blk hb hn
  exact⟨c,t',(hm _ ⟨id,⟨b,hb,df hn⟩,rfl⟩).trans g1,g2,g3,fun j h h'=>(g4 j h h').on hT⟩
 inj:=hg.inj
 tok:=⟨fun k hk=>by
  have h1:=hg.tlt hk
  have h2:=hT k hk
  rw[Array.getElem?_eq_getElem h1]at h2
  exact(Array.getElem?_eq_some_iff.1 h2).1,hg.tok.glob.mono (fun _ h=>h) hT⟩
 apart:=hg.apart
 tight:=hg.tight
theorem Book.T{B:Nat}{C:Ctx}{w':World}(hg:Good C)(h:Book B C w'):∀k,C.T k->w'.heap[k]? =C.w.heap[k]?:=fun k hk=>h.heap k (hg.tlt hk) (.inr (.inr hk))
theorem Book.mine{B:Nat}{C:Ctx}{w':World}(hg:Good C)(h:Book B C w'):∀k,C.mine k->w'.heap[k]? =C.w.heap[k]?:=fun k hk=>h.heap k (cf hg hk) (.inr (.inl hk))
theorem Book.good{B:Nat}{C:Ctx}{w':World}(hg:Good C)(h:Book B C w'):Good (C.on w'):=hg.on (h.T hg) (h.mine hg)
theorem SRelX.on{DS:List Deferred}{RD:Nat->Prop}{B M N:Nat}{C:Ctx}{s:St}{a:Act}{w':World}(hr:SRelX DS RD M N C s a)(h:Book B C w'):SRelX DS RD M N (C.on w') s a:=
 ⟨h.good hr.good,hr.η,hr.free,hr.defers,hr.size,fun t=>(hr.τ t).on (h.T hr.good)⟩
theorem FrX.on{WD:Nat->Prop}{C0 C:Ctx}{w':World}(hf:FrX WD C0 C)(h:Book C0.w.heap.size C w'):FrX WD C0 (C.on w') where
 ev:={
  os:=h.os.trans hf.ev.os
  tape:=h.tape.trans hf.ev.tape
  output:=h.output.trans hf.ev.output
  size:=aec hf.ev.size h.size
  keep:=fun k hk hm=>(h.heap k (Nat.lt_of_lt_of_le hk hf.ev.size) (.inl hk)).trans (hf.ev.keep k hk hm)
  mine:=hf.ev.mine
  T:=hf.ev.T
  Tnew:=hf.ev.Tnew
  U:=hf.ev.U
  old:=hf.ev.old}
 η:=hf.η
 U:=hf.U
structure Mark(B:Nat)(C:Ctx)(k:Nat)(o:Obj):Prop where
 ge:B<=k
 here:C.w.heap[k]? =some o
 mine:¬C.mine k
 T:¬C.T k
theorem Mark.lt{B:Nat}{C:Ctx}{k:Nat}{o:Obj}(h:Mark B C k o):k<C.w.heap.size:=(Array.getElem?_eq_some_iff.1 h.here).1
theorem Mark.ev{B:Nat}{C C':Ctx}{k:Nat}{o:Obj}(h:Mark B C k o)(he:Ev C C'):Mark B C' k o:=
 ⟨h.ge,(he.keep k h.lt h.mine).trans h.here,fun hm=>(he.mine k hm).elim h.mine (fun hle=>by have:=h.lt;omega),fun ht=>by
  rcases he.Tnew k ht with h1|h1|h1
  ·exact h.T h1
  ·exact h.mine h1
  ·have:=h.lt;omega⟩
theorem Mark.book{B:Nat}{C:Ctx}{k:Nat}{o:Obj}(h:Mark B C k o)(o':Obj):Book B C (C.w.putObj k o'):=
 ⟨rfl,rfl,rfl,by simp[World.putObj],fun j hj hc=>World.putObj_heap_other (fun e=>by
  subst e
  rcases hc with h1|h1|h1
  ·have:=h.ge;omega
  ·exact h.mine h1
  ·exact h.T h1)⟩
theorem Mark.put{B:Nat}{C:Ctx}{k:Nat}{o:Obj}(h:Mark B C k o)(o':Obj):Mark B (C.on (C.w.putObj k o')) k o':=
 ⟨h.ge,World.putObj_heap_same h.lt,h.mine,h.T⟩
theorem Mark.other{B:Nat}{C:Ctx}{k j:Nat}{o:Obj}(h:Mark B C k o)(h0:k≠j)(o':Obj):Mark B (C.on (C.w.putObj j o')) k o:=
 ⟨h.ge,(World.putObj_heap_other h0).trans h.here,h.mine,h.T⟩
theorem Book.alloc(B:Nat)(C:Ctx)(o:Obj):Book B C (C.w.alloc o):=
 ⟨rfl,rfl,rfl,by simp,fun k hk _=>Below.heap_alloc C.w o k hk⟩
theorem Mark.new{B:Nat}{C:Ctx}(hg:Good C)(hB:B<=C.w.heap.size)(o:Obj):Mark B (C.on (C.w.alloc o)) C.w.heap.size o:=
 ⟨hB,World.alloc_heap_new C.w o,fun hm=>Nat.lt_irrefl _ (cf hg hm),fun ht=>Nat.lt_irrefl _ (hg.tlt ht)⟩
theorem Mark.alloc{B:Nat}{C:Ctx}{k:Nat}{o:Obj}(h:Mark B C k o)(o':Obj):Mark B (C.on (C.w.alloc o')) k o:=
 ⟨h.ge,(Below.heap_alloc C.w o' k h.lt).trans h.here,h.mine,h.T⟩
def yAV:AV:=.v (.func (.yield 0) #[] #[])
def isY:AV->Bool
 |.v (.func (.yield _) _ _)=>true
 |_=>false
def Is(l:Nat)(a:AV):AV:=bif isY a then .v (.func (.yield l) #[] #[])else a
def yT(l:Nat)(τ:Nat->AV):Nat->AV:=fun t=>Is l (τ t)
theorem vd{l:Nat}{a:AV}(h:isY a=false):Is l a=a:=by unfold Is;rw[h];rfl
theorem Ir{l:Nat}{a:AV}(h:isY a=true):Is l a=.v (.func (.yield l) #[] #[]):=by unfold Is;rw[h];rfl
theorem Mq{l:Nat}{τ:Nat->AV}{x:Operand}(h:isY (aev τ x)=false):aev (yT l τ) x=aev τ x:=by
 cases x with
 |tmp t=>exact vd h
 |_=>rfl
theorem Qu{l:Nat}{τ:Nat->AV}{x:Operand}{b:Bool}(h:aev τ x=.v (.bool b)):aev (yT l τ) x=.v (.bool b):=by
 rw[Mq (by rw[h];rfl),h]
theorem Iq{l:Nat}{τ:Nat->AV}{d:Option Nat}{v:AV}:yT l (ke τ d v)=ke (yT l τ) d (Is l v):=by
 funext t
 cases d with
 |none=>rfl
 |some d=>
  show Is l (upd τ d v t)=upd (yT l τ) d (Is l v) t
  unfold upd yT
  cases Nat.beq t d<;>rfl
theorem aak{l:Nat}{τ:Nat->AV}{ops:Array Oper}{o:Oper}:l9 ops (yT l τ) o=l9 ops τ o:=by
 unfold l9
 split
 ·rfl
 ·split
  ·rfl
  ·rename_i d _
   cases hy:isY (τ d)with
   |false=>
    have e:yT l τ d=τ d:=vd hy
    rw[e]
   |true=>
    have e:yT l τ d=.v (.func (.yield l) #[] #[]):=Ir hy
    rw[e]
    generalize τ d=x at hy
    unfold isY at hy
    split at hy
    ·rfl
    ·cases hy
theorem ry.congr{P:Program}{o:Oper}{τ τ':Nat->AV}{η:bg}{r:Rc}(h:ry P o τ η r)(he:∀x∈o.op.operands,aev τ' x=aev τ x):ry P o τ' η r:=
 fun C a hg hx hF hN K Q hK=>h C a hg (fun x hm=>by rw[<-he x hm];exact hx x hm) hF hN K Q hK
inductive VRl(C:Ctx):List AV->List Value->Prop where
 |nil:VRl C [] []
 |cons {a:AV} {x:Value} {as:List AV} {xs:List Value}:VR C a x->VRl C as xs->VRl C (a :: as) (x :: xs)
def Dr(N:Nat):List Nat->List AV->Tri AV->Option (Tri AV)
 |[],[],t=>some t
 |p::ps,v::vs,t=>bif Nat.ble (p+1) N then(match Tri.set 24 t p v with
  |none=>none
  |some t'=>Dr N ps vs t')else none
 |_,_,_=>none
theorem Bp{C:Ctx}{N:Nat}:∀(ps:List Nat) (vs:List AV) (xs:List Value) (t t1:Tri AV) (tm:Array Value),Dr N ps vs t=some t1->VRl C vs xs->tm.size=N->(∀k,VR C (bc t k) (tm.getD k undef))->
 ps.length=xs.length/\((ps.zip xs).foldl (fun tm q=>tm.setIfInBounds q.1 q.2) tm).size=N/\∀k,VR C (bc t1 k) (((ps.zip xs).foldl (fun tm q=>tm.setIfInBounds q.1 q.2) tm).getD k undef)
 |[],[],xs,t,t1,tm,h,hv,hs,hr=>by
  cases hv
  simp only[Dr,adw]at h
  subst h
  exact⟨rfl,hs,hr⟩
 |[],_::_,_,_,_,_,h,_,_,_=>by simp[Dr]at h
 |_::_,[],_,_,_,_,h,_,_,_=>by simp[Dr]at h
 |p::ps,v::vs,xs,t,t1,tm,h,hv,hs,hr=>by
  cases hv with
  |cons h1 h2=>
   rename_i x xs
   simp only[Dr]at h
   cases hb:Nat.ble (p+1) N with
   |false=>rw[hb]at h;simp at h
   |true=>
    rw[hb]at h
    simp only[cond_true]at h
    split at h
    ·cases h
    ·rename_i t' ht
     have hp:p<N:=aeb hb
     obtain⟨e1,e2,e3⟩:=Bp ps vs xs t' t1 (tm.setIfInBounds p x) h h2 (by simpa using hs) (fun k=>by
      rw[vf ht]
      unfold upd
      by_cases e:k=p
      ·subst e
       rw[Nat.beq_refl]
       simp only[cond_true]
       have:(tm.setIfInBounds k x).getD k undef=x:=by simp[hs,hp]
       rw[this];exact h1
      ·have h0:Nat.beq k p=false:=by
        cases hb:Nat.beq k p with
        |false=>rfl
        |true=>exact absurd (adv hb) e
       rw[h0]
       simp only[cond_false]
       have:(tm.setIfInBounds p x).getD k undef=tm.getD k undef:=by
        rw[Array.getD_eq_getD_getElem?,Array.getD_eq_getD_getElem?,Array.getElem?_setIfInBounds_ne (fun h=>e h.symm)]
       rw[this];exact hr k)
     exact⟨by simp[e1],e2,e3⟩
section
variable(P:Program)(fuel:Nat)(f:bw)(No:Nat)(t0:Tri AV)(ps:List Nat)(assign body:Code)
noncomputable def Jn(vs:List AV)(E:ESX):Option (Exit×ESX):=
 match Dr No ps vs t0 with
 |none=>none
 |some t1=>match ip No fuel f assign ⟨t1,E.h,E.u,E.rd,E.wr⟩with
  |some (.normal,E1)=>ip No fuel f body E1
  |_=>none
def Gc:Exit->Option (Option Code)
 |.normal=>some none
 |.ret=>some (some .ret)
 |.exit id=>some (some (.exit id))
 |_=>none
def Tf(τ:Nat->AV)(o:Oper):Bool:=match o.op with
 |.move (.tmp t)=>isY (τ t)
 |_=>false
def Wr(τ:Nat->AV)(o:Oper):Option (Array Operand):=match o.op with
 |.call ⟨.value (.tmp t),xs,_⟩=>bif isY (τ t)&&xs.toList.all (fun x=>!isY (aev τ x))then some xs else none
 |_=>none
noncomputable def O8(ops:Array Oper):List Oper->ESX->Option Code->Option (ESX×Option Code)
 |[],E,ph=>some (E,ph)
 |o::l,E,ph=>match l9 ops (bc E.t) o with
  |none=>none
  |some false=>match E.step o.dst ⟨0,0,E.u,E.u,E.h,.v undef⟩with
   |none=>none
   |some E'=>O8 ops l E' ph
  |some true=>bif Tf (bc E.t) o then(match E.step o.dst ⟨0,0,E.u,E.u,E.h,yAV⟩with
   |none=>none
   |some E'=>O8 ops l E' ph)
   else match Wr (bc E.t) o with
   |some xs=>(match ph with
    |some _=>none
    |none=>match Jn fuel f No t0 ps assign body (xs.toList.map (aev (bc E.t))) E with
     |none=>none
     |some (e,E2)=>match Gc e with
      |none=>none
      |some ph'=>match(ESX.mk E.t E2.h E2.u E2.rd E2.wr).step o.dst ⟨0,0,E2.u,E2.u,E2.h,.v (.bool ph'.isNone)⟩with
       |none=>none
       |some E'=>O8 ops l E' ph')
   |none=>bif o.op.operands.toList.all (fun x=>!isY (aev (bc E.t) x))then(match f o E with
    |none=>none
    |some r=>bif isY r.v then none else match E.step o.dst r with
     |none=>none
     |some E'=>O8 ops l E' ph)else none
noncomputable def kv(Ni:Nat):Nat->Code->ESX->Option Code->Option (Exit×ESX×Option Code)
 |0,_,_,_=>none
 |_+1,.skip,E,ph=>some (.normal,E,ph)
 |_+1,.ret,E,ph=>some (.ret,E,ph)
 |_+1,.exit id,E,ph=>some (.exit id,E,ph)
 |n+1,.seq a b,E,ph=>match kv Ni n a E ph with
  |some (.normal,E1,p1)=>kv Ni n b E1 p1
  |r=>r
 |n+1,.cond c a b,E,ph=>match aev (bc E.t) c with
  |.v (.bool true)=>kv Ni n a E ph
  |.v (.bool false)=>kv Ni n b E ph
  |_=>none
 |n+1,.block id c,E,ph=>match kv Ni n c E ph with
  |some (.exit i,E1,p1)=>bif Nat.beq i id then some (.normal,E1,p1)else some (.exit i,E1,p1)
  |r=>r
 |n+1,.loop c,E,ph=>match kv Ni n c E ph with
  |some (.normal,E1,p1)=>kv Ni n (.loop c) E1 p1
  |r=>r
 |n+1,.region id ops false,E,ph=>bif yl Ni ops then(match O8 fuel f No t0 ps assign body ops ops.toList E ph with
  |none=>none
  |some (E',p')=>some (.normal,E',p'))else none
 |_,_,_,_=>none
end
theorem Pw{RD WD:Nat->Prop}{M:Nat}{E E1 E':ESX}{o:Oper}{r:Rx}(hu:r.u0=E.u)(h3:Fits (av E.h) r.rc)(hs:E.step o.dst r=some E1)(m2:Mono E1 E')(h0:Under RD WD M E.u E'):Inn RD WD M r.rc:=by
 obtain⟨s1,s2,s3,s4,s5⟩:=fa hs
 have m1:Mono E E1:=im s2 s3 s4 s5 hu h3
 have hu1:=m2.u
 refine⟨fun id h4=>h0.rd id (m2.rd id (by rw[s4,Nat.testBit_or,show r.F.testBit id=true from h4,Bool.or_true])),fun id h1 h2=>?_,fun id h4=>?_,?_⟩
 ·have h7:r.u0<=id:=h1
  have h8:id<r.u:=h2
  have:=h0.u
  exact(h0.new id (by omega) (by omega)).1
 ·rcases Rc.D_iff.1 h4 with h5|⟨h5,h6⟩
  ·exact h0.wd id (m2.wr id (by rw[s5,Nat.testBit_or,show r.W.testBit id=true from h5,Bool.or_true]))
  ·have h7:r.u0<=id:=h5
   have h8:id<r.u:=h6
   have:=h0.u
   exact(h0.new id (by omega) (by omega)).2
 ·show r.u<=M
  have:=h0.u
  omega
theorem vi{E E1:ESX}{o:Oper}{r:Rx}(hu:r.u0=E.u)(h0:Fits (av E.h) r.rc)(hs:E.step o.dst r=some E1):Mono E E1:=by
 obtain⟨s1,s2,s3,s4,s5⟩:=fa hs
 exact im s2 s3 s4 s5 hu h0
def mkL(fn:FuncId)(tm:Array Value)(pa:Array Tmp)(assign body:Code)(D:Nat)(st:LoopState)(pe:Option Code):Loop:=
 {state:=st,pending:=pe,fn:=fn,tmps:=tm,params:=pa,assign:=assign,body:=body,defers:=D}
def Wl(ph:Option Code):LoopState:=if ph.isNone then .ready else .done
section
variable{P:Program}{fuel:Nat}{f:bw}{No Ni:Nat}{t0:Tri AV}{pa:Array Tmp}{assign body:Code}
variable{RD WD:Nat->Prop}{M:Nat}{C0:Ctx}{l D:Nat}{Dl:List Nat}{fn:FuncId}{tm:Array Value}{q:Nat}
structure RelH(RD WD:Nat->Prop)(M:Nat)(C0:Ctx)(l:Nat)(Dl:List Nat)(L:Loop)(η:bg)(u:Nat)(C:Ctx):Prop where
 good:Good C
 η:∀id,RD id->C.η id=η id
 free:∀id,u<=id->id<M->¬C.U id
 fr:FrX WD C0 C
 ml:Mark C0.w.heap.size C l (.loop L)
 md:∀d∈Dl,Mark C0.w.heap.size C d (.deferred (some []))
theorem Ow(hf:f.Ok P)(hm:P.follows .mixedOrders=true)(hb:∀d∈Dl,d≠l)(hg:tm.size=No){vs:List AV}{E E2:ESX}{e:Exit}{ph:Option Code}(hl:ul E.h E.u)
 (h2:Jn fuel f No t0 pa.toList assign body vs E=some (e,E2))(hj:Gc e=some ph):
 Mono E E2/\(Under RD WD M E.u E2->∀(C:Ctx) (xs:Array Value),RelH RD WD M C0 l Dl (mkL fn tm pa assign body D .ready none) (av E.h) E.u C->(∀t,VR C (bc t0 t) (tm.getD t undef))->VRl C vs xs.toList->
  (Instr.yield l xs).run P C.w=.ok (.round l fn ((pa.zip xs).foldl (fun tmps (t,a)=>tmps.setIfInBounds t a) tm) assign body) C.w/\
  RoundIn Fence.wide q P l fn ((pa.zip xs).foldl (fun tmps (t,a)=>tmps.setIfInBounds t a) tm) assign body C.w fun e' w'=>e'=.returned (.bool ph.isNone)/\∃C',C'.w=w'/\
   RelH RD WD M C0 l Dl (mkL fn tm pa assign body D (Wl ph) ph) (av E2.h) E2.u C'/\∀a x,VR C a x->VR C' a x):=by
 unfold Jn at h2
 split at h2
 ·cases h2
 ·rename_i t1 hh
  split at h2
  ·rename_i E1 h1
   obtain⟨m1,s1⟩:=jy hf hm assign ⟨t1,E.h,E.u,E.rd,E.wr⟩ .normal E1 hl h1
   obtain⟨m2,s2⟩:=jy hf hm body E1 e E2 (m1.low hl) h2
   have m1':Mono E E1:=⟨m1.rd,m1.wr,m1.u,m1.h,m1.low,m1.sub,m1.lrd⟩
   refine⟨m1'.trans m2,fun hc C xs hR h0 hv=>?_⟩
   obtain⟨p1,p2,p3⟩:=Bp pa.toList vs xs.toList t0 t1 tm hh hv hg h0
   have h3:(pa.zip xs).foldl (fun tmps (x:Tmp×Value)=>tmps.setIfInBounds x.1 x.2) tm=(pa.toList.zip xs.toList).foldl (fun tm q=>tm.setIfInBounds q.1 q.2) tm:=by
    rw[<-Array.foldl_toList,Array.toList_zip]
   refine⟨run_yield hR.ml.here (show xs.size=pa.size by simpa using p1.symm),roundIn_of_wpIn trivial ?_⟩
   show assign.wpIn (Fence.wide.inRound l) q P _ {tmps:=(pa.zip xs).foldl (fun tmps (x:Tmp×Value)=>tmps.setIfInBounds x.1 x.2) tm,defers:=[]} C.w
   rw[h3]
   have h7:SRelX [] RD M No C (⟨t1,E.h,E.u,E.rd,E.wr⟩:ESX).st {tmps:=(pa.toList.zip xs.toList).foldl (fun tm q=>tm.setIfInBounds q.1 q.2) tm,defers:=[]}:=
    ⟨hR.good,hR.η,hR.free,rfl,p2,p3⟩
   refine Code.wpIn_mono ?_ (s1 RD WD M (fun e' s'=>e'=.normal/\s'=E1.st) (hc.back m2) ⟨rfl,rfl⟩ (Fence.wide.inRound l) (.inr ⟨l,rfl⟩) q [] C _ h7)
   rintro e' a' w' ⟨s',C1,⟨rfl,rfl⟩,rfl,h8,h4⟩
   have ml1:=hR.ml.ev h4.ev
   have md1:=fun d hd=>(hR.md d hd).ev h4.ev
   refine⟨_,run_beginRound ml1.here rfl,?_⟩
   have b1:=ml1.book (.loop {mkL fn tm pa assign body D .ready none with state:=.busy})
   have ml1':=ml1.put (.loop {mkL fn tm pa assign body D .ready none with state:=.busy})
   have md1':=fun d (hd:d∈Dl)=>(md1 d hd).other (hb d hd) (.loop {mkL fn tm pa assign body D .ready none with state:=.busy})
   refine Code.wpIn_mono ?_ (s2 RD WD M (fun e' s'=>e'=e/\s'=E2.st) (hc.up m1.u) ⟨rfl,rfl⟩ (Fence.wide.inRound l) (.inr ⟨l,rfl⟩) q [] _ a' (h8.on b1))
   rintro e' a'' w'' ⟨s'',C2,⟨rfl,rfl⟩,rfl,h5,h6⟩
   have ml2:=ml1'.ev h6.ev
   have md2:=fun d hd=>(md1' d hd).ev h6.ev
   have h9:=(hR.fr.trans h4).on b1
   have ha:=h9.trans h6
   have fin:∀jump,Gc e'=some jump->∃v w',(Instr.endRound l jump).run P C2.w=.ok v w'/\((Ending.returned v)=.returned (.bool ph.isNone)/\∃C',C'.w=w'/\
    RelH RD WD M C0 l Dl (mkL fn tm pa assign body D (Wl ph) ph) (av E2.h) E2.u C'/\∀a x,VR C a x->VR C' a x):=by
    intro jump he
    rw[hj]at he
    obtain rfl:ph=jump:=by simpa using he
    have b2:=ml2.book (.loop {{mkL fn tm pa assign body D .ready none with state:=.busy}with state:=if ph.isNone then .ready else .done,pending:=ph})
    refine⟨_,_,run_endRound ph ml2.here,rfl,C2.on _,rfl,⟨b2.good h5.good,h5.η,h5.free,ha.on b2,ml2.put _,fun d hd=>(md2 d hd).other (hb d hd) _⟩,fun a x hv=>?_⟩
    exact(((hv.mono hR.good h4.ev).on (b1.T h8.good)).mono (b1.good h8.good) h6.ev).on (b2.T h5.good)
   cases e' with
   |normal=>exact fin none rfl
   |ret=>exact fin (some .ret) rfl
   |exit id=>exact fin (some (.exit id)) rfl
   |_=>simp[Gc]at hj
  ·cases h2
end
section
variable{P:Program}{fuel:Nat}{f:bw}{No Ni:Nat}{t0:Tri AV}{pa:Array Tmp}{assign body:Code}
variable{RD WD:Nat->Prop}{M:Nat}{C0:Ctx}{l D:Nat}{Dl:List Nat}{fn:FuncId}{tm:Array Value}{q:Nat}
def Mx(RD WD:Nat->Prop)(M Ni:Nat)(C0:Ctx)(l:Nat)(Dl:List Nat)(mk:LoopState->Option Code->Loop)(τ0:Nat->AV)(tm:Array Value)(s:St)(ph:Option Code)(a:Act)(w:World):Prop:=
 ∃C,C.w=w/\RelH RD WD M C0 l Dl (mk (Wl ph) ph) s.η s.u C/\a.defers=[]/\a.tmps.size=Ni/\(∀t,VR C (yT l s.τ t) (a.eval (.tmp t)))/\∀t,VR C (τ0 t) (tm.getD t undef)
theorem RelH.rel{L:Loop}{η:bg}{u:Nat}{C:Ctx}{a:Act}{τ:Nat->AV}(h:RelH RD WD M C0 l Dl L η u C)(h1:a.defers=[])(h2:a.tmps.size=Ni)(h3:∀t,VR C (τ t) (a.eval (.tmp t))):SRelX [] RD M Ni C ⟨τ,η,u⟩ a:=
 ⟨h.good,h.η,h.free,h1,h2,h3⟩
theorem RelH.of{L:Loop}{η η':bg}{u u':Nat}{C C':Ctx}{a:Act}{τ:Nat->AV}(h:RelH RD WD M C0 l Dl L η u C)(hr:SRelX [] RD M Ni C' ⟨τ,η',u'⟩ a)(hf:FrX WD C C'):RelH RD WD M C0 l Dl L η' u' C':=
 ⟨hr.good,hr.η,hr.free,h.fr.trans hf,h.ml.ev hf.ev,fun d hd=>(h.md d hd).ev hf.ev⟩
theorem Cf{E:ESX}(v:AV):Fits (av E.h) (Rx.rc ⟨0,0,E.u,E.u,E.h,v⟩):=oc rfl
theorem Fe{C:Ctx}{a:Act}{τ:Nat->AV}:∀(xs:List Operand),(∀x∈xs,VR C (aev τ x) (a.eval x))->VRl C (xs.map (aev τ)) (xs.map a.eval)
 |[],_=>.nil
 |x::xs,h=>.cons (h x (by simp)) (Fe xs (fun y hy=>h y (by simp[hy])))
theorem wa(hf:f.Ok P)(hm:P.follows .mixedOrders=true)(ht:∀d∈Dl,d≠l)(hu:tm.size=No){ops:Array Oper}:∀(L:List Oper) (E:ESX) (ph:Option Code) (E':ESX) (ph':Option Code),(∀o∈L,fx Ni ops o=true)->ul E.h E.u->O8 fuel f No t0 pa.toList assign body ops L E ph=some (E',ph')->
 Mono E E'/\(Under RD WD M E.u E'->∀(a:Act) (w:World) (Q:Exit->Act->World->Prop),Mx RD WD M Ni C0 l Dl (mkL fn tm pa assign body D) (bc t0) tm E.st ph a w->
  (∀a' w',Mx RD WD M Ni C0 l Dl (mkL fn tm pa assign body D) (bc t0) tm E'.st ph' a' w'->Q .normal a' w')->wpListIn Fence.wide q P ops Q L a w)
 |[],E,ph,E',ph',_,_,h=>by
  simp only[O8,adw,Prod.mk.injEq]at h
  obtain⟨rfl,rfl⟩:=h
  exact⟨Mono.refl _,fun _ a w Q hr hK=>hK a w hr⟩
 |o::L,E,ph,E',ph',hd,hl,h=>by
  have h9:=hd o (by simp)
  have g3:∀o∈L,fx Ni ops o=true:=fun o ho=>hd o (by simp[ho])
  -- an operation that keeps the heap
  have keep:∀(v:AV) (x:Value) (E1:ESX),E.step o.dst ⟨0,0,E.u,E.u,E.h,v⟩=some E1->O8 fuel f No t0 pa.toList assign body ops L E1 ph=some (E',ph')->Mono E E'/\(Under RD WD M E.u E'->∀(a:Act) (w:World) (Q:Exit->Act->World->Prop) (x:Value),(∀C,VR C (Is l v) x)->
   Mx RD WD M Ni C0 l Dl (mkL fn tm pa assign body D) (bc t0) tm E.st ph a w->(∀a' w',Mx RD WD M Ni C0 l Dl (mkL fn tm pa assign body D) (bc t0) tm E'.st ph' a' w'->Q .normal a' w')->wpListIn Fence.wide q P ops Q L (a.put o.dst x) w):=by
   intro v x E1 hs hp
   have m1:=vi rfl (Cf v) hs
   obtain⟨m2,k2⟩:=wa hf hm ht hu L E1 ph E' ph' g3 (m1.low hl) hp
   refine⟨m1.trans m2,fun h6 a w Q x hx h4 hK=>?_⟩
   refine k2 (h6.up m1.u) _ w Q ?_ hK
   obtain⟨C,rfl,hR,h7,hN,hτ,h0⟩:=h4
   obtain⟨s1,_⟩:=fa hs
   have hr:=hR.rel h7 hN hτ
   have ha:=hr.put (Ev.refl C) hr.good (η':=av E.h) (u':=E.u) hr.η hr.free (fx.dst h9) (hx C)
   have e1:E1.st=⟨ke (bc E.t) o.dst v,av E.h,E.u⟩:=s1
   rw[e1]
   refine⟨C,rfl,hR.of ha (FrX.refl C),ha.defers,ha.size,fun t=>?_,h0⟩
   have:=ha.τ t
   show VR C (yT l (ke (bc E.t) o.dst v) t) _
   rw[Iq]
   exact this
  simp only[O8]at h
  split at h
  ·cases h
  ·rename_i hw
   split at h
   ·cases h
   ·rename_i E1 hs
    obtain⟨m,k⟩:=keep (.v undef) undef E1 hs h
    refine⟨m,fun h6 a w Q h4 hK=>?_⟩
    have h8:=h4
    obtain⟨C,rfl,hR,h7,hN,hτ,h0⟩:=h8
    unfold wpListIn
    rw[dl (s:=⟨yT l (bc E.t),av E.h,E.u⟩) (aak.trans hw) (hR.rel h7 hN hτ) (fx.guard h9)]
    simp only[Bool.false_eq_true,if_false]
    exact⟨fun _ _=>trivial,k h6 a C.w Q undef (fun C=>VR.v C _) h4 hK⟩
  ·rename_i hw
   cases hn:Tf (bc E.t) o with
   |true=>
    rw[hn]at h
    simp only[cond_true]at h
    split at h
    ·cases h
    ·rename_i E1 hs
     obtain⟨m,k⟩:=keep yAV undef E1 hs h
     refine⟨m,fun h6 a w Q h4 hK=>?_⟩
     have h8:=h4
     obtain⟨C,rfl,hR,h7,hN,hτ,h0⟩:=h8
     unfold wpListIn
     rw[dl (s:=⟨yT l (bc E.t),av E.h,E.u⟩) (aak.trans hw) (hR.rel h7 hN hτ) (fx.guard h9)]
     simp only[if_true]
     unfold Tf at hn
     split at hn
     ·rename_i t g4
      have hval:a.eval (.tmp t)=.func (.yield l) #[] #[]:=by
       have h1:=hτ t
       have h2:yT l (bc E.t) t=.v (.func (.yield l) #[] #[]):=Ir hn
       have h3:yT l E.st.τ t=.v (.func (.yield l) #[] #[]):=h2
       rw[h3]at h1
       exact h1.v_inv
      have hi:(execOp a.eval o).run P C.w=.ok (.value (.func (.yield l) #[] #[])) C.w:=by
       have g5:o=⟨o.dst,.move (.tmp t),o.type,o.pos,o.after,o.guard⟩:=by rw[<-g4]
       rw[g5,<-hval]
       rfl
      refine Wn FOk.wide (mq h9) ?_
      unfold Oper.wp
      rw[hi]
      exact k h6 a C.w Q _ (fun C=>VR.v C _) h4 hK
     ·cases hn
   |false=>
    rw[hn]at h
    simp only[cond_false]at h
    split at h
    ·-- a round
     rename_i xs hc
     split at h
     ·cases h
     ·split at h
      ·cases h
      ·rename_i e E2 h5
       split at h
       ·cases h
       ·rename_i ph1 hj
        split at h
        ·cases h
        ·rename_i E1 hs
         obtain⟨mr,kr⟩:=Ow (RD:=RD) (WD:=WD) (M:=M) (C0:=C0) (l:=l) (D:=D) (Dl:=Dl) (fn:=fn) (q:=q-1) hf hm ht hu hl h5 hj
         have g7:=mr.low hl
         have m1:=vi (E:=⟨E.t,E2.h,E2.u,E2.rd,E2.wr⟩) rfl (Cf (E:=⟨E.t,E2.h,E2.u,E2.rd,E2.wr⟩) (.v (.bool ph1.isNone))) hs
         have mr':Mono E ⟨E.t,E2.h,E2.u,E2.rd,E2.wr⟩:=⟨mr.rd,mr.wr,mr.u,mr.h,mr.low,mr.sub,mr.lrd⟩
         obtain⟨m2,k2⟩:=wa hf hm ht hu L E1 ph1 E' ph' g3 (m1.low g7) h
         refine⟨(mr'.trans m1).trans m2,fun h6 a w Q h4 hK=>?_⟩
         obtain⟨C,rfl,hR,h7,hN,hτ,h0⟩:=h4
         unfold wpListIn
         rw[dl (s:=⟨yT l (bc E.t),av E.h,E.u⟩) (aak.trans hw) (hR.rel h7 hN hτ) (fx.guard h9)]
         simp only[if_true]
         unfold Wr at hc
         split at hc
         ·rename_i t xs' ats g4
          cases hy:isY (bc E.t t)&&xs'.toList.all (fun x=>!isY (aev (bc E.t) x))with
          |false=>rw[hy]at hc;simp at hc
          |true=>
           rw[hy]at hc
           simp only[cond_true,adw]at hc
           subst hc
           obtain⟨g8,g9⟩:=Bool.and_eq_true_iff.1 hy
           have hval:a.eval (.tmp t)=.func (.yield l) #[] #[]:=by
            have h1:=hτ t
            have h3:yT l E.st.τ t=.v (.func (.yield l) #[] #[]):=Ir g8
            rw[h3]at h1
            exact h1.v_inv
           have h4:=hR.rel h7 hN hτ
           have hq:VRl C (xs'.toList.map (aev (bc E.t))) (xs'.map a.eval).toList:=by
            rw[Array.toList_map]
            refine Fe _ (fun x hx=>?_)
            have h1:VR C (aev (yT l (bc E.t)) x) (a.eval x):=h4.eval x
            have h2:=List.all_eq_true.1 g9 x hx
            rw[Mq (show isY (aev (bc E.t) x)=false by simpa using h2)]at h1
            exact h1
           have hb:=h6.back (m1.trans m2)
           obtain⟨ga,h5⟩:=kr ⟨hb.rd,hb.wd,hb.u,hb.new⟩ C (xs'.map a.eval) hR h0 hq
           have hi:(execOp a.eval o).run P C.w=.ok (.round l fn ((pa.zip (xs'.map a.eval)).foldl (fun tmps (t,a)=>tmps.setIfInBounds t a) tm) assign body) C.w:=by
            have g5:o=⟨o.dst,.call ⟨.value (.tmp t),xs',ats⟩,o.type,o.pos,o.after,o.guard⟩:=by rw[<-g4]
            have e0:execOp a.eval ⟨o.dst,.call ⟨.value (.tmp t),xs',ats⟩,o.type,o.pos,o.after,o.guard⟩=(do let dd<-Deferred.ofValue (a.eval (.tmp t)) (xs'.map a.eval);invoke dd.target dd.args):=rfl
            rw[g5,e0,hval]
            have e1:(do let dd<-Deferred.ofValue (.func (.yield l) #[] #[]) (xs'.map a.eval);invoke dd.target dd.args)=Instr.yield l (#[]++xs'.map a.eval++#[]):=rfl
            rw[e1]
            simpa using ga
           refine⟨fun _ _=>trivial,?_⟩
           rw[Oper.semAt_eq _ _ _ (mq h9),hi,Oper.uponIn_round]
           refine⟨fun e=>(by cases e),h5.mono ?_⟩
           rintro e' w' ⟨rfl,C',rfl,hz,hh⟩
           refine k2 (h6.up (aec mr.u m1.u)) _ C'.w Q ?_ hK
           obtain⟨s1,_⟩:=fa hs
           have e1:E1.st=⟨ke (bc E.t) o.dst (.v (.bool ph1.isNone)),av E2.h,E2.u⟩:=s1
           rw[e1]
           have g0:SRelX [] RD M Ni C' ⟨yT l (bc E.t),av E2.h,E2.u⟩ a:=⟨hz.good,hz.η,hz.free,h7,hN,fun t=>hh _ _ (hτ t)⟩
           have ha:=g0.put (Ev.refl C') g0.good (η':=av E2.h) (u':=E2.u) g0.η g0.free (fx.dst h9) (VR.v C' (.bool ph1.isNone))
           refine⟨C',rfl,hz.of ha (FrX.refl C'),ha.defers,ha.size,fun t=>?_,fun t=>hh _ _ (h0 t)⟩
           have:=ha.τ t
           show VR C' (yT l (ke (bc E.t) o.dst (.v (.bool ph1.isNone))) t) _
           rw[Iq,vd rfl]
           exact this
         ·cases hc
    ·-- a plain operation
     cases hk:o.op.operands.toList.all (fun x=>!isY (aev (bc E.t) x))with
     |false=>rw[hk]at h;simp at h
     |true=>
      rw[hk]at h
      simp only[cond_true]at h
      split at h
      ·cases h
      ·rename_i r hr
       cases g6:isY r.v with
       |true=>rw[g6]at h;simp at h
       |false=>
        rw[g6]at h
        simp only[cond_false]at h
        split at h
        ·cases h
        ·rename_i E1 hs
         obtain⟨r1,r2,r3⟩:=hf o E r hl hr
         have m1:=vi r1 r2 hs
         obtain⟨m2,k2⟩:=wa hf hm ht hu L E1 ph E' ph' g3 (m1.low hl) h
         refine⟨m1.trans m2,fun h6 a w Q h4 hK=>?_⟩
         have inn:=Pw r1 r2 hs m2 h6
         obtain⟨C,rfl,hR,h7,hN,hτ,h0⟩:=h4
         have h4:=hR.rel h7 hN hτ
         unfold wpListIn
         rw[dl (s:=⟨yT l (bc E.t),av E.h,E.u⟩) (aak.trans hw) h4 (fx.guard h9)]
         simp only[if_true]
         have L':ry P o (yT l (bc E.t)) (av E.h) r.rc:=r3.congr (fun x hx=>Mq (by
          have:=List.all_eq_true.1 hk x (by simpa using hx)
          simpa using this))
         refine Wn FOk.wide (mq h9) (L' C a hR.good (fun x _=>h4.eval x) (fun id gb=>hR.η id (inn.rd id gb)) (fun id h1 h2=>hR.free id (by have h3:r.u0<=id:=h1;show E.u<=id;omega) (Nat.lt_of_lt_of_le h2 inn.u)) _ _ fun x C' g1 g2 hg he hv=>?_)
         obtain⟨q1,q2⟩:=h4.step2 (o:=o) (fx.dst h9) r1 r2 inn g1 g2 hg he hv
         refine k2 (h6.up m1.u) _ C'.w Q ?_ hK
         obtain⟨s1,_⟩:=fa hs
         have e1:E1.st=⟨ke (bc E.t) o.dst r.v,av r.h,r.u⟩:=s1
         rw[e1]
         refine⟨C',rfl,hR.of q1 q2,q1.defers,q1.size,fun t=>?_,fun t=>(h0 t).mono hR.good he⟩
         have:=q1.τ t
         show VR C' (yT l (ke (bc E.t) o.dst r.v) t) _
         rw[Iq,vd g6]
         exact this
end
section
variable{P:Program}{fuel:Nat}{f:bw}{No Ni:Nat}{t0:Tri AV}{pa:Array Tmp}{assign body:Code}
variable{RD WD:Nat->Prop}{M:Nat}{C0:Ctx}{l D:Nat}{Dl:List Nat}{fn:FuncId}{tm:Array Value}{q:Nat}
def ads(P:Program)(No Ni:Nat)(t0:Tri AV)(pa:Array Tmp)(assign body:Code)(c:Code)(E:ESX)(ph:Option Code)(e:Exit)(E':ESX)(ph':Option Code):Prop:=
 Mono E E'/\∀(RD WD:Nat->Prop) (M:Nat) (C0:Ctx) (l D:Nat) (Dl:List Nat) (fn:FuncId) (tm:Array Value) (q:Nat),(∀d∈Dl,d≠l)->tm.size=No->Under RD WD M E.u E'->∀(a:Act) (w:World),
  Mx RD WD M Ni C0 l Dl (mkL fn tm pa assign body D) (bc t0) tm E.st ph a w->c.wpIn Fence.wide q P (fun e1 a' w'=>e1=e/\Mx RD WD M Ni C0 l Dl (mkL fn tm pa assign body D) (bc t0) tm E'.st ph' a' w') a w
def Hg(P:Program)(No Ni:Nat)(t0:Tri AV)(pa:Array Tmp)(assign body:Code)(m:Nat)(c:Code)(E:ESX)(ph:Option Code)(e:Exit)(E':ESX)(ph':Option Code):Prop:=
 Mono E E'/\∀(RD WD:Nat->Prop) (M:Nat) (C0:Ctx) (l D:Nat) (Dl:List Nat) (fn:FuncId) (tm:Array Value) (q:Nat),(∀d∈Dl,d≠l)->tm.size=No->Under RD WD M E.u E'->∀(a:Act) (w:World),
  Mx RD WD M Ni C0 l Dl (mkL fn tm pa assign body D) (bc t0) tm E.st ph a w->Code.roundsIn Fence.wide q P c (fun e1 a' w'=>e1=e/\Mx RD WD M Ni C0 l Dl (mkL fn tm pa assign body D) (bc t0) tm E'.st ph' a' w') m a w
theorem Qf(hf:f.Ok P)(hm:P.follows .mixedOrders=true):∀(n:Nat),(∀(c:Code) (E:ESX) (ph:Option Code) (e:Exit) (E':ESX) (ph':Option Code),ul E.h E.u->kv fuel f No t0 pa.toList assign body Ni n c E ph=some (e,E',ph')->ads P No Ni t0 pa assign body c E ph e E' ph')/\
 (∀(c:Code) (E:ESX) (ph:Option Code) (e:Exit) (E':ESX) (ph':Option Code),ul E.h E.u->kv fuel f No t0 pa.toList assign body Ni n (.loop c) E ph=some (e,E',ph')->Hg P No Ni t0 pa assign body n c E ph e E' ph'):=by
 intro n
 induction n with
 |zero=>exact⟨fun c E ph e E' ph' _ h=>by simp[kv]at h,fun c E ph e E' ph' _ h=>by simp[kv]at h⟩
 |succ n ih=>
  obtain⟨ihA,ihB⟩:=ih
  have hB:∀(c:Code) (E:ESX) (ph:Option Code) (e:Exit) (E':ESX) (ph':Option Code),ul E.h E.u->kv fuel f No t0 pa.toList assign body Ni (n+1) (.loop c) E ph=some (e,E',ph')->Hg P No Ni t0 pa assign body (n+1) c E ph e E' ph':=by
   intro c E ph e E' ph' hl h
   simp only[kv]at h
   split at h
   ·rename_i E1 p1 h1
    obtain⟨m1,k1⟩:=ihA c E ph _ E1 p1 hl h1
    obtain⟨m2,k2⟩:=ihB c E1 p1 e E' ph' (m1.low hl) h
    refine⟨m1.trans m2,fun RD WD M C0 l D Dl fn tm q h4 h5 h6 a w hr=>?_⟩
    rw[roundsIn_succ]
    refine Code.wpIn_mono ?_ (k1 RD WD M C0 l D Dl fn tm q h4 h5 (h6.back m2) a w hr)
    rintro e1 a' w' ⟨rfl,h7⟩
    exact k2 RD WD M C0 l D Dl fn tm q h4 h5 (h6.up m1.u) a' w' h7
   ·rename_i h8
    obtain⟨m1,k1⟩:=ihA c E ph e E' ph' hl h
    refine⟨m1,fun RD WD M C0 l D Dl fn tm q h4 h5 h6 a w hr=>?_⟩
    rw[roundsIn_succ]
    refine Code.wpIn_mono ?_ (k1 RD WD M C0 l D Dl fn tm q h4 h5 h6 a w hr)
    rintro e1 a' w' ⟨rfl,h7⟩
    cases e1 with
    |normal=>exact absurd h (h8 _ _)
    |_=>exact⟨rfl,h7⟩
  refine⟨fun c E ph e E' ph' hl h=>?_,hB⟩
  cases c with
  |skip=>
   simp only[kv,adw,Prod.mk.injEq]at h
   obtain⟨rfl,rfl,rfl⟩:=h
   exact⟨Mono.refl _,fun RD WD M C0 l D Dl fn tm q h4 h5 h6 a w hr=>wpIn_skip ⟨rfl,hr⟩⟩
  |ret=>
   simp only[kv,adw,Prod.mk.injEq]at h
   obtain⟨rfl,rfl,rfl⟩:=h
   exact⟨Mono.refl _,fun RD WD M C0 l D Dl fn tm q h4 h5 h6 a w hr=>wpIn_ret ⟨rfl,hr⟩⟩
  |exit id=>
   simp only[kv,adw,Prod.mk.injEq]at h
   obtain⟨rfl,rfl,rfl⟩:=h
   exact⟨Mono.refl _,fun RD WD M C0 l D Dl fn tm q h4 h5 h6 a w hr=>wpIn_exit ⟨rfl,hr⟩⟩
  |seq x y=>
   simp only[kv]at h
   split at h
   ·rename_i E1 p1 h1
    obtain⟨m1,k1⟩:=ihA x E ph _ E1 p1 hl h1
    obtain⟨m2,k2⟩:=ihA y E1 p1 e E' ph' (m1.low hl) h
    refine⟨m1.trans m2,fun RD WD M C0 l D Dl fn tm q h4 h5 h6 a w hr=>wpIn_seq ?_⟩
    refine Code.wpIn_mono ?_ (k1 RD WD M C0 l D Dl fn tm q h4 h5 (h6.back m2) a w hr)
    rintro e1 a' w' ⟨rfl,h7⟩
    exact k2 RD WD M C0 l D Dl fn tm q h4 h5 (h6.up m1.u) a' w' h7
   ·rename_i h8
    obtain⟨m1,k1⟩:=ihA x E ph e E' ph' hl h
    refine⟨m1,fun RD WD M C0 l D Dl fn tm q h4 h5 h6 a w hr=>wpIn_seq ?_⟩
    refine Code.wpIn_mono ?_ (k1 RD WD M C0 l D Dl fn tm q h4 h5 h6 a w hr)
    rintro e1 a' w' ⟨rfl,h7⟩
    cases e1 with
    |normal=>exact absurd h (h8 _ _)
    |_=>exact⟨rfl,h7⟩
  |cond c x y=>
   simp only[kv]at h
   have hc:∀(b:Bool),aev (bc E.t) c=.v (.bool b)->∀{RD WD:Nat->Prop} {M:Nat} {C0:Ctx} {l D:Nat} {Dl:List Nat} {fn:FuncId} {tm:Array Value} {a:Act} {w:World},Mx RD WD M Ni C0 l Dl (mkL fn tm pa assign body D) (bc t0) tm E.st ph a w->a.eval c=.bool b:=by
    intro b hb RD WD M C0 l D Dl fn tm a w hr
    obtain⟨C,rfl,hR,hh,hN,hτ,h0⟩:=hr
    have h1:=(hR.rel hh hN hτ).eval c
    have h2:aev (yT l E.st.τ) c=.v (.bool b):=Qu hb
    have h3:VR C (aev (yT l E.st.τ) c) (a.eval c):=h1
    rw[h2]at h3
    exact h3.v_inv
   split at h
   ·rename_i hb
    obtain⟨m1,k1⟩:=ihA x E ph e E' ph' hl h
    exact⟨m1,fun RD WD M C0 l D Dl fn tm q h4 h5 h6 a w hr=>wpIn_cond_split (hc true hb hr) (fun _=>k1 RD WD M C0 l D Dl fn tm q h4 h5 h6 a w hr) (fun e=>by cases e)⟩
   ·rename_i hb
    obtain⟨m1,k1⟩:=ihA y E ph e E' ph' hl h
    exact⟨m1,fun RD WD M C0 l D Dl fn tm q h4 h5 h6 a w hr=>wpIn_cond_split (hc false hb hr) (fun e=>by cases e) (fun _=>k1 RD WD M C0 l D Dl fn tm q h4 h5 h6 a w hr)⟩
   ·cases h
  |block id c=>
   simp only[kv]at h
   split at h
   ·rename_i i E1 p1 h1
    obtain⟨m1,k1⟩:=ihA c E ph _ E1 p1 hl h1
    have h9:E'=E1/\ph'=p1/\((i=id/\e=.normal)\/(i≠id/\e=.exit i)):=by
     cases hb:Nat.beq i id with
     |true=>
      rw[hb]at h
      simp only[cond_true,adw,Prod.mk.injEq]at h
      obtain⟨rfl,rfl,rfl⟩:=h
      exact⟨rfl,rfl,.inl ⟨adv hb,rfl⟩⟩
     |false=>
      rw[hb]at h
      simp only[cond_false,adw,Prod.mk.injEq]at h
      obtain⟨rfl,rfl,rfl⟩:=h
      exact⟨rfl,rfl,.inr ⟨fun e=>(by subst e;rw[Nat.beq_refl]at hb;cases hb),rfl⟩⟩
    obtain⟨rfl,rfl,he⟩:=h9
    refine⟨m1,fun RD WD M C0 l D Dl fn tm q h4 h5 h6 a w hr=>wpIn_block ?_⟩
    refine Code.wpIn_mono ?_ (k1 RD WD M C0 l D Dl fn tm q h4 h5 h6 a w hr)
    rintro e1 a' w' ⟨rfl,h7⟩
    simp only[Exit.inBlock]
    rcases he with⟨h1,h2⟩|⟨h1,h2⟩
    ·rw[ad3 h1];exact⟨h2.symm,h7⟩
    ·rw[ad1 h1];exact⟨h2.symm,h7⟩
   ·rename_i h8
    obtain⟨m1,k1⟩:=ihA c E ph e E' ph' hl h
    refine⟨m1,fun RD WD M C0 l D Dl fn tm q h4 h5 h6 a w hr=>wpIn_block ?_⟩
    refine Code.wpIn_mono ?_ (k1 RD WD M C0 l D Dl fn tm q h4 h5 h6 a w hr)
    rintro e1 a' w' ⟨rfl,h7⟩
    cases e1 with
    |exit i=>exact absurd h (h8 _ _ _)
    |_=>exact⟨rfl,h7⟩
  |loop c=>
   obtain⟨m1,k1⟩:=hB c E ph e E' ph' hl h
   exact⟨m1,fun RD WD M C0 l D Dl fn tm q h4 h5 h6 a w hr=>wpIn_loop_rounds _ (k1 RD WD M C0 l D Dl fn tm q h4 h5 h6 a w hr)⟩
  |region id ops d=>
   cases d with
   |true=>simp[kv]at h
   |false=>
    simp only[kv]at h
    cases hd:yl Ni ops with
    |false=>rw[hd]at h;simp at h
    |true=>
     rw[hd]at h
     simp only[cond_true]at h
     split at h
     ·cases h
     ·rename_i E1 p1 h1
      simp only[adw,Prod.mk.injEq]at h
      obtain⟨rfl,rfl,rfl⟩:=h
      have hg:∀o∈ops.toList,fx Ni ops o=true:=List.all_eq_true.1 hd
      have mono:Mono E E1:=by
       obtain⟨m,_⟩:=wa (RD:=fun _=>True) (WD:=fun _=>True) (M:=0) (C0:=⟨fun _=>(0,0),fun _=>0,lx,fun _=>False,fun _=>False,default⟩) (l:=0) (D:=1) (Dl:=[]) (fn:=0) (q:=0) (tm:=Array.replicate No undef) hf hm (by simp) (by simp) _ _ _ _ _ hg hl h1
       exact m
      refine⟨mono,fun RD WD M C0 l D Dl fn tm q h4 h5 h6 a w hr=>?_⟩
      obtain⟨_,k⟩:=wa (RD:=RD) (WD:=WD) (M:=M) (C0:=C0) (l:=l) (D:=D) (Dl:=Dl) (fn:=fn) (q:=q) (tm:=tm) hf hm h4 h5 _ _ _ _ _ hg hl h1
      have eo:ops=ops.toList.toArray:=by simp
      have ha:=k h6 a w (fun e1 a' w'=>e1=.normal/\Mx RD WD M Ni C0 l Dl (mkL fn tm pa assign body D) (bc t0) tm E1.st p1 a' w') hr (fun a' w' h=>⟨rfl,h⟩)
      exact wpIn_region_list ha
  |_=>simp[kv]at h
end
def Ck:Option Code->Option Exit
 |none=>some .normal
 |some .ret=>some .ret
 |some (.exit id)=>some (.exit id)
 |_=>none
def O7:Exit->Bool
 |.normal=>true
 |.ret=>true
 |_=>false
theorem Jy{e:Exit}(h:O7 e=true):e=.normal\/e=.ret:=by
 unfold O7 at h
 split at h
 ·exact .inl rfl
 ·exact .inr rfl
 ·cases h
noncomputable def aa9(P:Program)(fuel:Nat)(f:bw)(No:Nat)(g:Operand)(pa:Array Tmp)(assign body:Code)(E:ESX):Option (Exit×ESX):=
 match aev (bc E.t) g with
 |.clo gf caps=>match P.funcs[gf]? with
  |none=>none
  |some fi=>match fi.body with
   |none=>none
   |some c=>bif b7 P gf&&fi.results.isEmpty&&caps.all (fun x=>!isY x)&&Nat.ble (caps.length+1) fi.ntmps then(match ka 0 (yAV::caps) .nil with
    |none=>none
    |some t=>match kv fuel f No E.t pa.toList assign body fi.ntmps fuel c ⟨t,E.h,E.u,E.rd,E.wr⟩ none with
     |none=>none
     |some (ei,E',ph)=>bif O7 ei then(match Ck ph with
      |none=>none
      |some e=>some (e,⟨E.t,E'.h,E'.u,E'.rd,E'.wr⟩))else none)else none
 |_=>none
def Kj(D:Nat):Deferred:={target:=.collected D,args:=#[]}
def Wq(RD WD:Nat->Prop)(M N:Nat)(C0:Ctx)(s:St)(Ds:List Nat)(a:Act)(w:World):Prop:=
 ∃C,C.w=w/\SRelX (Ds.map Kj) RD M N C s a/\FrX WD C0 C/\Ds.Nodup/\∀D∈Ds,Mark C0.w.heap.size C D (.deferred (some []))
def Qx(P:Program)(N:Nat)(c:Code)(E:ESX)(e:Exit)(E':ESX):Prop:=
 Mono E E'/\∀(RD WD:Nat->Prop) (M:Nat) (C0:Ctx) (q:Nat),Under RD WD M E.u E'->∀(Ds:List Nat) (a:Act) (w:World),Wq RD WD M N C0 E.st Ds a w->
  c.wpIn Fence.wide q P (fun e1 a' w'=>e1=e/\∃Ds',Wq RD WD M N C0 E'.st Ds' a' w') a w
theorem Qx.of{P:Program}{N:Nat}{c:Code}{E:ESX}{e:Exit}{E':ESX}(h:At P N c E e E'):Qx P N c E e E':=by
 obtain⟨m,k⟩:=h
 refine⟨m,fun RD WD M C0 q h1 Ds a w hr=>?_⟩
 obtain⟨C,rfl,hs,hf,h2,hm⟩:=hr
 refine Code.wpIn_mono ?_ (k RD WD M (fun e1 s1=>e1=e/\s1=E'.st) h1 ⟨rfl,rfl⟩ Fence.wide FOk.wide q _ C a hs)
 rintro e1 a' w' ⟨s',C',⟨rfl,rfl⟩,rfl,h3,h0⟩
 exact⟨rfl,Ds,C',rfl,h3,hf.trans h0,h2,fun D hD=>(hm D hD).ev h0.ev⟩
theorem zd{P:Program}{fn:Func}(h:fn.results.isEmpty=true)(tm:Array Value)(w:World):∃v,(results fn tm).run P w=.ok v w:=by
 have h0:fn.results=#[]:=by simpa using h
 exact⟨.tuple #[],by unfold results;rw[h0];simp⟩
theorem Tz{P:Program}{fuel:Nat}{f:bw}(hf:f.Ok P)(hm:P.follows .mixedOrders=true){No:Nat}{g:Operand}{pa:Array Tmp}{assign body:Code}{E E2:ESX}{e:Exit}(hl:ul E.h E.u)
 (h:aa9 P fuel f No g pa assign body E=some (e,E2)):Qx P No (.rangeFunc g pa assign body) E e E2:=by
 unfold aa9 at h
 split at h
 ·rename_i gf caps hg
  split at h
  ·cases h
  ·rename_i fi g0
   split at h
   ·cases h
   ·rename_i c hc
    cases hb:(b7 P gf&&fi.results.isEmpty&&caps.all (fun x=>!isY x)&&Nat.ble (caps.length+1) fi.ntmps)with
    |false=>rw[hb]at h;simp at h
    |true=>
     rw[hb]at h
     simp only[cond_true]at h
     simp only[aes]at hb
     obtain⟨⟨⟨g2,g3⟩,g4⟩,g5⟩:=hb
     split at h
     ·cases h
     ·rename_i t ht
      split at h
      ·cases h
      ·rename_i ei E' ph hh
       cases ho:O7 ei with
       |false=>rw[ho]at h;simp at h
       |true=>
        rw[ho]at h
        simp only[cond_true]at h
        split at h
        ·cases h
        ·rename_i e' h5
         simp only[adw,Prod.mk.injEq]at h
         obtain⟨rfl,rfl⟩:=h
         obtain⟨m0,k⟩:=(Qf (No:=No) (t0:=E.t) (pa:=pa) (assign:=assign) (body:=body) (Ni:=fi.ntmps) hf hm fuel).1 c ⟨t,E.h,E.u,E.rd,E.wr⟩ none ei E' ph hl hh
         refine⟨⟨m0.rd,m0.wr,m0.u,m0.h,m0.low,m0.sub,m0.lrd⟩,fun RD WD M C0 q ha Ds a w hr=>?_⟩
         obtain⟨C,rfl,hs,hw,g6,hi⟩:=hr
         have g7:=hs.eval g
         have hj:VR C (.clo gf caps) (a.eval g):=by rw[<-hg];exact g7
         obtain⟨lb,hv,hll,g8⟩:=hj.clo_inv
         refine wpIn_rangeFunc fun fn _=>?_
         obtain⟨W1,hx⟩:∃W1,(C.w.alloc (.deferred (some []))).alloc (.loop (mkL fn a.tmps pa assign body C.w.heap.size .ready none))=W1:=⟨_,rfl⟩
         -- the world with the two new blocks
         have bk1:=Book.alloc C0.w.heap.size C (.deferred (some []))
         have g1:=bk1.good hs.good
         have bk2:=Book.alloc C0.w.heap.size (C.on (C.w.alloc (.deferred (some [])))) (.loop (mkL fn a.tmps pa assign body C.w.heap.size .ready none))
         have hn:C0.w.heap.size<=C.w.heap.size:=hw.ev.size
         have md1:=(Mark.new hs.good hn (.deferred (some []))).alloc (.loop (mkL fn a.tmps pa assign body C.w.heap.size .ready none))
         have h7:(C.on (C.w.alloc (.deferred (some [])))).w.heap.size=C.w.heap.size+1:=World.size_alloc _ _
         have ml1:=Mark.new (B:=C0.w.heap.size) g1 (by rw[h7];omega) (.loop (mkL fn a.tmps pa assign body C.w.heap.size .ready none))
         rw[h7]at ml1
         have he:=(hs.on bk1).on bk2
         have hp:=(hw.on bk1).on bk2
         have hq:∀D∈Ds,Mark C0.w.heap.size ((C.on (C.w.alloc (.deferred (some [])))).on ((C.on (C.w.alloc (.deferred (some [])))).w.alloc (.loop (mkL fn a.tmps pa assign body C.w.heap.size .ready none)))) D (.deferred (some [])):=fun D hD=>((hi D hD).alloc _).alloc _
         refine⟨C.w.heap.size+1,[Kj C.w.heap.size],W1,{target:=.fn (.func gf) lb,args:=#[.func (.yield (C.w.heap.size+1)) #[] #[]]},W1,gf,#[Value.func (.yield (C.w.heap.size+1)) #[] #[]]++lb,W1,?_,?_,?_,?_,(fun e=>by cases e),?_⟩
         ·rw[<-hx];exact run_enterLoop_outer _ _ _ _ _
         ·simp only[resolve,hv]
          simp[go_sem]
         ·intro f' _;trivial
         ·simp[invoke,go_sem,ej g2]
         ·have hy:∀d∈C.w.heap.size::Ds,d≠C.w.heap.size+1:=by
           intro d hd
           rcases aek.1 hd with rfl|hd
           ·omega
           ·have:=(hi d hd).lt
            omega
          have h8:Mx RD WD M fi.ntmps C0 (C.w.heap.size+1) (C.w.heap.size::Ds) (mkL fn a.tmps pa assign body C.w.heap.size) (bc E.t) a.tmps (⟨t,E.h,E.u,E.rd,E.wr⟩:ESX).st none
           {tmps:=(#[Value.func (.yield (C.w.heap.size+1)) #[] #[]]++lb)++Array.replicate (fi.ntmps-(#[Value.func (.yield (C.w.heap.size+1)) #[] #[]]++lb).size) undef,defers:=[]} W1:=by
           refine⟨_,hx,⟨he.good,he.η,he.free,hp,ml1,fun d hd=>?_⟩,rfl,?_,fun k'=>?_,fun k'=>he.τ k'⟩
           ·rcases aek.1 hd with rfl|hd
            ·exact md1
            ·exact hq d hd
           ·have:=aeb g5
            simp
            omega
           ·have hu:(⟨t,E.h,E.u,E.rd,E.wr⟩:ESX).st.τ=b8 (yAV::caps):=ki ht
            rw[hu]
            simp only[Act.eval]
            rw[Array.getD_eq_getD_getElem?]
            cases k' with
            |zero=>
             have h1:yT (C.w.heap.size+1) (b8 (yAV::caps)) 0=.v (.func (.yield (C.w.heap.size+1)) #[] #[]):=rfl
             rw[h1]
             have h2:(((#[Value.func (.yield (C.w.heap.size+1)) #[] #[]]++lb)++Array.replicate (fi.ntmps-(#[Value.func (.yield (C.w.heap.size+1)) #[] #[]]++lb).size) undef)[0]?).getD undef=.func (.yield (C.w.heap.size+1)) #[] #[]:=by
              rw[Array.getElem?_append_left (by simp;omega),Array.getElem?_append_left (by simp)]
              rfl
             rw[h2]
             exact VR.v _ _
            |succ k'=>
             by_cases hk:k'<caps.length
             ·have h1:yT (C.w.heap.size+1) (b8 (yAV::caps)) (k'+1)=caps[k']:=by
               have h3:b8 (yAV::caps) (k'+1)=caps[k']:=by simp[b8,hk]
               show Is _ (b8 (yAV::caps) (k'+1))=_
               rw[h3]
               refine vd ?_
               have:=List.all_eq_true.1 g4 caps[k'] (adt _)
               simpa using this
              have h2:(((#[Value.func (.yield (C.w.heap.size+1)) #[] #[]]++lb)++Array.replicate (fi.ntmps-(#[Value.func (.yield (C.w.heap.size+1)) #[] #[]]++lb).size) undef)[k'+1]?).getD undef=lb[k']'(by omega):=by
               rw[Array.getElem?_append_left (by simp;omega),Array.getElem?_append_right (by simp)]
               simp[show k'<lb.size by omega]
              rw[h1,h2]
              exact((g8 k' hk (by omega)).on (bk1.T hs.good)).on (bk2.T g1)
             ·have h1:yT (C.w.heap.size+1) (b8 (yAV::caps)) (k'+1)=.v undef:=by
               have h3:b8 (yAV::caps) (k'+1)=.v undef:=by simp[b8,List.getElem?_eq_none (Nat.le_of_not_lt hk)]
               show Is _ (b8 (yAV::caps) (k'+1))=_
               rw[h3]
               rfl
              have h2:(((#[Value.func (.yield (C.w.heap.size+1)) #[] #[]]++lb)++Array.replicate (fi.ntmps-(#[Value.func (.yield (C.w.heap.size+1)) #[] #[]]++lb).size) undef)[k'+1]?).getD undef=undef:=by
               rw[Array.getElem?_append_right (by simp;omega),Array.getElem?_replicate]
               split<;>rfl
              rw[h1,h2]
              exact VR.v _ _
          refine callsIn_of_wp g0 hc trivial (Code.wpIn_mono ?_ (k RD WD M C0 (C.w.heap.size+1) C.w.heap.size (C.w.heap.size::Ds) fn a.tmps (q-1) hy hs.size ⟨ha.rd,ha.wd,ha.u,ha.new⟩ _ W1 h8)) rfl
          rintro e1 a' w' ⟨rfl,C2,rfl,h0,h9,hN2,hτ2,g9⟩
          obtain⟨v,hz⟩:=zd (P:=P) g3 a'.tmps C2.w
          have h4:rangePost Fence.wide q P (C.w.heap.size+1) (fun e1 a' w'=>e1=e'/\∃Ds',Wq RD WD M No C0 (⟨E.t,E'.h,E'.u,E'.rd,E'.wr⟩:ESX).st Ds' a' w') {a with defers:=[Kj C.w.heap.size]++a.defers} (.returned v) C2.w:=by
           refine⟨_,_,run_endLoop h0.ml.here (by cases ph<;>simp[mkL,Wl]),?_⟩
           have bk:=h0.ml.book (.loop {mkL fn a.tmps pa assign body C.w.heap.size (Wl ph) ph with state:=.exhausted})
           have h6:Wq RD WD M No C0 (⟨E.t,E'.h,E'.u,E'.rd,E'.wr⟩:ESX).st (C.w.heap.size::Ds) {a with defers:=[Kj C.w.heap.size]++a.defers} (C2.w.putObj (C.w.heap.size+1) (.loop {mkL fn a.tmps pa assign body C.w.heap.size (Wl ph) ph with state:=.exhausted})):=by
            refine⟨C2.on _,rfl,⟨bk.good h0.good,h0.η,h0.free,by simp[hs.defers],hs.size,fun k'=>(g9 k').on (bk.T h0.good)⟩,h0.fr.on bk,List.nodup_cons.2 ⟨fun hd=>?_,g6⟩,fun d hd=>(h0.md d hd).other (hy d hd) _⟩
            have:=(hi _ hd).lt
            omega
           cases ph with
           |none=>
            simp only[Ck,adw]at h5
            exact⟨h5,_,h6⟩
           |some c=>
            cases c with
            |ret=>
             simp only[Ck,adw]at h5
             exact wpIn_ret ⟨h5,_,h6⟩
            |exit id=>
             simp only[Ck,adw]at h5
             exact wpIn_exit ⟨h5,_,h6⟩
            |_=>simp[Ck]at h5
          rcases Jy ho with rfl|rfl
          ·exact⟨h9,v,hz,h4⟩
          ·exact⟨h9,v,hz,h4⟩
 ·cases h
noncomputable def Cq(P:Program)(N fuel:Nat)(f:bw):Code->ESX->Option (Exit×ESX)
 |.seq x y=>fun E=>match Cq P N fuel f x E with
  |some (.normal,E1)=>Cq P N fuel f y E1
  |r=>r
 |.block id c=>fun E=>match Cq P N fuel f c E with
  |some (.exit i,E1)=>bif Nat.beq i id then some (.normal,E1)else some (.exit i,E1)
  |r=>r
 |.rangeFunc g pa a b=>fun E=>aa9 P fuel f N g pa a b E
 |c=>fun E=>ip N fuel f c E
theorem u4{P:Program}{N fuel:Nat}{f:bw}(hf:f.Ok P)(hm:P.follows .mixedOrders=true):∀(c:Code) (E:ESX) (e:Exit) (E':ESX),ul E.h E.u->Cq P N fuel f c E=some (e,E')->Qx P N c E e E':=by
 intro c
 induction c with
 |seq x y ihx ihy=>
  intro E e E' hl h
  simp only[Cq]at h
  split at h
  ·rename_i E1 h1
   obtain⟨m1,k1⟩:=ihx E _ E1 hl h1
   obtain⟨m2,k2⟩:=ihy E1 e E' (m1.low hl) h
   refine⟨m1.trans m2,fun RD WD M C0 q h0 Ds a w hr=>wpIn_seq ?_⟩
   refine Code.wpIn_mono ?_ (k1 RD WD M C0 q (h0.back m2) Ds a w hr)
   rintro e1 a' w' ⟨rfl,Ds',h3⟩
   exact k2 RD WD M C0 q (h0.up m1.u) Ds' a' w' h3
  ·rename_i h4
   obtain⟨m1,k1⟩:=ihx E e E' hl h
   refine⟨m1,fun RD WD M C0 q h0 Ds a w hr=>wpIn_seq ?_⟩
   refine Code.wpIn_mono ?_ (k1 RD WD M C0 q h0 Ds a w hr)
   rintro e1 a' w' ⟨rfl,h3⟩
   cases e1 with
   |normal=>exact absurd h (h4 _)
   |_=>exact⟨rfl,h3⟩
 |block id c ih=>
  intro E e E' hl h
  simp only[Cq]at h
  split at h
  ·rename_i i E1 h1
   obtain⟨m1,k1⟩:=ih E _ E1 hl h1
   have h5:E'=E1/\((i=id/\e=.normal)\/(i≠id/\e=.exit i)):=by
    cases hb:Nat.beq i id with
    |true=>
     rw[hb]at h
     simp only[cond_true,adw,Prod.mk.injEq]at h
     obtain⟨rfl,rfl⟩:=h
     exact⟨rfl,.inl ⟨adv hb,rfl⟩⟩
    |false=>
     rw[hb]at h
     simp only[cond_false,adw,Prod.mk.injEq]at h
     obtain⟨rfl,rfl⟩:=h
     exact⟨rfl,.inr ⟨fun e=>(by subst e;rw[Nat.beq_refl]at hb;cases hb),rfl⟩⟩
   obtain⟨rfl,he⟩:=h5
   refine⟨m1,fun RD WD M C0 q h0 Ds a w hr=>wpIn_block ?_⟩
   refine Code.wpIn_mono ?_ (k1 RD WD M C0 q h0 Ds a w hr)
   rintro e1 a' w' ⟨rfl,h3⟩
   simp only[Exit.inBlock]
   rcases he with⟨h1,h2⟩|⟨h1,h2⟩
   ·rw[ad3 h1];exact⟨h2.symm,h3⟩
   ·rw[ad1 h1];exact⟨h2.symm,h3⟩
  ·rename_i h4
   obtain⟨m1,k1⟩:=ih E e E' hl h
   refine⟨m1,fun RD WD M C0 q h0 Ds a w hr=>wpIn_block ?_⟩
   refine Code.wpIn_mono ?_ (k1 RD WD M C0 q h0 Ds a w hr)
   rintro e1 a' w' ⟨rfl,h3⟩
   cases e1 with
   |exit i=>exact absurd h (h4 _ _)
   |_=>exact⟨rfl,h3⟩
 |rangeFunc g pa a b _ _=>
  intro E e E' hl h
  exact Tz hf hm hl h
 |_=>intro E e E' hl h;exact .of (jy (fuel:=fuel) hf hm _ _ _ _ hl h)
theorem tt{P:Program}{fn:Func}{tm:Array Value}{R:Ending->World->Prop}{B q:Nat}:∀(Ds:List Nat) (C:Ctx),Good C->Ds.Nodup->(∀D∈Ds,Mark B C D (.deferred (some [])))->
 (∀w',Book B C w'->∃v,(results fn tm).run P w'=.ok v w'/\R (.returned v) w')->LeavesInM Fence.wide q P fn tm R (Ds.map Kj) .returning C.w
 |[],C,hg,_,_,hK=>by
  show LeavesIn Fence.wide q P fn tm R [] .returning C.w
  exact hK C.w ⟨rfl,rfl,rfl,ad9 _,fun _ _ _=>rfl⟩
 |D::Ds,C,hg,h0,h1,hK=>by
  have hD:=h1 D (by simp)
  have bk:=hD.book (.deferred none)
  refine⟨by simp,.inl ⟨D,_,rfl,run_takeDeferred hD.here,?_⟩⟩
  refine tt Ds (C.on (C.w.putObj D (.deferred none))) (bk.good hg) (List.nodup_cons.1 h0).2 (fun d hd=>(h1 d (by simp[hd])).other (fun e=>(List.nodup_cons.1 h0).1 (by rw[<-e];exact hd)) _) (fun w' hb=>hK w' ?_)
  exact⟨hb.os.trans bk.os,hb.tape.trans bk.tape,hb.output.trans bk.output,aec bk.size hb.size,fun k hk hc=>(hb.heap k (Nat.lt_of_lt_of_le hk bk.size) hc).trans (bk.heap k hk hc)⟩
theorem xr{P:Program}{f:FuncId}{fn:Func}{c:Code}{N:Nat}{args:List AV}{η:bg}{r:Rc}{τ0:Nat->AV}{e0:Exit}{s1:St}(hf:P.funcs[f]? =some fn)(hb:fn.body=some c)(hN:fn.ntmps=N)(hl:args.length<=N)(hτ0:τ0=b8 args)(h7:Fits η r)(hηn:∀id,r.u0<=id->η id=none)
 (h:∀C0 q Ds a w,Wq (fun id=>r.F.testBit id=true\/(r.u0<=id/\id<r.u)) (fun id=>r.D id=true) r.u N C0 ⟨τ0,η,r.u0⟩ Ds a w->c.wpIn Fence.wide q P (fun e1 a' w'=>e1=e0/\∃Ds',Wq (fun id=>r.F.testBit id=true\/(r.u0<=id/\id<r.u)) (fun id=>r.D id=true) r.u N C0 s1 Ds' a' w') a w)
 (he:e0=.normal\/e0=.ret)(hη':∀id,r.D id=true->s1.η id=r.η id)(ho:Mz P (fun id=>r.F.testBit id=true\/(r.u0<=id/\id<r.u)) r.u N fn s1 r.v):Aq P f args η r:=by
 intro C vals hg ⟨hlen,hv⟩ hF ha
 subst hτ0
 have h5:∀id,r.u0<=id->id<r.u->C.η id=none:=fun id h1 h2=>by
  cases hb':C.η id with
  |none=>rfl
  |some b=>exact absurd (hg.used hb') (ha id h1 h2)
 have hr:SRelX [] (fun id=>r.F.testBit id=true\/(r.u0<=id/\id<r.u)) r.u N C ⟨b8 args,η,r.u0⟩ {tmps:=vals++Array.replicate (fn.ntmps-vals.size) undef,defers:=[]}:=by
  refine⟨hg,fun id hh=>hh.elim (hF id) (fun h=>(h5 id h.1 h.2).trans (hηn id h.1).symm),ha,rfl,by simp;omega,fun t=>?_⟩
  simp only[Act.eval,b8]
  by_cases ht:t<args.length
  ·have h1:args.getD t (.v undef)=args[t]:=by simp[List.getD,ht]
   have h2:(vals++Array.replicate (fn.ntmps-vals.size) undef).getD t undef=vals[t]'(by omega):=by
    rw[Array.getD_eq_getD_getElem?,Array.getElem?_append_left (by omega)]
    simp[show t<vals.size by omega]
   rw[h1,h2]
   exact hv t ht (by omega)
  ·have h1:args.getD t (.v undef)=.v undef:=by simp[List.getD,List.getElem?_eq_none (Nat.le_of_not_lt ht)]
   have h2:(vals++Array.replicate (fn.ntmps-vals.size) undef).getD t undef=undef:=by
    rw[Array.getD_eq_getD_getElem?,Array.getElem?_append_right (by omega)]
    rw[Array.getElem?_replicate]
    split<;>rfl
   rw[h1,h2]
   exact VR.v _ _
 refine callsIn_wide (n:=0).1 (callsIn_of_wp_marks hf hb trivial (Code.wpIn_mono ?_ (h C 0 [] _ C.w ⟨C,rfl,hr,FrX.refl C,List.nodup_nil,fun D hD=>by cases hD⟩)) rfl)
 rintro e a' w' ⟨rfl,Ds',C',rfl,h8,hi,hj,hk⟩
 have h6:∀w',Book C.w.heap.size C' w'->∃v,(results fn a'.tmps).run P w'=.ok v w'/\∃x' C'',(Ending.returned v)=.returned x'/\C''.w=w'/\(∀id,C''.η id=if r.D id=true then r.η id else C.η id)/\(∀id,C''.U id->C.U id\/r.D id=true)/\Good C''/\Ev C C''/\VR C'' r.v x':=by
  intro w' hc
  have h9:=h8.on hc
  have h0:=hi.on hc
  obtain⟨x,h1,h2⟩:=ho _ _ a' h9
  refine⟨x,h1,x,C'.on w',rfl,rfl,fun id=>?_,h0.U,h9.good,h0.ev,h2⟩
  by_cases hd:r.D id=true
  ·rw[ad3 hd,<-hη' id hd]
   refine h9.η id ?_
   rcases Rc.D_iff.1 hd with h3|h3
   ·exact .inl (h7.sub id h3)
   ·exact .inr h3
  ·rw[ad1 hd]
   exact h0.η id hd
 have h4:=tt (P:=P) (fn:=fn) (tm:=a'.tmps) (q:=0) (R:=fun e w'=>∃x C'',e=.returned x/\C''.w=w'/\(∀id,C''.η id=if r.D id=true then r.η id else C.η id)/\(∀id,C''.U id->C.U id\/r.D id=true)/\Good C''/\Ev C C''/\VR C'' r.v x) Ds' C' h8.good hj hk h6
 rw[<-h8.defers]at h4
 rcases he with rfl|rfl
 ·exact h4
 ·exact h4
theorem zy{P:Program}{f:FuncId}{fn:Func}{c:Code}{ys:List AV}{h:Tri (Option Blk)}{u:Nat}{t:Tri AV}{e:Exit}{E:ESX}{r:Rx}(hf:P.funcs[f]? =some fn)(hb:fn.body=some c)(hl:ys.length<=fn.ntmps)(ht:ka 0 ys .nil=some t)
 (h5:ul h u)(he:e=.normal\/e=.ret)(h9:Qx P fn.ntmps c ⟨t,h,u,0,0⟩ e E)(h3:zx P fn E u=some r):r.u0=u/\Fits (av h) r.rc/\Aq P f ys (av h) r.rc:=by
 unfold zx at h3
 split at h3
 ·cases h3
 ·rename_i m vs ha
  rw[fh,fh]at h3
  simp only[adw]at h3
  subst h3
  obtain⟨mo,hc⟩:=h9
  have h4:=mo.low h5
  have h6:=mo.sub (fun id h0=>by simp at h0)
  have h7:=mo.lrd (fun id h0=>by simp at h0)
  have hu:u<=E.u:=mo.u
  have hd:∀id,(Nat.lor E.rd m).testBit id=(E.rd.testBit id||m.testBit id):=fun id=>Nat.testBit_or ..
  have hF:∀id,(wq (Nat.lor E.rd m) u).testBit id=true↔(id<u/\(E.rd.testBit id=true\/m.testBit id=true)):=fun id=>by rw[rg,hd,Bool.or_eq_true]
  have hW:∀id,(wq E.wr u).testBit id=true↔(id<u/\E.wr.testBit id=true):=fun id=>rg
  have hD:∀id,(Rx.rc ⟨wq (Nat.lor E.rd m) u,wq E.wr u,u,E.u,E.h,Np vs⟩).D id=true↔((id<u/\E.wr.testBit id=true)\/(u<=id/\id<E.u)):=fun id=>by
   rw[Rc.D_iff]
   show((wq E.wr u).testBit id=true\/(u<=id/\id<E.u))↔_
   rw[hW]
  have h8:Fits (av h) (Rx.rc ⟨wq (Nat.lor E.rd m) u,wq E.wr u,u,E.u,E.h,Np vs⟩):=by
   refine⟨hu,fun id h0=>?_,fun id h0=>?_,fun id h0=>((hF id).1 h0).1⟩
   ·show av E.h id=av h id
    by_cases h1:id<u
    ·refine mo.h id h1 ?_
     cases hw:E.wr.testBit id with
     |false=>rfl
     |true=>rw[(hD id).2 (.inl ⟨h1,hw⟩)]at h0;cases h0
    ·by_cases h2:id<E.u
     ·rw[(hD id).2 (.inr ⟨by omega,h2⟩)]at h0;cases h0
     ·rw[h4 id (by omega),h5 id (by omega)]
   ·obtain⟨h1,h2⟩:=(hW id).1 h0
    exact(hF id).2 ⟨h1,.inl (h6 id h2)⟩
  refine⟨rfl,h8,xr (e0:=e) (s1:=E.st) hf hb rfl hl (ki ht) h8 h5 (fun C0 q Ds a w hr=>hc _ _ _ C0 q ?_ Ds a w hr) he (fun id _=>rfl) ?_⟩
  ·refine⟨fun id h0=>?_,fun id h0=>(hD id).2 ?_,ad9 _,fun id h1 h2=>⟨.inr ⟨h1,h2⟩,(hD id).2 (.inr ⟨h1,h2⟩)⟩⟩
   ·by_cases h1:id<u
    ·exact .inl ((hF id).2 ⟨h1,.inl h0⟩)
    ·exact .inr ⟨by show u<=id;omega,h7 id h0⟩
   ·by_cases h1:id<u
    ·exact .inl ⟨h1,h0⟩
    ·exact .inr ⟨by omega,h7 id (h6 id h0)⟩
  ·refine la (uu _ _ _ (fun id b hb' hg=>?_) ha)
   ·by_cases h1:id<u
    ·exact .inl ((hF id).2 ⟨h1,.inr hg⟩)
    ·refine .inr ⟨by show u<=id;omega,?_⟩
     show id<E.u
     by_cases h2:id<E.u
     ·exact h2
     ·rw[h4 id (by omega)]at hb';cases hb'
noncomputable def Dn(P:Program)(ov:FuncId->Bool)(ovr:c8)(ext:bw)(ls rs:FuncId->Bool)(steps:Nat):Nat->xe
 |0,_,_,_,_=>none
 |n+1,f,ys,h,u=>match P.funcs[f]? with
  |none=>none
  |some fn=>match fn.body with
   |none=>none
   |some c=>bif Nat.ble ys.length fn.ntmps then
    match ka 0 ys .nil with
    |none=>none
    |some t=>bif ls f then(match mt P fn.ntmps steps (opF P ov ovr (Dn P ov ovr ext ls rs steps n) ext) c ⟨t,h,u,0,0⟩with
     |none=>none
     |some outs=>match D9 P fn u outs with
      |none=>none
      |some rs=>B3 u h rs)
     else bif rs f then(match Cq P fn.ntmps steps (opF P ov ovr (Dn P ov ovr ext ls rs steps n) ext) c ⟨t,h,u,0,0⟩with
      |some (.normal,E)=>zx P fn E u
      |some (.ret,E)=>zx P fn E u
      |_=>none)
     else match ip fn.ntmps steps (opF P ov ovr (Dn P ov ovr ext ls rs steps n) ext) c ⟨t,h,u,0,0⟩with
     |some (.normal,E)=>zx P fn E u
     |some (.ret,E)=>zx P fn E u
     |_=>none
    else none
theorem Ou{P:Program}{ov:FuncId->Bool}{ovr:c8}{ext:bw}{ls rs:FuncId->Bool}(hm:P.follows .mixedOrders=true)(ho:∀f ys ret,ovr f ys=some ret->d8 P f ys ret)(h2:ext.Ok P){steps:Nat}:∀(n:Nat),xe.Ok P (Dn P ov ovr ext ls rs steps n):=by
 intro n
 induction n with
 |zero=>intro f ys h u r _ hr;simp[Dn]at hr
 |succ n ih=>
  intro f ys h u r h0 hr
  simp only[Dn]at hr
  split at hr
  ·cases hr
  ·rename_i fn hf
   split at hr
   ·cases hr
   ·rename_i c hb
    cases hl:Nat.ble ys.length fn.ntmps with
    |false=>rw[hl]at hr;simp at hr
    |true=>
     rw[hl]at hr
     simp only[cond_true]at hr
     split at hr
     ·cases hr
     ·rename_i t ht
      cases h4:ls f with
      |true=>
       rw[h4]at hr
       simp only[cond_true]at hr
       split at hr
       ·cases hr
       ·rename_i outs h1
        split at hr
        ·cases hr
        ·rename_i rs h3
         exact Li hf hb (aeb hl) ht h0 (Gz (nh ho ih h2) hm _ _ _ h0 h1) h3 hr
      |false=>
       rw[h4]at hr
       simp only[cond_false]at hr
       cases h5:rs f with
       |true=>
        rw[h5]at hr
        simp only[cond_true]at hr
        split at hr
        ·rename_i E h1
         exact zy hf hb (aeb hl) ht h0 (.inl rfl) (u4 (nh ho ih h2) hm _ _ _ _ h0 h1) hr
        ·rename_i E h1
         exact zy hf hb (aeb hl) ht h0 (.inr rfl) (u4 (nh ho ih h2) hm _ _ _ _ h0 h1) hr
        ·cases hr
       |false=>
        rw[h5]at hr
        simp only[cond_false]at hr
        split at hr
        ·rename_i E h1
         exact s9 hf hb (aeb hl) ht h0 (.inl rfl) (jy (nh ho ih h2) hm _ _ _ _ h0 h1) hr
        ·rename_i E h1
         exact s9 hf hb (aeb hl) ht h0 (.inr rfl) (jy (nh ho ih h2) hm _ _ _ _ h0 h1) hr
        ·cases hr
theorem VR.tup_inv'{C:Ctx}{cs:List AV}{x:Value}(h:VR C (.tup cs) x):∃vs:Array Value,x=.tuple vs/\cs.length=vs.size/\∀i (h:i<cs.length) (h':i<vs.size),VR C cs[i] vs[i]:=by
 cases h with
 |tup hl hi=>exact⟨_,rfl,hl,hi⟩
 |imm h=>cases h with
  |tup hl hi=>exact⟨_,rfl,hl,fun i h h'=>.imm (hi i h h')⟩
theorem FzP.tup{fp:List Nat}{η:bg}{cs ds:List AV}(hl:cs.length=ds.length)(h:∀i (h:i<cs.length) (h':i<ds.length),FzP fp η cs[i] ds[i]):FzP fp η (.tup cs) (.tup ds):=fun C hg hη x hx=>by
 obtain⟨vs,rfl,h1,h2⟩:=hx.tup_inv'
 exact .tup (by omega) (fun i hi h0=>h i (by omega) hi C hg hη _ (h2 i (by omega) h0))
def fzT(η:bg)(a:AV):Option (List Nat×AV):=match a with
 |.tup cs=>match F9 (fz η 64) cs with
  |some (fp,ds)=>some (fp,.tup ds)
  |none=>none
 |a=>fz η 64 a
theorem K6{η:bg}{a:AV}{fp:List Nat}{r:AV}(h:fzT η a=some (fp,r)):FzP fp η a r:=by
 unfold fzT at h
 split at h
 ·rename_i cs
  cases h1:F9 (fz η 64) cs with
  |none=>rw[h1]at h;cases h
  |some q=>
   obtain⟨fp1,ds⟩:=q
   rw[h1]at h
   simp only[adw,Prod.mk.injEq]at h
   obtain⟨rfl,rfl⟩:=h
   obtain⟨hl,hi⟩:=wn (P4 64) _ _ _ h1
   exact FzP.tup hl.symm (fun i h h'=>hi i h h')
 ·exact P4 _ _ _ _ h
theorem VR.moreT{C:Ctx}{T':Nat->Prop}(hT:∀k,C.T k->T' k){a:AV}{x:Value}(h:VR C a x):VR {C with T:=T'} a x:=by
 induction h with
 |imm h=>exact .imm (h.mono hT (fun _ _=>rfl))
 |ptr h1 h2 h3=>exact .ptr (C:={C with T:=T'}) h1 h2 h3
 |sl h1 h2 h3 h4 h5 h6 h7=>exact .sl (C:={C with T:=T'}) h1 h2 h3 h4 h5 h6 h7
 |slz h1 h2 h3=>exact .slz (C:={C with T:=T'}) h1 h2 h3
 |slnil h1 h2 h3=>exact .slnil (C:={C with T:=T'}) h1 h2 h3
 |mp h1 h2 h3=>exact .mp (C:={C with T:=T'}) h1 h2 h3
 |it h1 h2 h3=>exact .it (C:={C with T:=T'}) h1 h2 h3
 |stalem h1 h2 h3=>exact .stalem (C:={C with T:=T'}) h1 h2 h3
 |stalei h1 h2 h3=>exact .stalei (C:={C with T:=T'}) h1 h2 h3
 |stalep h1 h2 h3=>exact .stalep (C:={C with T:=T'}) h1 h2 h3
 |stales h1 h2 h3=>exact .stales (C:={C with T:=T'}) h1 h2 h3
 |agg hl _ ih=>exact .agg hl ih
 |tup hl _ ih=>exact .tup hl ih
 |clo hl _ ih=>exact .clo hl ih
theorem ObjR.moreT{C:Ctx}{T':Nat->Prop}(hT:∀k,C.T k->T' k){cs:List AV}{o:Obj}(ho:ObjR C cs o):ObjR {C with T:=T'} cs o:=by
 cases ho with
 |map hl hi=>exact .map hl (fun i h1 h2=>⟨(hi i h1 h2).1,(hi i h1 h2).2.1.moreT hT,(hi i h1 h2).2.2⟩)
 |siter=>exact .siter
 |miter0=>exact .miter0
 |miter hv=>exact .miter (hv.moreT hT)
def Yl(fs:FuncId->Bool)(call:xe):xe:=fun f ys h u=>match call f ys h u with
 |none=>none
 |some r=>bif fs f then(match fzT (av r.h) r.v with
  |none=>none
  |some (fp,ret)=>bif Nat.beq r.W 0&&fp.all (fun i=>Nat.ble u i&&Nat.ble (i+1) r.u)then some ⟨r.F,0,u,r.u,h,ret⟩else none)else some r
theorem ww{P:Program}{fs:FuncId->Bool}{call:xe}(hc:call.Ok P):xe.Ok P (Yl fs call):=by
 intro f ys h u r' hl hr
 unfold Yl at hr
 split at hr
 ·cases hr
 ·rename_i r ht
  obtain⟨c1,c2,c3⟩:=hc f ys h u r hl ht
  cases ho:fs f with
  |false=>
   rw[ho]at hr
   simp only[cond_false,adw]at hr
   subst hr
   exact⟨c1,c2,c3⟩
  |true=>
   rw[ho]at hr
   simp only[cond_true]at hr
   split at hr
   ·cases hr
   ·rename_i fp ret hu
    cases h9:(Nat.beq r.W 0&&fp.all (fun i=>Nat.ble u i&&Nat.ble (i+1) r.u))with
    |false=>rw[h9]at hr;simp at hr
    |true=>
     rw[h9]at hr
     simp only[cond_true,adw]at hr
     subst hr
     simp only[aes]at h9
     obtain⟨k1,k2⟩:=h9
     have hW:r.W=0:=adv k1
     have hp:∀i∈fp,u<=i/\i<r.u:=fun i hi=>by
      have:=List.all_eq_true.1 k2 i hi
      simp only[aes]at this
      exact⟨aeb this.1,aeb this.2⟩
     have hw:u<=r.u:=by
      have h1:r.u0<=r.u:=c2.le
      omega
     have hD:∀id,r.rc.D id=true↔(u<=id/\id<r.u):=fun id=>by
      rw[Rc.D_iff]
      constructor
      ·rintro(h1|h1)
       ·have h2:r.W.testBit id=true:=h1
        rw[hW]at h2;simp at h2
       ·have h2:r.u0<=id/\id<r.u:=h1
        rw[c1]at h2;exact h2
      ·intro h1
       right
       show r.u0<=id/\id<r.u
       rw[c1];exact h1
     have he:∀id,(Rx.rc ⟨r.F,0,u,r.u,h,ret⟩).D id=true↔(u<=id/\id<r.u):=fun id=>by
      rw[Rc.D_iff]
      constructor
      ·rintro(h1|h1)
       ·have h2:(0:Nat).testBit id=true:=h1
        simp at h2
       ·exact h1
      ·intro h1;exact .inr h1
     refine⟨rfl,⟨hw,fun id _=>rfl,fun id h5=>?_,fun id h5=>?_⟩,?_⟩
     ·have h2:(0:Nat).testBit id=true:=h5
      simp at h2
     ·have:=c2.low id h5
      show id<u
      have h3:id<r.u0:=this
      omega
     ·intro C vals hg hy hF hN
      refine Calls.mono (c3 C vals hg hy hF (fun id h1 h2=>hN id (by have h3:r.u0<=id:=h1;show u<=id;omega) h2)) ?_
      rintro e w' ⟨x,C',rfl,rfl,h1,h2,h6,ha,hx⟩
      -- the new blocks are forgotten
      have h7:∀id,(fun id=>if u<=id/\id<r.u then none else C'.η id) id=C'.η id\/(fun id=>if u<=id/\id<r.u then none else C'.η id) id=none:=fun id=>by
       simp only
       split
       ·exact .inr rfl
       ·exact .inl rfl
      obtain⟨g1,g2⟩:=r9 (η:=fun id=>if u<=id/\id<r.u then none else C'.η id) h6 h7
      have hz:∀{a:AV} {y:Value},VR C' a y->VR (C'.less (fun id=>if u<=id/\id<r.u then none else C'.η id)) a y:=fun hv=>VR.forget (C:=C') (C':=C'.less (fun id=>if u<=id/\id<r.u then none else C'.η id)) rfl rfl rfl rfl rfl h7 h6.used hv
      have h4:∀{id},(C'.less (fun id=>if u<=id/\id<r.u then none else C'.η id)).live id->C'.live id/\¬(u<=id/\id<r.u):=by
       rintro id ⟨b,hb,hk⟩
       have hb':(if u<=id/\id<r.u then none else C'.η id)=some b:=hb
       by_cases hc:u<=id/\id<r.u
       ·rw[ad3 hc]at hb';cases hb'
       ·rw[ad1 hc]at hb';exact⟨⟨b,hb',hk⟩,hc⟩
      have hf:=K6 hu C' h6 (fun id h5=>by
       rw[h1 id,ad3 ((hD id).2 (hp id h5))];rfl) x hx
      generalize h8:C'.less (fun id=>if u<=id/\id<r.u then none else C'.η id)=C1 at g1 g2 hz h4
      have e1:C1.w=C'.w:=by rw[<-h8];rfl
      have e2:C1.T=C'.T:=by rw[<-h8];rfl
      have e3:C1.U=C'.U:=by rw[<-h8];rfl
      have e4:C1.ρ=C'.ρ:=by rw[<-h8];rfl
      have e5:C1.η=fun id=>if u<=id/\id<r.u then none else C'.η id:=by rw[<-h8];rfl
      have h0:=ha.trans g2
      have hq:∀k,C1.T k->(C'.T k\/C'.mineOf fp k):=fun k hk=>.inl (by rw[<-e2];exact hk)
      refine⟨x,{C1 with T:=fun k=>C'.T k\/C'.mineOf fp k},rfl,e1,fun id=>?_,fun id h5=>?_,?_,?_,.imm (hf.mono (fun b hb=>hb) (fun b _=>by rw[e1]))⟩
      ·show C1.η id=_
       rw[e5]
       by_cases hc:u<=id/\id<r.u
       ·rw[ad3 ((he id).2 hc)]
        show(if u<=id/\id<r.u then none else C'.η id)=av h id
        rw[ad3 hc,hl id hc.1]
       ·rw[ad1 (fun hd=>hc ((he id).1 hd))]
        show(if u<=id/\id<r.u then none else C'.η id)=C.η id
        rw[ad1 hc,h1 id,ad1 (fun hd=>hc ((hD id).1 hd))]
      ·have hh:C'.U id:=by rw[<-e3];exact h5
       exact(h2 id hh).imp (fun h=>h) (fun hd=>(he id).2 ((hD id).1 hd))
      ·refine⟨g1.used,fun{id b} hb hk=>?_,fun{id b} hb hn=>?_,g1.inj,g1.tokT (fun _ h=>.inl (by rw[<-e2];exact h)) (fun k hk=>?_),?_,g1.tight⟩
       ·obtain⟨o,q1,q2⟩:=g1.obj hb hk
        exact⟨o,q1,q2.moreT hq⟩
       ·obtain⟨c,t,q1,q2,q3,q4⟩:=g1.blk hb hn
        exact⟨c,t,q1,q2,q3,fun j hj g0=>(q4 j hj g0).moreT hq⟩
       ·show k<C1.w.heap.size
        rw[e1]
        rcases hk with hk|hk
        ·exact h6.tlt hk
        ·exact cf h6 (be hk)
       ·rintro k ⟨id,g3,hk⟩ hT
        obtain⟨q1,q2⟩:=h4 g3
        have hs:(C'.ρ id).1=k:=by rw[<-e4];exact hk
        rcases hT with hT|⟨i,hi,hm,e⟩
        ·exact h6.apart ⟨id,q1,hs⟩ hT
        ·have:=h6.inj q1 hm (hs.trans e.symm)
         subst this
         exact q2 (hp _ hi)
      ·refine⟨⟨h0.os,h0.tape,h0.output,h0.size,h0.keep,h0.mine,fun k hk=>.inl (ha.T k hk),fun k hk=>?_⟩,h0.U,h0.old⟩
       rcases hk with hk|hk
       ·exact ha.Tnew k hk
       ·exact .inr (ha.mine k (be hk))
abbrev Tab:=List (Nat×List AV×AV)
def s8:Tab->c8
 |[],_,_=>none
 |e::r,f,ys=>bif Nat.beq e.1 f then(bif Ha (q9 64) ys e.2.1 then some e.2.2 else s8 r f ys)else s8 r f ys
theorem jw{P:Program}:∀{L:Tab},(∀e∈L,d8 P e.1 e.2.1 e.2.2)->∀f ys ret,s8 L f ys=some ret->d8 P f ys ret
 |[],_,f,ys,ret,h=>by cases h
 |e::r,hL,f,ys,ret,h=>by
  simp only[s8]at h
  have ih:=jw (fun e he=>hL e (List.mem_cons_of_mem _ he)) f ys ret
  cases h1:Nat.beq e.1 f with
  |false=>rw[h1]at h;simp only[cond_false]at h;exact ih h
  |true=>
   rw[h1]at h
   simp only[cond_true]at h
   cases h2:Ha (q9 64) ys e.2.1 with
   |false=>rw[h2]at h;simp only[cond_false]at h;exact ih h
   |true=>
    rw[h2]at h
    simp only[cond_true,adw]at h
    subst h
    have e1:=adv h1
    have e2:ys=e.2.1:=mv (fun a b h=>q8 _ _ _ h) _ _ h2
    subst e1
    rw[e2]
    exact hL e (List.mem_cons_self ..)
def aae(run:FuncId->List AV->Option AV):Tab->Bool
 |[]=>true
 |e::r=>(match run e.1 e.2.1 with
  |some x=>q9 64 x e.2.2
  |none=>false)&&aae run r
theorem L4{P:Program}{run:FuncId->List AV->Option AV}(hr:∀f ys r,run f ys=some r->d8 P f ys r):∀{L:Tab},aae run L=true->∀e∈L,d8 P e.1 e.2.1 e.2.2
 |[],_,e,he=>by cases he
 |e0::L,h,e,he=>by
  simp only[aae,aes]at h
  rcases aek.1 he with rfl|he
  ·have h1:=h.1
   split at h1
   ·rename_i x hx
    rw[<-q8 _ _ _ h1]
    exact hr _ _ _ hx
   ·cases h1
  ·exact L4 hr h.2 e he
def orR(a b:c8):c8:=fun f ys=>match a f ys with
 |some r=>some r
 |none=>b f ys
theorem re{P:Program}{a b:c8}(ha:∀f ys ret,a f ys=some ret->d8 P f ys ret)(hb:∀f ys ret,b f ys=some ret->d8 P f ys ret):∀f ys ret,orR a b f ys=some ret->d8 P f ys ret:=by
 intro f ys ret h
 unfold orR at h
 split at h
 ·rename_i r hr
  simp only[adw]at h
  subst h
  exact ha _ _ _ hr
 ·exact hb _ _ _ h
noncomputable def Hp(P:Program)(ov:FuncId->Bool)(ovr:c8)(ext:bw)(ls rs:FuncId->Bool)(steps depth:Nat)(f:FuncId)(ys:List AV):Option AV:=match Dn P ov ovr ext ls rs steps depth f ys .nil 0 with
 |none=>none
 |some r=>match fzT (av r.h) r.v with
  |none=>none
  |some (_,ret)=>some ret
theorem uo{P:Program}{ov:FuncId->Bool}{ovr:c8}{ext:bw}{ls rs:FuncId->Bool}(hm:P.follows .mixedOrders=true)(ho:∀f ys ret,ovr f ys=some ret->d8 P f ys ret)(h0:ext.Ok P){steps depth:Nat}{f:FuncId}{ys:List AV}{ret:AV}(h:Hp P ov ovr ext ls rs steps depth f ys=some ret):d8 P f ys ret:=by
 unfold Hp at h
 split at h
 ·cases h
 ·rename_i r hr
  split at h
  ·cases h
  ·rename_i fp ret' hz
   simp only[adw]at h
   subst h
   have hη0:av .nil=lx:=vg
   obtain⟨h1,h2,h3⟩:=Ou hm ho h0 depth f ys .nil 0 r (fun id _=>by rw[hη0];rfl) hr
   rw[hη0]at h2 h3
   exact te h2 (K6 hz) h3
def inN(l:List Nat)(f:Nat):Bool:=match l with
 |[]=>false
 |a::r=>bif Nat.beq f a then true else inN r f
noncomputable def Dm(P:Program)(ov:FuncId->Bool)(ovr:c8)(ext:bw)(ls rs fs:FuncId->Bool)(steps:Nat):Nat->xe
 |0,_,_,_,_=>none
 |n+1,f,ys,h,u=>match P.funcs[f]? with
  |none=>none
  |some fn=>match fn.body with
   |none=>none
   |some c=>bif Nat.ble ys.length fn.ntmps then
    match ka 0 ys .nil with
    |none=>none
    |some t=>bif ls f then(match mt P fn.ntmps steps (opF P ov ovr (Yl fs (Dm P ov ovr ext ls rs fs steps n)) ext) c ⟨t,h,u,0,0⟩with
     |none=>none
     |some outs=>match D9 P fn u outs with
      |none=>none
      |some rs=>B3 u h rs)
     else bif rs f then(match Cq P fn.ntmps steps (opF P ov ovr (Yl fs (Dm P ov ovr ext ls rs fs steps n)) ext) c ⟨t,h,u,0,0⟩with
      |some (.normal,E)=>zx P fn E u
      |some (.ret,E)=>zx P fn E u
      |_=>none)
     else match ip fn.ntmps steps (opF P ov ovr (Yl fs (Dm P ov ovr ext ls rs fs steps n)) ext) c ⟨t,h,u,0,0⟩with
     |some (.normal,E)=>zx P fn E u
     |some (.ret,E)=>zx P fn E u
     |_=>none
    else none
theorem Ot{P:Program}{ov:FuncId->Bool}{ovr:c8}{ext:bw}{ls rs fs:FuncId->Bool}(hm:P.follows .mixedOrders=true)(ho:∀f ys ret,ovr f ys=some ret->d8 P f ys ret)(h2:ext.Ok P){steps:Nat}:∀(n:Nat),xe.Ok P (Dm P ov ovr ext ls rs fs steps n):=by
 intro n
 induction n with
 |zero=>intro f ys h u r _ hr;simp[Dm]at hr
 |succ n ih=>
  intro f ys h u r h0 hr
  simp only[Dm]at hr
  split at hr
  ·cases hr
  ·rename_i fn hf
   split at hr
   ·cases hr
   ·rename_i c hb
    cases hl:Nat.ble ys.length fn.ntmps with
    |false=>rw[hl]at hr;simp at hr
    |true=>
     rw[hl]at hr
     simp only[cond_true]at hr
     split at hr
     ·cases hr
     ·rename_i t ht
      cases h4:ls f with
      |true=>
       rw[h4]at hr
       simp only[cond_true]at hr
       split at hr
       ·cases hr
       ·rename_i outs h1
        split at hr
        ·cases hr
        ·rename_i rs h3
         exact Li hf hb (aeb hl) ht h0 (Gz (nh ho (ww ih) h2) hm _ _ _ h0 h1) h3 hr
      |false=>
       rw[h4]at hr
       simp only[cond_false]at hr
       cases h5:rs f with
       |true=>
        rw[h5]at hr
        simp only[cond_true]at hr
        split at hr
        ·rename_i E h1
         exact zy hf hb (aeb hl) ht h0 (.inl rfl) (u4 (nh ho (ww ih) h2) hm _ _ _ _ h0 h1) hr
        ·rename_i E h1
         exact zy hf hb (aeb hl) ht h0 (.inr rfl) (u4 (nh ho (ww ih) h2) hm _ _ _ _ h0 h1) hr
        ·cases hr
       |false=>
        rw[h5]at hr
        simp only[cond_false]at hr
        split at hr
        ·rename_i E h1
         exact s9 hf hb (aeb hl) ht h0 (.inl rfl) (jy (nh ho (ww ih) h2) hm _ _ _ _ h0 h1) hr
        ·rename_i E h1
         exact s9 hf hb (aeb hl) ht h0 (.inr rfl) (jy (nh ho (ww ih) h2) hm _ _ _ _ h0 h1) hr
        ·cases hr
noncomputable def Oq(P:Program)(ov:FuncId->Bool)(ovr:c8)(ext:bw)(ls rs fs:FuncId->Bool)(steps depth:Nat)(f:FuncId)(ys:List AV):Option AV:=match Dm P ov ovr ext ls rs fs steps depth f ys .nil 0 with
 |none=>none
 |some r=>match fzT (av r.h) r.v with
  |none=>none
  |some (_,ret)=>some ret
theorem Fs{P:Program}{ov:FuncId->Bool}{ovr:c8}{ext:bw}{ls rs fs:FuncId->Bool}(hm:P.follows .mixedOrders=true)(ho:∀f ys ret,ovr f ys=some ret->d8 P f ys ret)(h0:ext.Ok P){steps depth:Nat}{f:FuncId}{ys:List AV}{ret:AV}(h:Oq P ov ovr ext ls rs fs steps depth f ys=some ret):d8 P f ys ret:=by
 unfold Oq at h
 split at h
 ·cases h
 ·rename_i r hr
  split at h
  ·cases h
  ·rename_i fp ret' hz
   simp only[adw]at h
   subst h
   have hη0:av .nil=lx:=vg
   obtain⟨h1,h2,h3⟩:=Ot hm ho h0 depth f ys .nil 0 r (fun id _=>by rw[hη0];rfl) hr
   rw[hη0]at h2 h3
   exact te h2 (K6 hz) h3
def u8s:List AV->Option (List UInt8)
 |[]=>some []
 |.v (.int .u8 (.ofNat n))::r=>bif Nat.blt n 256 then(match u8s r with|some l=>some (UInt8.ofNat n::l)|none=>none)else none
 |_=>none
theorem Rj:∀{news:List AV} {l:List UInt8},u8s news=some l->news.length=l.length/\∀j (h:j<news.length) (h':j<l.length),news[j]=.v (.int .u8 ((l[j].toNat:Nat):Int))
 |[],l,h=>by
  simp only[u8s,adw]at h
  subst h
  exact⟨rfl,fun j h=>absurd h (by simp)⟩
 |a::r,l,h=>by
  unfold u8s at h
  split at h
  ·rename_i h0;cases h0
  ·rename_i n r' h0
   obtain⟨rfl,rfl⟩:=List.cons.inj h0
   cases hn:Nat.blt n 256 with
   |false=>rw[hn]at h;cases h
   |true=>
    rw[hn]at h
    simp only[cond_true]at h
    split at h
    ·rename_i l' hl
     simp only[adw]at h
     subst h
     obtain⟨h1,h2⟩:=Rj hl
     have hlt:n<256:=aeb hn
     refine⟨by simp[h1],fun j hj h3=>?_⟩
     cases j with
     |zero=>
      simp only[List.getElem_cons_zero]
      have:(UInt8.ofNat n).toNat=n:=by simp[UInt8.toNat_ofNat'];omega
      rw[this];rfl
     |succ j=>simp only[List.getElem_cons_succ];exact h2 j (by simpa using hj) (by simpa using h3)
    ·cases h
  ·cases h
section
variable{P:Program}{τ:Nat->AV}{η:bg}{d:Option Tmp}{ty:TypeId}{pos:String}{af:Array Edge}{g:Option (Nat×Bool)}
theorem th{src dst e m:Nat}{x:Operand}{fp:List Nat}{news:List AV}{l:List UInt8}(hs:P.underlying src=some (.slice e))(he:P.underlying e=some (.int .u8))(hd:P.underlying dst=some .string)(h4:Src η fp (aev τ x) m news)(hn:u8s news=some l)(hm:m=l.length):
 LOp P ⟨d,.convert src dst x,ty,pos,af,g⟩ τ η fp [] (.v (.string ⟨l.toArray⟩)):=
 .look fp fun C a hg h7 h8=>by
  obtain⟨hl,h9⟩:=Rj hn
  have h1:=h7 x (by simp[Op.operands])
  rcases h4 C hg h8 _ h1 with⟨h0,h00,ad,c,hx⟩|⟨ad,c,vals,hx,hvl,hv,hr⟩
  ·have ha:l=[]:=aem (by omega)
   subst ha
   refine⟨.string ⟨#[]⟩,?_,VR.v C _⟩
   have h2:(convert src dst (.slice ad 0 c)).run P C.w=.ok (.string ⟨#[]⟩) C.w:=by
    cases ad with
    |none=>
     rw[run_convert_bytes_string C.w src dst e none 0 c hs he hd]
     simp[Conv.bytesToString]
     rfl
    |some ad=>exact run_convert_bytes_back C.w src dst e ad c [] hs he hd (fun j hj=>absurd hj (by simp))
   simp only[execOp,hx,Sem.run_bind,h2,aed,aee]
  ·refine⟨.string ⟨l.toArray⟩,?_,VR.v C _⟩
   have h2:(convert src dst (.slice (some ad) m c)).run P C.w=.ok (.string ⟨l.toArray⟩) C.w:=by
    rw[hm]
    refine run_convert_bytes_back C.w src dst e ad c l hs he hd (fun j hj=>?_)
    have h5:j<news.length:=by omega
    have h6:j<vals.length:=by omega
    have h3:=hr j h5 h6
    rw[h9 j h5 hj]at h3
    rw[hv j _ (adu h6),h3.v_inv]
   simp only[execOp,hx,Sem.run_bind,h2,aed,aee]
end
def Sp(P:Program)(E:ESX)(o:Oper):Option Rec:=match o.op with
 |.convert s t x=>match P.underlying s,P.underlying t with
  |some (.slice e),some .string=>match P.underlying e with
   |some (.int .u8)=>match Z9 (av E.h) 1 (aev (bc E.t) x)with
    |some (fp,m,news)=>match u8s news with
     |some l=>bif Nat.beq m l.length then some ⟨fp,[],.v (.string ⟨l.toArray⟩),E.u⟩else none
     |none=>none
    |none=>none
   |_=>none
  |_,_=>none
 |_=>none
def i8(P:Program):bw:=fun o E=>match Vd P o E with
 |some r=>some r
 |none=>match Sp P E o with
  |some r=>zi E r
  |none=>none
theorem mm{P:Program}:(i8 P).Ok P:=by
 intro o E r hl h
 unfold i8 at h
 split at h
 ·rename_i r' hr
  simp only[adw]at h
  subst h
  exact P8 _ _ _ hl hr
 ·split at h
  ·rename_i r' hr
   refine ox h ?_
   obtain⟨d,op,ty,pos,af,g⟩:=o
   unfold Sp at hr
   split at hr
   ·rename_i s t x h0
    simp only at h0
    subst h0
    split at hr
    ·rename_i e hs ht
     split at hr
     ·rename_i he
      split at hr
      ·rename_i fp m news h1
       split at hr
       ·rename_i l hu
        cases hm:Nat.beq m l.length with
        |false=>rw[hm]at hr;cases hr
        |true=>
         rw[hm]at hr
         simp only[cond_true,adw]at hr
         subst hr
         exact th hs he ht (Jd h1).1 hu (adv hm)
       ·cases hr
      ·cases hr
     ·cases hr
    ·cases hr
   ·cases hr
  ·cases h
end Go.Proofs.YtbhhmbchdponjaaGreatDoor
