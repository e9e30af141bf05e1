/- Texts of the claim. -/
import Derived.RangeFuncCalls
import Derived.RangeFuncLeaves
import Derived.TacticsIn
import Derived.OrdersIn
import Derived.RangeFuncIn
import Derived.LoopNIn
import Derived.Laws.IdiomStrings
import Derived.Test.YtfpfdfhlljjckaaGreatDoorCA2
set_option linter.all false
namespace Go.Proofs.YtfpfdfhlljjckaaGreatDoor
open Go.RowKit
set_option linter.unusedVariables false
set_option linter.unusedSimpArgs false
variable{v:AV}{a:Act}{entries:Array MapEntry}{b:Blk}{C:Ctx}{es:List (Value×AV×Nat)}{cs vs:List AV}{clock n t u ver:Nat}{o:Obj}{i x:Operand}{r0:Option (Nat×Value)}{hi lo:Option Operand}{P:Program}{r:Rec}{α β:Type}{kt:TypeId}{k y z:Value}{w:World}
structure Rc where
 F:Nat
 W:Nat
 u0:Nat
 u:Nat
 η:bm
 v:AV
structure SRelX(DS:List Deferred)(RD:Nat->Prop)(M N:Nat)(C:Ctx)(s:St)(a:Act):Prop where
 good:Good C
 η:∀id,RD id->C.η id=s.η id
 free:∀id,s.u<=id->id<M->¬C.U id
 defers:a.defers=DS
 size:a.tmps.size=N
 τ:∀t,VR C (s.τ t) (a.eval (.tmp t))
def VRs(C:Ctx)(as:List AV)(vs:Array Value):Prop:=as.length=vs.size/\∀i (h:i<as.length) (h':i<vs.size),VR C as[i] vs[i]
def ay2(P:Program)(RD:Nat->Prop)(M N:Nat)(fn:Func)(s:St)(ret:AV):Prop:=
 ∀DS C a,SRelX DS RD M N C s a->∃x,(results fn a.tmps).run P C.w=.ok x C.w/\VR C ret x
def ay3(P:Program)(RD:Nat->Prop)(M N:Nat)(s:St)(r:ResultVar)(ret:AV):Prop:=
 ∀DS C a,SRelX DS RD M N C s a->∃x,(Om a.tmps r).run P C.w=.ok x C.w/\VR C ret x
section
variable{P:Program}{RD:Nat->Prop}{M N:Nat}{s:St}{fn:Func}
theorem ay3.tmp(h:s.τ t=v):ay3 P RD M N s (.tmp t) v:=by subst h;exact fun DS C a hs=>⟨a.tmps.getD t undef,by simp[Om],hs.τ t⟩
theorem ay3.cellN{ty id o:Nat}{ds:List AV}(ht:ey P ty=some (some n))(hx:s.τ t=.ptr id ver o)(hb:s.η id=some b)(hR:RD id)(hv:b.ver=ver)(hn:b.nilp=false)(hd:ij o n b.cs=some ds):ay3 P RD M N s (.cell t ty) (.agg ds):=by intro DS C a hs;have hb':C.η id=some b:=(by rw[hs.η id hR];exact hb);have h1:=hs.τ t;rw[hx]at h1;have h2:=h1.ptr_inv hb' hv;simp only[Act.eval]at h2;obtain⟨hl,rfl⟩:=ks _ _ _ _ hd;obtain⟨fcell,h4⟩:=jv (n:=n) (p:=fun j y=>C.w.cell? ⟨(C.ρ id).1,(C.ρ id).2+o+j,none⟩=some y/\VR C (b.cs.getD (o+j) .unk) y) (fun j hj=>by obtain⟨y,hy,h5⟩:=hs.good.cell hb' hn (j:=o+j) (by omega);refine⟨y,by rw[<-hy];congr 2;omega,have:b.cs.getD (o+j) .unk=b.cs[o+j]'(by omega):=(by simp[List.getD,show o+j<b.cs.length by omega]);?_⟩;rw[this];exact h5);have h3:((List.range n).map fcell).length=n:=(by simp);have h0:=pz (P:=P) ht (b:=(C.ρ id).1) (o:=(C.ρ id).2+o) (w:=C.w) h3 (fun j v hj=>by obtain⟨h6,he⟩:=az2.1 hj;simp only[List.getElem_map,List.getElem_range]at he;subst he;exact(h4 j (by simpa using h6)).1);exact⟨.agg ((List.range n).map fcell).toArray,by simp only[Instr.loadAt,Instr.sureAddr,Sem.run_bind,azr,azq]at h0;simp only[Om,h2,asAddr,Sem.run_bind,azr,azq];exact h0,.agg (by simp;omega) (fun i hi h7=>by have h8:i<n:=(by simpa using h7);simp only[List.getElem_toArray,List.getElem_map,List.getElem_range];have:=(h4 i h8).2;have e:(List.take n (List.drop o b.cs))[i]=b.cs.getD (o+i) .unk:=(by simp[List.getD,show o+i<b.cs.length by omega]);rw[e];exact this)⟩
inductive AllX(P:Program)(RD:Nat->Prop)(M N:Nat)(s:St):List ResultVar->List AV->Prop where
 |nil:AllX P RD M N s [] []
 |cons {r:ResultVar} {v:AV} {l:List ResultVar} {vs:List AV}:ay3 P RD M N s r v->AllX P RD M N s l vs->AllX P RD M N s (r :: l) (v :: vs)
theorem AllX.run{l:List ResultVar}(h:AllX P RD M N s l vs):∀DS C a,SRelX DS RD M N C s a->∃xs:List Value,(l.mapM (Om a.tmps)).run P C.w=.ok xs C.w/\vs.length=xs.length/\∀i (h:i<vs.length) (h':i<xs.length),VR C vs[i] xs[i]:=by
 induction h with
 |nil=>intro DS C a hs;exact⟨[],by simp,rfl,fun i h=>absurd h (by simp)⟩
 |cons h1 _ ih=>
  intro DS C a hs
  obtain⟨x,e1,v1⟩:=h1 DS C a hs
  obtain⟨xs,e2,hl,v2⟩:=ih DS C a hs
  refine⟨x::xs,by simp[Sem.run_bind,Result.andThen,e1,e2],by simp[hl],fun i h h'=>?_⟩
  cases i with
  |zero=>exact v1
  |succ i=>exact v2 i (by simpa using h) (by simpa using h')
def avl:List AV->AV
 |[v]=>v
 |vs=>.tup vs
theorem H5(h:AllX P RD M N s fn.results.toList vs):ay2 P RD M N fn s (avl vs):=by
 intro DS C a hs;obtain⟨xs,e,hl,hv⟩:=h.run DS C a hs;have hh:results fn a.tmps=(do let vs<-fn.results.mapM (Om a.tmps);pure (if h:vs.size=1 then vs[0]else .tuple vs)):=by unfold results;congr 1
 have hm:(fn.results.mapM (Om a.tmps)).run P C.w=.ok xs.toArray C.w:=by rw[Array.mapM_eq_mapM_toList];simp[Sem.run_bind,Result.andThen,e]
 refine⟨if h:xs.toArray.size=1 then xs.toArray[0]else .tuple xs.toArray,by rw[hh,Sem.run_bind,hm];rfl,?_⟩;match vs,xs,hl,hv with
 |[v],[x],_,hv=>exact hv 0 (by simp) (by simp)
 |[],[],_,_=>exact .tup rfl (fun i h=>absurd h (by simp))
 |v1::v2::vs,x1::x2::xs,hl,hv=>
  have:¬((x1::x2::xs).toArray.size=1):=by simp
  rw[dif_neg this]
  exact .tup (by simpa using hl) (fun i h h'=>by simpa using hv i h (by simpa using h'))
end
section
variable{P:Program}{τ:Nat->AV}{η:bm}{d:Option Tmp}{ty:TypeId}{pos:String}{af:Array Edge}{g:Option (Nat×Bool)}
theorem LOp.makeFunc{f:FuncId}{caps:Array Operand}:LOp P ⟨d,.makeFunc (.func f) #[] caps,ty,pos,af,g⟩ τ η [] [] (.clo f (caps.toList.map (aev τ))):=
 .look [] fun C a hg hx _=>by refine⟨.func (.func f) #[] (caps.map a.eval),by simp[execOp,Instr.makeFunc],.clo (by simp) (fun i h h'=>?_)⟩;simp only[List.getElem_map,Array.getElem_toList,Array.getElem_map];exact hx _ (by simp[Op.operands])
end
def T4(n:Int):Bool:=match n with
 |.ofNat m=>Nat.ble m 9223372036854775807
 |.negSucc m=>Nat.ble m 9223372036854775807
theorem Ms{n:Int}(h:T4 n=true):IntKind.i64.wrap n=n:=by
 apply IntWalk.i64_in;cases n with
 |ofNat m=>
  have:=azo h
  simp only[Int.ofNat_eq_natCast]
  omega
 |negSucc m=>
  have:=azo h
  omega
def ltI:Int->Int->Bool
 |.ofNat a,.ofNat b=>Nat.blt a b
 |.ofNat _,.negSucc _=>false
 |.negSucc _,.ofNat _=>true
 |.negSucc a,.negSucc b=>Nat.blt b a
theorem adh(a b:Int):ltI a b=decide (a<b):=by rw[Bool.eq_iff_iff,az9];cases a<;>cases b<;>simp[ltI]<;>omega
theorem aot(a b:Int):(!ltI b a)=decide (a<=b):=by grind[adh]
def eqI:Int->Int->Bool
 |.ofNat a,.ofNat b=>Nat.beq a b
 |.negSucc a,.negSucc b=>Nat.beq a b
 |_,_=>false
theorem ap9(a b:Int):eqI a b=(a==b):=by rw[Bool.eq_iff_iff,beq_iff_eq];cases a<;>cases b<;>simp[eqI]<;>omega
def ap3(op:BinOp)(a b:Int):Option Value:=match op with
 |.add=>bif T4 (a+b)then some (.int .i64 (a+b))else none
 |.sub=>bif T4 (a-b)then some (.int .i64 (a-b))else none
 |.eql=>some (.bool (eqI a b))
 |.neq=>some (.bool (!eqI a b))
 |.lss=>some (.bool (ltI a b))
 |.gtr=>some (.bool (ltI b a))
 |.leq=>some (.bool (!ltI b a))
 |.geq=>some (.bool (!ltI a b))
 |_=>none
def ajb(τ:Nat->AV)(op:Op):Option Value:=match op with
 |.binOp bop _ x y _=>match aev τ x with
  |.v (.int .i64 a)=>match aev τ y with
   |.v (.int .i64 b)=>ap3 bop a b
   |_=>none
  |_=>none
 |.unOp .not _ x=>match aev τ x with
  |.v (.bool b)=>some (.bool !b)
  |_=>none
 |_=>none
theorem aad{τ:Nat->AV}{η:bm}{o:Oper}(h:ajb τ o.op=some y):LOp P o τ η [] [] (.v y):=by
 obtain⟨d,op,ty,pos,af,g⟩:=o
 refine .look [] fun C a hg h0 _=>⟨y,?_,VR.v C y⟩
 unfold ajb at h
 simp only at h h0
 split at h
 ·rename_i bop t x z t'
  split at h
  ·rename_i m hx
   split at h
   ·rename_i n hz
    have e1:=h0 x (by simp[Op.operands])
    have e2:=h0 z (by simp[Op.operands])
    rw[hx]at e1
    rw[hz]at e2
    have e1':=e1.v_inv
    have e2':=e2.v_inv
    have h1:∀w:World,(eqGuard bop t x z (.int .i64 m) (.int .i64 n)).run P w=.ok () w:=by
     intro w
     unfold eqGuard
     split<;>rfl
    unfold ap3 at h
    split at h
    ·cases hc:T4 (m+n)with
     |false=>rw[hc]at h;simp at h
     |true=>
      rw[hc]at h
      simp only[cond_true,aza]at h
      subst h
      simp only[execOp,e1',e2',Sem.run_bind,h1,azq]
      simp[binOp,Op.intArith,Ms hc,Sem.run_bind]
    ·cases hc:T4 (m-n)with
     |false=>rw[hc]at h;simp at h
     |true=>
      rw[hc]at h
      simp only[cond_true,aza]at h
      subst h
      simp only[execOp,e1',e2',Sem.run_bind,h1,azq]
      simp[binOp,Op.intArith,Ms hc,Sem.run_bind]
    all_goals first
     |(cases h;done)
     |(
      have h':=Option.some.inj h
      subst h'
      simp only[execOp,e1',e2',Sem.run_bind,h1,azq]
      first
       |(rw[aot];rfl)
       |(rw[adh];rfl)
       |(rw[ap9];rfl))
   ·cases h
  ·cases h
 ·rename_i t x
  split at h
  ·rename_i b hx
   have e1:=h0 x (by simp[Op.operands])
   rw[hx]at e1
   have e1':=e1.v_inv
   simp only[aza]at h
   subst h
   simp[execOp,e1',Op.unary,Sem.run_bind]
  ·cases h
 ·cases h
def Ctx.allocO(C:Ctx)(u:Nat)(o:Obj)(b:Blk):Ctx:=
 {ρ:=fun i=>if i=u then(C.w.heap.size,0)else C.ρ i,sz:=C.sz,η:=C.η.set u (some b),U:=fun i=>C.U i\/i=u,T:=C.T,w:=C.w.alloc o}
section
variable{C:Ctx}{u:Nat}{o:Obj}{b:Blk}
theorem qj(hg:Good C)(hu:¬C.U u):Ev C (C.allocO u o b) where
 os:=rfl
 tape:=rfl
 output:=rfl
 size:=by simp[Ctx.allocO]
 keep:=fun k hk _=>Below.heap_alloc _ _ _ hk
 mine:=fun k ⟨id,⟨b',hb',h0⟩,hk⟩=>by by_cases e:id=u;right;subst e;simp only[Ctx.allocO,if_true]at hk;omega;left;simp only[Ctx.allocO]at hb' hk;rw[az _ _ e]at hb';simp only[e,if_false]at hk;exact⟨id,⟨b',hb',h0⟩,hk⟩
 T:=fun _ h=>h
 Tnew:=fun _ h=>.inl h
 U:=fun _ h=>.inl h
 old:=fun id b' h1 hb'=>by have e:id≠u:=fun e=>hu (e▸h1);simp only[Ctx.allocO]at hb';rw[az _ _ e]at hb';exact⟨b',hb',azm _,fun _=>⟨by simp[Ctx.allocO,e],rfl,rfl,rfl⟩⟩
theorem ru(hg:Good C)(hu:¬C.U u)(hk:b.kind=2)(ho:ObjR C b.cs o):Good (C.allocO u o b):=by
 have he:=qj (C:=C) (u:=u) (o:=o) (b:=b) hg hu
 have h0:∀{id b'},(C.allocO u o b).η id=some b'->(id=u/\b'=b)\/(id≠u/\C.η id=some b'):=by
  intro id b' hb';simp only[Ctx.allocO]at hb';by_cases e:id=u;subst e;rw[aw]at hb';cases hb';exact .inl ⟨rfl,rfl⟩;rw[az _ _ e]at hb';exact .inr ⟨e,hb'⟩
 have h7:∀{id b'},C.η id=some b'->b'.kind≠1->(C.ρ id).1<C.w.heap.size:=fun hb' hk=>hg.lt ⟨_,hb',hk⟩;refine⟨?_,?_,?_,?_,?_,?_,?_⟩;intro id b' hb';rcases h0 hb' with⟨rfl,rfl⟩|⟨e,hb'⟩;exact .inr rfl;exact .inl (hg.used hb');intro id b' hb' h6;rcases h0 hb' with⟨rfl,rfl⟩|⟨e,hb'⟩;refine⟨o,?_,ho.mono hg he⟩;simp only[Ctx.allocO,if_true];exact heap_alloc_new C.w _;obtain⟨ob,h1,h2⟩:=hg.obj hb' h6;have e1:(C.allocO u o b).ρ id=C.ρ id:=by simp[Ctx.allocO,e]
 rw[e1];exact⟨ob,(Below.heap_alloc _ _ _ (h7 hb' (by rw[h6];decide))).trans h1,h2.mono hg he⟩;intro id b' hb' h6;rcases h0 hb' with⟨rfl,rfl⟩|⟨e,hb'⟩;rw[fo h6]at hk;cases hk;obtain⟨c,t',h1,h2,h3,h4⟩:=hg.blk hb' h6;have e1:(C.allocO u o b).ρ id=C.ρ id:=by simp[Ctx.allocO,e]
 rw[e1];exact⟨c,t',(Below.heap_alloc _ _ _ (h7 hb' (fh h6))).trans h1,h2,h3,fun j h h'=>(h4 j h h').mono hg he⟩;rintro id id' ⟨b1,hc,h8⟩ ⟨b2,hd,h9⟩ h;rcases h0 hc with⟨h1,_⟩|⟨e1,ha⟩<;>rcases h0 hd with⟨h2,_⟩|⟨e2,hb⟩;exact h1.trans h2.symm;have:=h7 hb h9
 simp only[Ctx.allocO,h1,if_true,e2,if_false]at h;omega;have:=h7 ha h8
 simp only[Ctx.allocO,h2,if_true,e1,if_false]at h;omega;simp only[Ctx.allocO,e1,e2,if_false]at h;exact hg.inj ⟨b1,ha,h8⟩ ⟨b2,hb,h9⟩ h;refine hg.tokE he.toFr0 fun k hk=>have:=hg.tlt (k:=k) hk;?_
 simp[Ctx.allocO];omega;rintro k ⟨id,⟨b',hb',h6⟩,hk⟩ hT;rcases h0 hb' with⟨rfl,rfl⟩|⟨e,hb'⟩;have:=hg.tlt (k:=k) hT
 simp only[Ctx.allocO,if_true]at hk;omega;simp only[Ctx.allocO,e,if_false]at hk;exact hg.apart ⟨id,⟨b',hb',h6⟩,hk⟩ hT;intro id b' hb' hf h6;rcases h0 hb' with⟨rfl,rfl⟩|⟨e,hb'⟩;rw[fo h6]at hk;cases hk;have e1:(C.allocO u o b).ρ id=C.ρ id:=by simp[Ctx.allocO,e]
 rw[e1];exact hg.tight hb' hf h6
def Ctx.setO(C:Ctx)(id:Nat)(b:Blk)(o:Obj):Ctx:=
 {C with η:=C.η.set id (some b),w:={C.w with heap:=C.w.heap.setIfInBounds (C.ρ id).1 o}}
variable{id:Nat}{b0:Blk}
theorem Rk{k:Nat}(h:k<w.heap.size):(w.heap.setIfInBounds k o)[k]? =some o:=by rw[Array.getElem?_setIfInBounds,azg rfl,azg h]
theorem wu{k j:Nat}(h:j≠k):(w.heap.setIfInBounds k o)[j]? =w.heap[j]?:=by rw[Array.getElem?_setIfInBounds,azf (fun e=>h e.symm)]
theorem uj(hg:Good C)(hb:C.η id=some b0)(h0:b0.kind=2)(hk:b.kind=2)(hv:b.ver=b0.ver)(hz:b.esz=b0.esz):Ev C (C.setO id b o) where
 os:=rfl
 tape:=rfl
 output:=rfl
 size:=by simp[Ctx.setO]
 keep:=fun k _ hm=>wu (fun e=>hm ⟨id,⟨b0,hb,by rw[h0];decide⟩,e.symm⟩)
 mine:=fun k ⟨id',⟨b',hb',h2⟩,h1⟩=>by left;by_cases e:id'=id;subst e;exact⟨id',⟨b0,hb,by rw[h0];decide⟩,h1⟩;simp only[Ctx.setO]at hb';rw[az _ _ e]at hb';exact⟨id',⟨b',hb',h2⟩,h1⟩
 T:=fun _ h=>h
 Tnew:=fun _ h=>.inl h
 U:=fun _ h=>h
 old:=fun id' b' hid hb'=>by simp only[Ctx.setO]at hb';by_cases e:id'=id;subst e;rw[aw]at hb';cases hb';exact⟨b0,hb,by omega,fun _=>⟨rfl,rfl,hk.trans h0.symm,hz⟩⟩;rw[az _ _ e]at hb';exact⟨b',hb',azm _,fun _=>⟨rfl,rfl,rfl,rfl⟩⟩
theorem wg(hg:Good C)(hb:C.η id=some b0)(h9:b0.kind=2)(hk:b.kind=2)(hv:b.ver=b0.ver)(hz:b.esz=b0.esz)(ho:ObjR C b.cs o):Good (C.setO id b o):=by
 have he:=uj (C:=C) (o:=o) hg hb h9 hk hv hz;have h5:C.live id:=⟨b0,hb,by rw[h9];decide⟩
 have h8:=hg.lt h5
 have h0:∀{id' b'},(C.setO id b o).η id'=some b'->(id'=id/\b'=b)\/(id'≠id/\C.η id'=some b'):=by
  intro id' b' hb';simp only[Ctx.setO]at hb';by_cases e:id'=id;subst e;rw[aw]at hb';cases hb';exact .inl ⟨rfl,rfl⟩;rw[az _ _ e]at hb';exact .inr ⟨e,hb'⟩
 have h7:∀{id' b'},(C.setO id b o).η id'=some b'->b'.kind≠1->C.live id':=by
  intro id' b' hb' h6;rcases h0 hb' with⟨rfl,rfl⟩|⟨_,h⟩;exact h5;exact⟨b',h,h6⟩
 have ha:∀{id' b'},id'≠id->C.η id'=some b'->b'.kind≠1->(C.ρ id').1≠(C.ρ id).1:=fun hi hb' h6 e=>hi (hg.inj ⟨_,hb',h6⟩ h5 e);refine⟨?_,?_,?_,?_,?_,?_,?_⟩;intro id' b' hb';rcases h0 hb' with⟨rfl,rfl⟩|⟨e,hb'⟩;exact hg.used hb;exact hg.used hb';intro id' b' hb' h6;rcases h0 hb' with⟨rfl,rfl⟩|⟨e,hb'⟩;exact⟨o,Rk h8,ho.mono hg he⟩;obtain⟨ob,h1,h2⟩:=hg.obj hb' h6;exact⟨ob,(wu (ha e hb' (by rw[h6];decide))).trans h1,h2.mono hg he⟩;intro id' b' hb' h6;rcases h0 hb' with⟨rfl,rfl⟩|⟨e,hb'⟩;rw[fo h6]at hk;cases hk;obtain⟨c,t',h1,h2,h3,h4⟩:=hg.blk hb' h6;exact⟨c,t',(wu (ha e hb' (fh h6))).trans h1,h2,h3,fun j h h'=>(h4 j h h').mono hg he⟩;rintro i i' ⟨b1,hc,hd⟩ ⟨b2,hf,hh⟩ h;exact hg.inj (h7 hc hd) (h7 hf hh) h;refine hg.tokE he.toFr0 fun k hk=>?_
 have:=hg.tlt (k:=k) hk;simpa[Ctx.setO]using this;rintro k ⟨i,⟨b',hb',h6⟩,hk⟩ hT;exact hg.apart ⟨i,h7 hb' h6,hk⟩ hT;intro id' b' hb' hj h6;rcases h0 hb' with⟨rfl,rfl⟩|⟨e,hb'⟩;rw[fo h6]at hk;cases hk;exact hg.tight hb' hj h6
end
def aca:List AV->Option (List (Value×AV×Nat))
 |[]=>some []
 |.agg [.v k,a,.v (.int .i64 (.ofNat n))]::l=>match aca l with
  |some r=>some ((k,a,n)::r)
  |none=>none
 |_=>none
theorem afx:∀(l:List AV) (es:List (Value×AV×Nat)),aca l=some es->l=es.map fun e=>.agg [.v e.1,e.2.1,.v (.int .i64 (Int.ofNat e.2.2))]:=by
 intro l
 induction l with
 |nil=>intro es h;simp only[aca,aza]at h;subst h;rfl
 |cons x l ih=>
  intro es h
  unfold aca at h
  split at h
  ·rename_i e;cases e
  ·rename_i k a n l' e
   obtain⟨rfl,rfl⟩:=List.cons.inj e
   split at h
   ·rename_i r hr
    simp only[aza]at h
    subst h
    rw[azw,<-ih _ hr]
   ·cases h
  ·cases h
def Qo:List AV->Option (Nat×List (Value×AV×Nat))
 |.v (.int .i64 (.ofNat 0))::.v (.int .i64 (.ofNat clock))::l=>match aca l with
  |some es=>some (clock,es)
  |none=>none
 |_=>none
theorem Yc(h:Qo cs=some (clock,es)):cs=mw clock es:=by unfold Qo at h;split at h;rename_i clock' l;split at h;rename_i es' he;simp only[aza,Prod.mk.injEq]at h;obtain⟨rfl,rfl⟩:=h;unfold mw;rw[<-afx _ _ he];rfl;cases h;cases h
def cj(ver esz clock:Nat)(es:List (Value×AV×Nat)):Blk:=⟨ver,mw clock es,esz,true⟩
theorem Gy:∀{es es':List (Value×AV×Nat)},(es.map fun e=>AV.agg [.v e.1,e.2.1,.v (.int .i64 (Int.ofNat e.2.2))])=(es'.map fun e=>.agg [.v e.1,e.2.1,.v (.int .i64 (Int.ofNat e.2.2))])->es=es'
 |[],[],_=>rfl
 |[],_::_,h=>by cases h
 |_::_,[],h=>by cases h
 |(k,a,n)::l,(k',a',n')::l',h=>by simp only[azw,List.cons.injEq,AV.agg.injEq,AV.v.injEq,Value.int.injEq,Int.ofNat.injEq,and_true,true_and]at h;obtain⟨⟨rfl,rfl,h3⟩,h4⟩:=h;have h0:n=n':=(by first|exact h3|exact Int.ofNat.inj h3|simpa using h3);subst h0;rw[Gy h4]
theorem ObjR.map_inv(h:ObjR C (mw clock es) o):∃entries,o=.map entries clock/\es.length=entries.size/\∀i (h:i<es.length) (h':i<entries.size),entries[i].key=es[i].1/\VR C es[i].2.1 entries[i].val/\entries[i].born=es[i].2.2:=by
 generalize hc:mw clock es=cs at h;cases h with
 |map hl hi=>
  rename_i es' entries clock'
  unfold mw at hc
  simp only[List.cons.injEq,AV.v.injEq,Value.int.injEq,true_and]at hc
  obtain⟨h1,h2⟩:=hc
  have h0:clock=clock':=Int.ofNat.inj h1
  subst h0
  obtain rfl:=Gy h2
  exact⟨entries,rfl,hl,hi⟩
 |siter=>exact absurd (List.cons.inj hc).1 (by simp)
 |miter0=>exact absurd (List.cons.inj hc).1 (by simp)
 |miter _=>exact absurd (List.cons.inj hc).1 (by simp)
def G0(η:bm)(id ver:Nat):Option (Blk×Nat×List (Value×AV×Nat)):=match η id with
 |some b=>bif Nat.beq b.ver ver&&b.nilp then(match Qo b.cs with
  |some (clock,es)=>some (b,clock,es)
  |none=>none)else none
 |none=>none
theorem y7{η:bm}{id:Nat}(h:G0 η id ver=some (b,clock,es)):η id=some b/\b=cj ver b.esz clock es:=by
 unfold G0 at h
 cases hb:η id with
 |none=>rw[hb]at h;cases h
 |some b'=>
  rw[hb]at h
  simp only at h
  cases hc:(Nat.beq b'.ver ver&&b'.nilp)with
  |false=>rw[hc]at h;simp at h
  |true=>
   rw[hc]at h
   simp only[cond_true]at h
   rw[az8]at hc
   split at h
   ·rename_i cl es' hm
    simp only[aza,Prod.mk.injEq]at h
    obtain⟨rfl,rfl,rfl⟩:=h
    refine⟨rfl,?_⟩
    obtain⟨v,cs,z,n⟩:=b'
    have e1:=ay9 hc.1
    have e2:=hc.2
    have e3:=Yc hm
    simp only at e1 e2 e3
    subst e1 e2 e3
    rfl
   ·cases h
theorem VR.mp_inv{id:Nat}{x:Value}(h:VR C (.mp id ver) x)(hb:C.η id=some b)(hv:b.ver=ver):x=.map (some (C.ρ id).1):=by
 cases h with
 |imm h=>cases h
 |mp _ _ _=>rfl
 |stalem _ _ hs=>have:=hs b hb;omega
theorem VR.it_inv{id:Nat}{x:Value}(h:VR C (.it id ver) x)(hb:C.η id=some b)(hv:b.ver=ver):x=.pointer (some ⟨(C.ρ id).1,0,none⟩):=by
 cases h with
 |imm h=>cases h
 |it _ _ _=>rfl
 |stalei _ _ hs=>have:=hs b hb;omega
theorem Ci :∀(s:Sem α) (f:α->Sem β) (b:β),fa P (s.bind f)=some b->∃a,fa P s=some a/\fa P (f a)=some b:=by
 intro s
 induction s with
 |pure a=>intro f b h;exact⟨a,rfl,h⟩
 |program k ih=>intro f b h;exact ih P f b h
 |mark m k ih=>intro f b h;exact ih f b h
 |choose q k ih=>
  intro f b h
  simp only[Sem.bind,fa]at h
  cases hq:q.forced with
  |false=>rw[hq]at h;simp at h
  |true=>
   rw[hq]at h
   simp only[cond_true]at h
   obtain⟨a,h1,h2⟩:=ih 0 f b h
   exact⟨a,by simp only[fa,hq,cond_true];exact h1,h2⟩
 |_=>intro f b h;simp[Sem.bind,fa]at h
def xd(es:List MapEntry)(i0:Nat)(r0 r1:Option (Nat×Value)):Prop:=match r0 with
 |none=>r1=none
 |some (i,_)=>∃j e,i=i0+j/\es[j]? =some e/\r1=some (i,e.val)
theorem x6{e:MapEntry}{es:List MapEntry}{i0:Nat}{r1:Option (Nat×Value)}(h:xd es (i0+1) r0 r1):xd (e::es) i0 r0 r1:=by
 unfold xd at h ⊢
 cases r0 with
 |none=>exact h
 |some q=>
  obtain⟨j,e',h1,h2,h3⟩:=h
  exact⟨j+1,e',by omega,by simpa using h2,h3⟩
theorem x8{kd:TypeDesc}{k:Value}:∀(es es':List MapEntry) (i:Nat) (r0:Option (Nat×Value)),es.map (·.key)=es'.map (·.key)->Instr.findNow kd k es i=some r0->∃r1,Instr.findNow kd k es' i=some r1/\xd es' i r0 r1
 |[],[],i,r0,_,h=>by
  simp only[Instr.findNow,aza]at h
  subst h
  exact⟨none,rfl,rfl⟩
 |[],_::_,_,_,hk,_=>by simp at hk
 |_::_,[],_,_,hk,_=>by simp at hk
 |e::es,e'::es',i,r0,hk,h=>by
  simp only[azw,List.cons.injEq]at hk
  simp only[Instr.findNow,hk.1]at h ⊢
  cases hs:Instr.sameNow kd k e'.key with
  |none=>rw[hs]at h;cases h
  |some b=>
   rw[hs]at h
   cases b with
   |true=>
    simp only[aza]at h
    subst h
    exact⟨_,rfl,0,e',rfl,rfl,rfl⟩
   |false=>
    obtain⟨r1,h1,h2⟩:=x8 es es' (i+1) r0 hk.2 h
    exact⟨r1,h1,x6 h2⟩
theorem x7{kd:TypeDesc}{k:Value}:∀(es es':List MapEntry) (i:Nat),es.map (·.key)=es'.map (·.key)->Instr.findNow kd k es i=none->Instr.findNow kd k es' i=none
 |[],[],i,_,h=>by simp[Instr.findNow]at h
 |[],_::_,_,hk,_=>by simp at hk
 |_::_,[],_,hk,_=>by simp at hk
 |e::es,e'::es',i,hk,h=>by
  simp only[azw,List.cons.injEq]at hk
  simp only[Instr.findNow,hk.1]at h ⊢
  cases hs:Instr.sameNow kd k e'.key with
  |none=>rfl
  |some b=>
   rw[hs]at h
   cases b with
   |true=>cases h
   |false=>exact x7 es es' (i+1) hk.2 h
theorem rg{P:Program}{kt:TypeId}{k:Value}:∀(es es':List MapEntry) (i:Nat) (r0:Option (Nat×Value)),es.map (·.key)=es'.map (·.key)->fa P (Instr.findAsking kt k es i)=some r0->∃r1,fa P (Instr.findAsking kt k es' i)=some r1/\xd es' i r0 r1
 |[],[],i,r0,_,h=>by
  have h':some (none:Option (Nat×Value))=some r0:=h
  simp only[aza]at h'
  subst h'
  exact⟨none,rfl,rfl⟩
 |[],_::_,_,_,hk,_=>by simp at hk
 |_::_,[],_,_,hk,_=>by simp at hk
 |e::es,e'::es',i,r0,hk,h=>by
  simp only[azw,List.cons.injEq]at hk
  simp only[Instr.findAsking]at h ⊢
  rw[hk.1]at h
  obtain⟨b,h1,h2⟩:=Ci _ _ _ h
  have up:∀(f g:Bool->Sem (Option (Nat×Value))) r1,fa P (g b)=some r1->fa P ((Op.equal kt k e'.key).bind g)=some r1:=by
   intro f g r1 hg
   have key:∀(s:Sem Bool) (b:Bool),fa P s=some b->fa P (g b)=some r1->fa P (s.bind g)=some r1:=by
    intro s
    induction s with
    |pure a=>intro b h hg;simp only[fa,aza]at h;subst h;exact hg
    |program k ih=>intro b h hg;exact ih P b h hg
    |mark m k ih=>intro b h hg;exact ih b h hg
    |choose q k ih=>
     intro b h hg
     simp only[Sem.bind,fa]at h ⊢
     cases hq:q.forced with
     |false=>rw[hq]at h;simp at h
     |true=>
      rw[hq]at h
      simp only[cond_true]at h ⊢
      exact ih 0 b h hg
    |_=>intro b h hg;simp[fa]at h
   exact key _ b h1 hg
  cases b with
  |true=>
   have h0:some (some (i,e.val))=some r0:=h2
   simp only[aza]at h0
   subst h0
   exact⟨some (i,e'.val),up (fun _=>.pure none) _ _ rfl,0,e',rfl,rfl,rfl⟩
  |false=>
   obtain⟨r1,g1,g2⟩:=rg es es' (i+1) r0 hk.2 h2
   exact⟨r1,up (fun _=>.pure none) _ _ g1,x6 g2⟩
theorem yi{t:TypeId}{d:TypeDesc}(h:fa P (underlying t)=some d):P.underlying t=some d:=by
 have h':fa P (match P.underlying t with|some d=>(pure d:Sem TypeDesc)|none=>stuck "no such type")=some d:=h
 cases hu:P.underlying t with
 |none=>rw[hu]at h';cases h'
 |some d'=>
  rw[hu]at h'
  have h'':some d'=some d:=h'
  exact h''
theorem x9{es es':List MapEntry}(hk:es.map (·.key)=es'.map (·.key))(h:fa P (Instr.findKey kt k es)=some r0)(w:World):∃r1,(Instr.findKey kt k es').run P w=.ok r1 w/\xd es' 0 r0 r1:=by
 unfold Instr.findKey at h ⊢;obtain⟨d,h1,h2⟩:=Ci _ _ _ h;have hu:=yi h1
 rw[Sem.run_bind,run_underlying hu];simp only[azq];cases hn:Instr.findNow d k es 0 with
 |some r=>
  rw[hn]at h2
  have h0:some r=some r0:=h2
  simp only[aza]at h0
  subst h0
  obtain⟨r1,g1,g2⟩:=x8 es es' 0 r hk hn
  rw[g1]
  exact⟨r1,rfl,g2⟩
 |none=>
  rw[hn]at h2
  rw[x7 es es' 0 hk hn]
  obtain⟨r1,g1,g2⟩:=rg es es' 0 r0 hk h2
  exact⟨r1,u6 _ _ g1 w,g2⟩
def l8(es:List (Value×AV×Nat)):List MapEntry:=es.map fun e=>⟨e.1,undef,e.2.2⟩
def B3(P:Program)(kt:TypeId)(k:Value)(es:List (Value×AV×Nat)):Option (Option Nat):=
 match fa P (Instr.checkKey es.isEmpty 10000 kt k)with
 |none=>none
 |some _=>match fa P (Instr.findKey kt k (l8 es))with
  |none=>none
  |some none=>some none
  |some (some (i,_))=>some (some i)
theorem ze{r:Option Nat}(hl:es.length=entries.size)(hi:∀i (h:i<es.length) (h':i<entries.size),entries[i].key=es[i].1/\VR C es[i].2.1 entries[i].val/\entries[i].born=es[i].2.2)
 (h:B3 P kt k es=some r)(w:World):(∀e,(Instr.checkKey e 10000 kt k).run P w=.ok () w\/e≠es.isEmpty)/\(r=none/\(Instr.findKey kt k entries.toList).run P w=.ok none w\/∃i,r=some i/\∃(h1:i<entries.size),(Instr.findKey kt k entries.toList).run P w=.ok (some (i,entries[i].val)) w):=by
 unfold B3 at h
 split at h
 ·cases h
 ·rename_i q hq
  have h3:=u6 _ _ hq w
  have h0:(l8 es).map (·.key)=entries.toList.map (·.key):=by apply List.ext_getElem;simp[l8,hl];intro i h1 h2;simp only[l8,aze]at h1;simp only[aze,Array.length_toList]at h2;simp[l8,(hi i h1 h2).1]
  refine⟨fun e=>?_,?_⟩
  ·by_cases he:e=es.isEmpty
   ·subst he;exact .inl h3
   ·exact .inr he
  ·split at h
   ·cases h
   ·rename_i hf
    simp only[aza]at h
    subst h
    obtain⟨r1,g1,g2⟩:=x9 h0 hf w
    have g2':r1=none:=g2
    subst g2'
    exact .inl ⟨rfl,g1⟩
   ·rename_i i v hf
    simp only[aza]at h
    subst h
    obtain⟨r1,g1,j,e,e1,e2,e3⟩:=x9 h0 hf w
    subst e3
    have e1':i=j:=by omega
    subst e1'
    rw[Array.getElem?_toList]at e2
    obtain⟨h4,he⟩:=Array.getElem?_eq_some_iff.1 e2
    subst he
    exact .inr ⟨i,rfl,h4,g1⟩
section
variable{P:Program}{τ:Nat->AV}{η:bm}{d:Option Tmp}{ty:TypeId}{pos:String}{af:Array Edge}{g:Option (Nat×Bool)}
theorem oz{r:Nat}{es:Array MapEntry}(h:w.heap[r]? =some (.map es clock)):(getObj r).run P w=.ok (.map es clock) w:=by simp[getObj,Sem.run,h]
theorem wv{r:Nat}{o':Obj}(h:w.heap[r]? =some o)(hn:∀c t f,o≠.cells c t f):(setObj r o').run P w=.ok () {w with heap:=w.heap.setIfInBounds r o'}:=by unfold setObj;unfold Sem.run;rw[h];cases o<;>first|rfl|(exact absurd rfl (hn _ _ _))
theorem Ce :(newObj o).run P w=.ok w.heap.size (w.alloc o):=rfl
theorem Gx(hg:Good C){id:Nat}(hb:C.η id=some b)(he:b=cj ver b.esz clock es):
 ∃entries,C.w.heap[(C.ρ id).1]? =some (.map entries clock)/\es.length=entries.size/\∀i (h:i<es.length) (h':i<entries.size),entries[i].key=es[i].1/\VR C es[i].2.1 entries[i].val/\entries[i].born=es[i].2.2:=by
 have hk:b.kind=2:=by rw[he];rfl
 obtain⟨o,h1,h2⟩:=hg.obj hb hk
 have h0:b.cs=mw clock es:=by rw[he];rfl
 rw[h0]at h2
 obtain⟨entries,rfl,h3,h4⟩:=h2.map_inv
 exact⟨entries,h1,h3,h4⟩
theorem LOp.makeMap(u:Nat) :LOp P ⟨d,.makeMap t none,ty,pos,af,g⟩ τ η [] [(u,some (cj 0 0 0 []))] (.mp u 0):=by intro C a hg hxs _ h0 K Q hK;have hu:¬C.U u:=h0 (u,some (cj 0 0 0 [])) (by simp) (by simp);have h1:(execOp a.eval ⟨d,.makeMap t none,ty,pos,af,g⟩).run P C.w=.ok (.value (.map (some C.w.heap.size))) (C.w.alloc (.map #[] 0)):=rfl;unfold Oper.wp;rw[h1];have h2:ObjR C (cj 0 0 0 []).cs (.map #[] 0):=ObjR.map (es:=[]) rfl (fun i h=>absurd h (by simp));refine hK _ (C.allocO u (.map #[] 0) (cj 0 0 0 [])) rfl (fun i=>by simp[Ctx.allocO]) (ru hg hu rfl h2) (qj hg hu) ?_;have:=VR.mp (C:=C.allocO u (.map #[] 0) (cj 0 0 0 [])) (id:=u) (ver:=0) (aw _ _ _) rfl rfl;have e:((C.allocO u (.map #[] 0) (cj 0 0 0 [])).ρ u).1=C.w.heap.size:=(by simp[Ctx.allocO]);rw[e]at this;exact this
def Zq(P:Program)(τ:Nat->AV)(η:bm)(u t:Nat)(x i:Operand)(ok:Bool):Option Rec:=
 match P.underlying t with
 |some (.map kt et)=>match aev τ i with
  |.v k=>match bp P et with
   |none=>none
   |some z=>match aev τ x with
    |.mp id ver=>match G0 η id ver with
     |none=>none
     |some (b,clock,es)=>match B3 P kt k es with
      |none=>none
      |some none=>some ⟨[id],[],bif ok then .tup [.v z,.v (.bool false)]else .v z,u⟩
      |some (some j)=>match es[j]? with
       |none=>none
       |some e=>some ⟨[id],[],bif ok then .tup [e.2.1,.v (.bool true)]else e.2.1,u⟩
    |.v (.map none)=>match B3 P kt k []with
     |some none=>some ⟨[],[],bif ok then .tup [.v z,.v (.bool false)]else .v z,u⟩
     |_=>none
    |_=>none
  |_=>none
 |_=>none
theorem E3{a b:AV}{x:Value}(h1:VR C a x)(h2:VR C b y):VR C (.tup [a,b]) (.tuple #[x,y]):=by
 refine .tup rfl (fun i h h'=>?_);match i,h with
 |0,_=>exact h1
 |1,_=>exact h2
theorem py(hz:bp P t=some z)(w:World):(zeroValue t).run P w=.ok z w:=by
 unfold bp at hz
 cases hi:P.info? t with
 |none=>rw[hi]at hz;cases hz
 |some inf=>
  rw[hi]at hz
  simp only[az6]at hz
  simp only[zeroValue,typeInfo,Sem.run_bind,run_program,hi,azr,azq,hz]
theorem Ox(hl:es.length=entries.size):entries.isEmpty=es.isEmpty:=by
 cases es with
 |nil=>simp only[azv]at hl;simp[Array.isEmpty,<-hl]
 |cons e l=>
  simp only[azu]at hl
  simp[Array.isEmpty,<-hl]
theorem Ml{ok:Bool}(h:Zq P τ η u t x i ok=some r):LOp P ⟨d,.lookup t x i ok,ty,pos,af,g⟩ τ η r.fp r.δ r.v:=by
 unfold Zq at h
 split at h
 ·rename_i kt et hu
  split at h
  ·rename_i k hk
   split at h
   ·cases h
   ·rename_i z hz
    split at h
    ·rename_i id ver hx
     split at h
     ·cases h
     ·rename_i b clock es hb
      obtain⟨h6,h3⟩:=y7 hb
      have main:∀(v:AV) (jr:Option Nat),B3 P kt k es=some jr->(jr=none->v=.v z)->(∀j,jr=some j->∃e,es[j]? =some e/\v=e.2.1)->
       LOp P ⟨d,.lookup t x i ok,ty,pos,af,g⟩ τ η [id] [] (bif ok then .tup [v,.v (.bool jr.isSome)]else v):=by
       intro v jr hf h0 h1
       refine .look [id] fun C a hg h2 h4=>?_
       have h5:C.η id=some b:=(h4 id (by simp)).trans h6
       have e1:=h2 x (by simp[Op.operands])
       have e2:=h2 i (by simp[Op.operands])
       rw[hx]at e1
       rw[hk]at e2
       have e1':=e1.mp_inv h5 (by rw[h3];rfl)
       have e2':=e2.v_inv
       obtain⟨entries,g1,g2,g3⟩:=Gx hg h5 h3
       obtain⟨c1,c2⟩:=ze g2 g3 hf C.w
       have c1':=(c1 entries.isEmpty).resolve_right (by rw[Ox g2];simp)
       rcases c2 with⟨rfl,hr⟩|⟨j,rfl,hj,hr⟩
       ·refine⟨if ok then .tuple #[z,.bool false]else z,by simp only[execOp,e1',e2',Instr.lookup,Sem.run_bind,run_underlying hu,azq,oz g1,azr,c1',hr,py hz],?_⟩
        rw[h0 rfl]
        cases ok with
        |true=>exact E3 (VR.v C _) (VR.v C _)
        |false=>exact VR.v C _
       ·obtain⟨e,he,rfl⟩:=h1 j rfl
        obtain⟨h7,rfl⟩:=az2.1 he
        refine⟨if ok then .tuple #[entries[j].val,.bool true]else entries[j].val,by simp only[execOp,e1',e2',Instr.lookup,Sem.run_bind,run_underlying hu,azq,oz g1,azr,c1',hr],?_⟩
        have hv:=(g3 j h7 hj).2.1
        cases ok with
        |true=>exact E3 hv (VR.v C _)
        |false=>exact hv
      split at h
      ·cases h
      ·rename_i hf
       simp only[aza]at h
       subst h
       exact main (.v z) none hf (fun _=>rfl) (fun j hj=>by cases hj)
      ·rename_i j hf
       split at h
       ·cases h
       ·rename_i e he
        simp only[aza]at h
        subst h
        exact main e.2.1 (some j) hf (fun hj=>by cases hj) (fun j' hj=>by cases hj;exact⟨e,he,rfl⟩)
    ·rename_i hx
     split at h
     ·rename_i hf
      simp only[aza]at h
      subst h
      refine .look [] fun C a hg h2 h4=>?_
      have e1:=h2 x (by simp[Op.operands])
      have e2:=h2 i (by simp[Op.operands])
      rw[hx]at e1
      rw[hk]at e2
      have e1':=e1.v_inv
      have e2':=e2.v_inv
      obtain⟨c1,c2⟩:=ze (C:=C) (es:=[]) (entries:=#[]) rfl (fun i h=>absurd h (by simp)) hf C.w
      have c1':=(c1 true).resolve_right (by simp)
      have hr:(Instr.findKey kt k []).run P C.w=.ok none C.w:=by
       rcases c2 with⟨_,hr⟩|⟨j,hj,_⟩
       ·exact hr
       ·cases hj
      refine⟨if ok then .tuple #[z,.bool false]else z,?_,?_⟩
      ·simp only[execOp,e1',e2',Instr.lookup,Sem.run_bind,run_underlying hu,azq,azr]
       have e0:(#[]:Array MapEntry).isEmpty=true:=rfl
       simp only[e0,c1',hr,azq,Sem.run_bind,py hz,azr]
      ·cases ok with
       |true=>exact E3 (VR.v C _) (VR.v C _)
       |false=>exact VR.v C _
     ·cases h
    ·cases h
  ·cases h
 ·cases h
theorem Dd{o:Oper}{id clock':Nat}{es':List (Value×AV×Nat)}{res:Value->Next}(h7:η id=some b)(h3:b=cj ver b.esz clock es)
 (h:∀(C:Ctx) (a:Act),Good C->(∀x∈o.op.operands,VR C (aev τ x) (a.eval x))->C.η id=some b->∀entries,C.w.heap[(C.ρ id).1]? =some (.map entries clock)->es.length=entries.size->(∀i (h:i<es.length) (h':i<entries.size),entries[i].key=es[i].1/\VR C es[i].2.1 entries[i].val/\entries[i].born=es[i].2.2)->
  ∃entries' nx,(execOp a.eval o).run P C.w=.ok nx {C.w with heap:=C.w.heap.setIfInBounds (C.ρ id).1 (.map entries' clock')}/\(nx=.skip/\v=.v undef\/∃x,nx=.value x/\VR C v x)/\es'.length=entries'.size/\(∀i (h:i<es'.length) (h':i<entries'.size),entries'[i].key=es'[i].1/\VR C es'[i].2.1 entries'[i].val/\entries'[i].born=es'[i].2.2)):
 LOp P o τ η [id] [(id,some (cj ver b.esz clock' es'))] v:=by
 intro C a hg h8 h9 _ K Q hK
 have h0:C.η id=some b:=(h9 id (by simp)).trans h7
 obtain⟨entries,g1,g2,g3⟩:=Gx hg h0 h3
 obtain⟨entries',nx,r1,r2,r3,r4⟩:=h C a hg h8 h0 entries g1 g2 g3
 have h5:b.kind=2:=by rw[h3];rfl
 have h1:(cj ver b.esz clock' es').ver=b.ver:=by rw[h3];rfl
 have h2:(cj ver b.esz clock' es').esz=b.esz:=rfl
 have h4:=uj (C:=C) (o:=.map entries' clock') (b:=cj ver b.esz clock' es') hg h0 h5 rfl h1 h2
 have h6:=wg (C:=C) (o:=.map entries' clock') (b:=cj ver b.esz clock' es') hg h0 h5 rfl h1 h2 (ObjR.map r3 r4)
 have hU:∀i,(C.setO id (cj ver b.esz clock' es') (.map entries' clock')).U i↔C.U i\/i∈[(id,some (cj ver b.esz clock' es'))].map (·.1):=fun i=>by simp[Ctx.setO];rintro rfl;exact hg.used h0
 unfold Oper.wp
 rw[r1]
 rcases r2 with⟨rfl,rfl⟩|⟨x,rfl,hx⟩
 ·exact hK undef _ rfl hU h6 h4 (VR.v _ _)
 ·exact hK x _ rfl hU h6 h4 (hx.mono hg h4)
def qm{α:Type}:List α->Nat->α->List α
 |[],_,_=>[]
 |_::l,0,a=>a::l
 |x::l,n+1,a=>x::qm l n a
theorem r6{α:Type}:∀(l:List α) (n:Nat) (a:α),(qm l n a).length=l.length
 |[],_,_=>rfl
 |_::l,0,a=>rfl
 |x::l,n+1,a=>by simp[qm,r6 l]
theorem Cd{α:Type}:∀(l:List α) (n:Nat) (a:α) (i:Nat) (h:i<(qm l n a).length),(qm l n a)[i]=if i=n then a else l[i]'(by rw[r6]at h;exact h)
 |[],_,_,i,h=>absurd h (by simp[qm])
 |x::l,0,a,0,h=>by simp[qm]
 |x::l,0,a,i+1,h=>by simp[qm]
 |x::l,n+1,a,0,h=>by simp[qm]
 |x::l,n+1,a,i+1,h=>by have:=Cd l n a i (by simpa[qm]using h);simp only[qm,List.getElem_cons_succ,this];by_cases e:i=n<;>simp[e]
def Jl(P:Program)(τ:Nat->AV)(η:bm)(u t:Nat)(m k x:Operand):Option Rec:=
 match P.underlying t with
 |some (.map kt et)=>match aev τ k with
  |.v key=>match aev τ m with
   |.mp id ver=>match G0 η id ver with
    |none=>none
    |some (b,clock,es)=>match fa P (Instr.checkKey false 10000 kt key)with
     |none=>none
     |some _=>match B3 P kt key es with
      |none=>none
      |some none=>some ⟨[id],[(id,some (cj ver b.esz (clock+1) (es++[(key,aev τ x,clock)])))],.v undef,u⟩
      |some (some j)=>match es[j]? with
       |none=>none
       |some e=>bif Instr.sameBits 10000 e.1 key then some ⟨[id],[(id,some (cj ver b.esz clock (qm es j (key,aev τ x,e.2.2))))],.v undef,u⟩else none
   |_=>none
  |_=>none
 |_=>none
theorem Ov{m k:Operand}{op:Op}(ha:op=.mapUpdate t m k x\/op=.insert t m k x)(h:Jl P τ η u t m k x=some r):LOp P ⟨d,op,ty,pos,af,g⟩ τ η r.fp r.δ r.v:=by
 unfold Jl at h
 split at h
 ·rename_i kt et hu
  split at h
  ·rename_i key hk
   split at h
   ·rename_i id ver hm
    split at h
    ·cases h
    ·rename_i b clock es hb
     obtain⟨hc,h6⟩:=y7 hb
     split at h
     ·cases h
     ·rename_i q hq
      have hd:∀(a:Act) (w:World),(execOp a.eval ⟨d,op,ty,pos,af,g⟩).run P w=((Instr.mapUpdate t (a.eval m) (a.eval k) (a.eval x)).run P w).andThen fun _ w=>.ok .skip w:=by
       intro a w
       rcases ha with rfl|rfl<;>simp only[execOp,Sem.run_bind]<;>rfl
      have h0:m∈op.operands/\k∈op.operands/\x∈op.operands:=by rcases ha with rfl|rfl<;>simp[Op.operands]
      have h3:(⟨d,op,ty,pos,af,g⟩:Oper).op.operands=op.operands:=rfl
      split at h
      ·cases h
      ·rename_i hf
       simp only[aza]at h
       subst h
       refine Dd (res:=.value) hc h6 fun C a hg h4 h7 entries g1 g2 g3=>?_
       have e1:=h4 m (by rw[h3];exact h0.1)
       have e2:=h4 k (by rw[h3];exact h0.2.1)
       have e3:=h4 x (by rw[h3];exact h0.2.2)
       rw[hm]at e1
       rw[hk]at e2
       have e1':=e1.mp_inv h7 (by rw[h6];rfl)
       have e2':=e2.v_inv
       obtain⟨_,c2⟩:=ze g2 g3 hf C.w
       have hr:(Instr.findKey kt key entries.toList).run P C.w=.ok none C.w:=by
        rcases c2 with⟨_,hr⟩|⟨j,hj,_⟩
        ·exact hr
        ·cases hj
       refine⟨entries.push {key,val:=a.eval x,born:=clock},.skip,?_,.inl ⟨rfl,rfl⟩,by simp[g2],fun i h1 h2=>?_⟩
       ·rw[hd,e1',e2']
        simp only[Instr.mapUpdate,Sem.run_bind,run_underlying hu,azq,oz g1,u6 _ _ hq,hr,wv g1 (fun _ _ _ e=>by cases e)]
       ·by_cases hi:i<es.length
        ·have hl:i<entries.size:=by omega
         have q1:(es++[(key,aev τ x,clock)])[i]=es[i]:=List.getElem_append_left hi
         have q2:(entries.push {key,val:=a.eval x,born:=clock})[i]=entries[i]:=Array.getElem_push_lt hl
         rw[q1,q2]
         exact g3 i hi hl
        ·have ho:i=es.length:=by simp at h1;omega
         subst ho
         have q1:(es++[(key,aev τ x,clock)])[es.length]=(key,aev τ x,clock):=by simp
         have q2:(entries.push {key,val:=a.eval x,born:=clock})[es.length]={key,val:=a.eval x,born:=clock}:=by simp[g2]
         rw[q1,q2]
         exact⟨rfl,e3,rfl⟩
      ·rename_i j hf
       split at h
       ·cases h
       ·rename_i e he
        cases hs:Instr.sameBits 10000 e.1 key with
        |false=>rw[hs]at h;simp at h
        |true=>
         rw[hs]at h
         simp only[cond_true,aza]at h
         subst h
         refine Dd (res:=.value) hc h6 fun C a hg h4 h7 entries g1 g2 g3=>?_
         have e1:=h4 m (by rw[h3];exact h0.1)
         have e2:=h4 k (by rw[h3];exact h0.2.1)
         have e3:=h4 x (by rw[h3];exact h0.2.2)
         rw[hm]at e1
         rw[hk]at e2
         have e1':=e1.mp_inv h7 (by rw[h6];rfl)
         have e2':=e2.v_inv
         obtain⟨_,c2⟩:=ze g2 g3 hf C.w
         obtain⟨hn,rfl⟩:=az2.1 he
         have hj:j<entries.size:=by omega
         have hr:(Instr.findKey kt key entries.toList).run P C.w=.ok (some (j,entries[j].val)) C.w:=by
          rcases c2 with⟨hh,_⟩|⟨j',hh,_,hr⟩
          ·cases hh
          ·cases hh;exact hr
         refine⟨entries.modify j fun e=>{e with key,val:=a.eval x},.skip,?_,.inl ⟨rfl,rfl⟩,by rw[r6];simp[g2],fun i h1 h2=>?_⟩
         ·have h8:((entries[j]?).map (·.key)).getD key=es[j].1:=by
           rw[Array.getElem?_eq_getElem hj]
           exact(g3 j hn hj).1
          have h5:∀w:World,(Instr.keyThatStays (((entries[j]?).map (·.key)).getD key) key).run P w=.ok key w:=fun w=>by
           rw[h8]
           simp only[Instr.keyThatStays,hs,if_true]
           rfl
          rw[hd,e1',e2']
          simp only[Instr.mapUpdate,Sem.run_bind,run_underlying hu,azq,oz g1,u6 _ _ hq,hr,h5,wv g1 (fun _ _ _ e=>by cases e)]
         ·have hp:i<es.length:=by rw[r6]at h1;exact h1
          have ht:i<entries.size:=by simpa using h2
          rw[Cd,Array.getElem_modify]
          by_cases h9:i=j
          ·subst h9
           simp only[if_true]
           exact⟨trivial,e3,(g3 i hn hj).2.2⟩
          ·rw[azf h9,azf (fun e=>h9 e.symm)]
           exact g3 i hp ht
   ·cases h
  ·cases h
 ·cases h
end
inductive All2{α β:Type}(R:α->β->Prop):List α->List β->Prop where
 |nil:All2 R [] []
 |cons {a:α} {b:β} {l:List α} {m:List β}:R a b->All2 R l m->All2 R (a :: l) (b :: m)
theorem All2.of_idx{α β:Type}{R:α->β->Prop}:∀{l:List α} {m:List β},l.length=m.length->(∀i (h:i<l.length) (h':i<m.length),R l[i] m[i])->All2 R l m
 |[],[],_,_=>.nil
 |[],_::_,h,_=>by simp at h
 |_::_,[],h,_=>by simp at h
 |a::l,b::m,h,hi=>.cons (hi 0 (by simp) (by simp)) (All2.of_idx (by simpa using h) (fun i h1 h2=>hi (i+1) (by simpa using h1) (by simpa using h2)))
theorem All2.filter{R:α->β->Prop}{p:α->Bool}{q:β->Bool}(h0:∀a b,R a b->p a=q b){l:List α}{m:List β}(h:All2 R l m):All2 R (l.filter p) (m.filter q):=by
 induction h with
 |nil=>exact .nil
 |cons hr _ ih=>
  rename_i a b l m _
  rw[List.filter_cons,List.filter_cons,h0 a b hr]
  split
  ·exact .cons hr ih
  ·exact ih
theorem All2.all{R:α->β->Prop}{p:α->Bool}{q:β->Bool}(h0:∀a b,R a b->p a=q b){l:List α}{m:List β}(h:All2 R l m):l.all p=m.all q:=by
 induction h with
 |nil=>rfl
 |cons hr _ ih=>rw[List.all_cons,List.all_cons,h0 _ _ hr,ih]
theorem All2.isEmpty{R:α->β->Prop}{l:List α}{m:List β}(h:All2 R l m):l.isEmpty=m.isEmpty:=by cases h<;>rfl
def um:List AV->Option (List Nat)
 |[]=>some []
 |.v (.int .i64 (.ofNat n))::l=>match um l with
  |some r=>some (n::r)
  |none=>none
 |_=>none
theorem Qn:∀(l:List AV) (ns:List Nat),um l=some ns->l=ns.map fun n=>.v (.int .i64 (Int.ofNat n)):=by
 intro l
 induction l with
 |nil=>intro ns h;simp only[um,aza]at h;subst h;rfl
 |cons x l ih=>
  intro ns h
  unfold um at h
  split at h
  ·rename_i e;cases e
  ·rename_i n l' e
   obtain⟨rfl,rfl⟩:=List.cons.inj e
   split at h
   ·rename_i r hr
    simp only[aza]at h
    subst h
    rw[azw,<-ih _ hr]
   ·cases h
  ·cases h
def Ll(ver esz:Nat)(s:ByteArray)(pos:Nat):Blk:=⟨ver,pv s pos,esz,true⟩
def di(ver esz:Nat)(m:AV)(since:Nat)(seen:List Nat)(last:Nat):Blk:=⟨ver,ii m since seen last,esz,true⟩
inductive Iter where
 |txt (s:ByteArray) (pos:Nat)
 |ofm (id ver since:Nat) (seen:List Nat) (last:Nat)
def Iter.blk(ver esz:Nat):Iter->Blk
 |.txt s pos=>Ll ver esz s pos
 |.ofm id v since seen last=>di ver esz (.mp id v) since seen last
def Fu:List AV->Option Iter
 |[.v (.int .i64 (.ofNat 1)),.v (.string s),.v (.int .i64 (.ofNat pos))]=>some (.txt s pos)
 |.v (.int .i64 (.ofNat 2))::.mp id v::.v (.int .i64 (.ofNat since))::.v (.int .i64 (.ofNat last))::l=>match um l with
  |some seen=>some (.ofm id v since seen last)
  |none=>none
 |_=>none
theorem Qp{i:Iter}(h:Fu cs=some i)(ver esz:Nat):(⟨ver,cs,esz,true⟩:Blk)=i.blk ver esz:=by unfold Fu at h;split at h;simp only[aza]at h;subst h;rfl;split at h;rename_i seen hs;simp only[aza]at h;subst h;simp only[Iter.blk,di,ii];rw[<-Qn _ _ hs];rfl;cases h;cases h
def To(η:bm)(id ver:Nat):Option (Blk×Iter):=match η id with
 |some b=>bif Nat.beq b.ver ver&&b.nilp then(match Fu b.cs with
  |some i=>some (b,i)
  |none=>none)else none
 |none=>none
theorem Zs{η:bm}{id:Nat}{i:Iter}(h:To η id ver=some (b,i)):η id=some b/\b=i.blk ver b.esz:=by
 unfold To at h
 cases hb:η id with
 |none=>rw[hb]at h;cases h
 |some b'=>
  rw[hb]at h
  simp only at h
  cases hc:(Nat.beq b'.ver ver&&b'.nilp)with
  |false=>rw[hc]at h;simp at h
  |true=>
   rw[hc]at h
   simp only[cond_true]at h
   rw[az8]at hc
   split at h
   ·rename_i i' hm
    simp only[aza,Prod.mk.injEq]at h
    obtain⟨rfl,rfl⟩:=h
    refine⟨rfl,?_⟩
    obtain⟨v,cs,z,n⟩:=b'
    have e1:=ay9 hc.1
    have e2:=hc.2
    simp only at e1 e2 hm
    subst e1 e2
    exact Qp hm _ _
   ·cases h
theorem ObjR.siter_inv{s:ByteArray}{pos:Nat}(h:ObjR C (pv s pos) o):o=.stringIter s pos:=by
 generalize hc:pv s pos=cs at h
 cases h with
 |map _ _=>exact absurd (List.cons.inj hc).1 (by simp)
 |siter=>
  simp only[pv,List.cons.injEq,AV.v.injEq,Value.string.injEq,Value.int.injEq,Int.ofNat.injEq,true_and,and_true]at hc
  obtain⟨rfl,h2⟩:=hc
  subst h2
  rfl
 |miter0=>exact absurd (List.cons.inj hc).1 (by simp)
 |miter _=>exact absurd (List.cons.inj hc).1 (by simp)
theorem Ma:∀{a b:List Nat},(a.map fun n=>AV.v (.int .i64 (Int.ofNat n)))=(b.map fun n=>.v (.int .i64 (Int.ofNat n)))->a=b
 |[],[],_=>rfl
 |[],_::_,h=>by cases h
 |_::_,[],h=>by cases h
 |n::a,m::b,h=>by simp only[azw,List.cons.injEq,AV.v.injEq,Value.int.injEq,true_and]at h;have h1:n=m:=Int.ofNat.inj h.1;rw[h1,Ma h.2]
theorem ObjR.miter_inv{id since last:Nat}{seen:List Nat}(h:ObjR C (ii (.mp id ver) since seen last) o):∃m,o=.mapIter (some m) since seen.toArray last/\VR C (.mp id ver) (.map (some m)):=by
 generalize hc:ii (.mp id ver) since seen last=cs at h
 cases h with
 |map _ _=>exact absurd (List.cons.inj hc).1 (by simp)
 |siter=>exact absurd (List.cons.inj hc).1 (by simp)
 |miter0=>exact absurd (List.cons.inj (List.cons.inj hc).2).1 (by simp)
 |miter hv=>
  simp only[ii,List.cons.injEq,AV.v.injEq,Value.int.injEq,true_and]at hc
  obtain⟨rfl,h1,h2,h3⟩:=hc
  have e1:=Int.ofNat.inj h1
  have e2:=Int.ofNat.inj h2
  subst e1 e2
  obtain rfl:=Ma h3
  exact⟨_,rfl,hv⟩
section
variable{P:Program}{τ:Nat->AV}{η:bm}{d:Option Tmp}{ty:TypeId}{pos:String}{af:Array Edge}{g:Option (Nat×Bool)}
def Rz(P:Program)(τ:Nat->AV)(η:bm)(u t:Nat)(x:Operand):Option Rec:=match P.underlying t with
 |some .string=>match aev τ x with
  |.v (.string s)=>some ⟨[],[(u,some (Ll 0 0 s 0))],.it u 0,u+1⟩
  |_=>none
 |some (.map _ _)=>match aev τ x with
  |.mp id ver=>match G0 η id ver with
   |some (b,clock,es)=>bif Nat.beq id u then none else some ⟨[id],[(u,some (di 0 0 (.mp id ver) clock [] clock))],.it u 0,u+1⟩
   |none=>none
  |_=>none
 |_=>none
theorem Ry(h:Rz P τ η u t x=some r):LOp P ⟨d,.range t x,ty,pos,af,g⟩ τ η r.fp r.δ r.v:=by
 have main:∀(fp:List Nat) (b:Blk),u∉fp->b.kind=2->b.ver=0->(∀(C:Ctx) (a:Act),Good C->(∀x'∈(Op.range t x).operands,VR C (aev τ x') (a.eval x'))->(∀id∈fp,C.η id=η id)->∃o,ObjR C b.cs o/\(execOp a.eval ⟨d,.range t x,ty,pos,af,g⟩).run P C.w=.ok (.value (.pointer (some ⟨C.w.heap.size,0,none⟩))) (C.w.alloc o))->
  LOp P ⟨d,.range t x,ty,pos,af,g⟩ τ η fp [(u,some b)] (.it u 0):=by
  intro fp b h3 hk hv h7 C a hg h0 h1 h4 K Q hK
  have hu:¬C.U u:=h4 (u,some b) (by simp) h3
  obtain⟨o,ho,hr⟩:=h7 C a hg h0 h1
  unfold Oper.wp
  rw[hr]
  refine hK _ (C.allocO u o b) rfl (fun i=>by simp[Ctx.allocO]) (ru hg hu hk ho) (qj hg hu) ?_
  have:=VR.it (C:=C.allocO u o b) (id:=u) (ver:=0) (aw _ _ _) hv hk
  have e:((C.allocO u o b).ρ u).1=C.w.heap.size:=by simp[Ctx.allocO]
  rw[e]at this
  exact this
 unfold Rz at h
 split at h
 ·rename_i hu
  split at h
  ·rename_i s hx
   simp only[aza]at h
   subst h
   refine main [] _ (by simp) rfl rfl fun C a hg h0 h1=>⟨.stringIter s 0,.siter,?_⟩
   have e1:=h0 x (by simp[Op.operands])
   rw[hx]at e1
   have e1':=e1.v_inv
   simp only[execOp,e1',Instr.range,Sem.run_bind,run_underlying hu,azq,azr,Ce]
  ·cases h
 ·rename_i kt et hu
  split at h
  ·rename_i id ver hx
   split at h
   ·rename_i b clock es hb
    obtain⟨h8,h5⟩:=y7 hb
    cases h2:Nat.beq id u with
    |true=>rw[h2]at h;simp at h
    |false=>
     rw[h2]at h
     simp only[cond_false,aza]at h
     subst h
     refine main [id] _ (by simp;intro e;rw[e,Nat.beq_refl]at h2;cases h2) rfl rfl fun C a hg h0 h1=>?_
     have h6:C.η id=some b:=(h1 id (by simp)).trans h8
     have e1:=h0 x (by simp[Op.operands])
     rw[hx]at e1
     have e1':=e1.mp_inv h6 (by rw[h5];rfl)
     obtain⟨entries,g1,g2,g3⟩:=Gx hg h6 h5
     rw[e1']at e1
     refine⟨.mapIter (some (C.ρ id).1) clock #[] clock,.miter (seen:=[]) e1,?_⟩
     simp only[execOp,e1',Instr.range,Sem.run_bind,run_underlying hu,azq,oz g1,azr,Ce]
   ·cases h
  ·cases h
 ·cases h
theorem atd{a b c:AV}{x:Value}(h1:VR C a x)(h2:VR C b y)(h3:VR C c z):VR C (.tup [a,b,c]) (.tuple #[x,y,z]):=by
 refine .tup rfl (fun i h h'=>?_);match i,h with
 |0,_=>exact h1
 |1,_=>exact h2
 |2,_=>exact h3
theorem aku{a:AV}{x:Value}(h1:VR C a x):VR C (.tup [a]) (.tuple #[x]):=by
 refine .tup rfl (fun i h h'=>?_);match i,h with
 |0,_=>exact h1
theorem p6{r:Nat}(h:w.heap[r]? =some o)(hn:∀c t f,o≠.cells c t f):(getObj r).run P w=.ok o w:=by unfold getObj;unfold Sem.run;rw[h];cases o<;>first|rfl|(exact absurd rfl (hn _ _ _))
end
section
variable{P:Program}{τ:Nat->AV}{η:bm}{d:Option Tmp}{ty:TypeId}{pos:String}{af:Array Edge}{g:Option (Nat×Bool)}
def Sg(P:Program)(t:Nat)(cs:List AV)(off:Nat):Option AV:=match ey P t with
 |none=>none
 |some none=>cs[off]?
 |some (some n)=>match ij off n cs with
  |some ds=>some (.agg ds)
  |none=>none
theorem Ly{off:Nat}(h:Sg P t cs off=some v){vs:Array Value}(hl:cs.length=vs.size)(hi:∀i (h:i<cs.length) (h':i<vs.size),VR C cs[i] vs[i])(w:World):∃x,(part t vs off).run P w=.ok x w/\VR C v x:=by
 unfold Sg at h
 split at h
 ·cases h
 ·rename_i hr
  obtain⟨h3,rfl⟩:=az2.1 h
  refine⟨vs[off]'(by omega),?_,hi off h3 (by omega)⟩
  unfold ey at hr
  cases hu:P.underlying t with
  |none=>rw[hu]at hr;cases h0:P.info? t<;>rw[h0]at hr<;>cases hr
  |some dd=>
   rw[hu]at hr
   have hv:vs[off]? =some (vs[off]'(by omega)):=Array.getElem?_eq_getElem (by omega)
   cases dd<;>first
    |(simp[part,isAgg,Sem.run_bind,run_underlying hu,hv];done)
    |(cases h0:P.info? t<;>rw[h0]at hr<;>simp at hr)
 ·rename_i n hr
  split at h
  ·rename_i ds hd
   simp only[aza]at h
   subst h
   obtain⟨hle,rfl⟩:=ks _ _ _ _ hd
   refine⟨.agg (vs.extract off (off+n)),?_,.agg (by simp;omega) (fun i h1 h2=>?_)⟩
   ·unfold ey at hr
    cases hu:P.underlying t with
    |none=>rw[hu]at hr;cases h0:P.info? t<;>rw[h0]at hr<;>cases hr
    |some dd=>
     rw[hu]at hr
     cases dd<;>first
      |(
       cases h0:P.info? t with
       |none=>rw[h0]at hr;cases hr
       |some inf=>
        rw[h0]at hr
        simp only[aza]at hr
        subst hr
        simp[part,isAgg,sizeOf,typeInfo,Sem.run_bind,run_underlying hu,run_program,h0];done)
      |(cases h0:P.info? t<;>rw[h0]at hr<;>simp at hr)
   ·have h1':i<n:=by simp at h1;omega
    simp only[List.getElem_take,List.getElem_drop,Array.getElem_extract]
    exact hi _ (by omega) (by omega)
  ·cases h
def Jw(P:Program)(t i:Nat):Option (Nat×Nat):=match P.underlying t with
 |some (.struct fs)=>(fs[i]?).map fun f=>(f.offset,f.type)
 |_=>none
def Us(P:Program)(τ:Nat->AV)(u t:Nat)(x:Operand)(i:Nat):Option Rec:=match Jw P t i with
 |none=>none
 |some (off,ft)=>match aev τ x with
  |.agg cs=>match Sg P ft cs off with
   |some v=>some ⟨[],[],v,u⟩
   |none=>none
  |_=>none
theorem Ur{i:Nat}(h:Us P τ u t x i=some r):LOp P ⟨d,.field t x i,ty,pos,af,g⟩ τ η r.fp r.δ r.v:=by
 unfold Us at h
 split at h
 ·cases h
 ·rename_i off ft hf
  split at h
  ·rename_i cs hx
   split at h
   ·rename_i v hv
    simp only[aza]at h
    subst h
    refine .look [] fun C a hg h1 _=>?_
    have e1:=h1 x (by simp[Op.operands])
    rw[hx]at e1
    obtain⟨vs,e2,e3,e4⟩:=e1.agg_inv
    obtain⟨y,hy,h2⟩:=Ly hv e3 e4 C.w
    refine⟨y,?_,h2⟩
    unfold Jw at hf
    split at hf
    ·rename_i fs hu
     cases h0:fs[i]? with
     |none=>rw[h0]at hf;cases hf
     |some f=>
      rw[h0]at hf
      simp only[az5,aza,Prod.mk.injEq]at hf
      obtain⟨rfl,rfl⟩:=hf
      simp only[execOp,e2,Instr.field,Sem.run_bind,run_underlying hu,azq,h0,asAgg,azr,hy]
    ·cases hf
   ·cases h
  ·cases h
def adm(P:Program)(τ:Nat->AV)(u t:Nat)(x i:Operand):Option Rec:=match P.underlying t with
 |some (.array len e)=>match aj P e with
  |none=>none
  |some n=>match aev τ i with
   |.v (.int k (.ofNat j))=>bif Nat.blt j len then(match aev τ x with
    |.agg cs=>match Sg P e cs (j*n)with
     |some v=>some ⟨[],[],v,u⟩
     |none=>none
    |_=>none)else none
   |_=>none
 |_=>none
theorem vi(h:adm P τ u t x i=some r):LOp P ⟨d,.index t x i,ty,pos,af,g⟩ τ η r.fp r.δ r.v:=by
 unfold adm at h
 split at h
 ·rename_i len e hu
  split at h
  ·cases h
  ·rename_i n hs
   split at h
   ·rename_i k j hi
    cases h0:Nat.blt j len with
    |false=>rw[h0]at h;simp at h
    |true=>
     rw[h0]at h
     simp only[cond_true]at h
     have h1:j<len:=by simpa using h0
     split at h
     ·rename_i cs hx
      split at h
      ·rename_i v hv
       simp only[aza]at h
       subst h
       refine .look [] fun C a hg h3 _=>?_
       have e1:=h3 x (by simp[Op.operands])
       have e0:=h3 i (by simp[Op.operands])
       rw[hx]at e1
       rw[hi]at e0
       have e0':=e0.v_inv
       obtain⟨vs,e2,e3,e4⟩:=e1.agg_inv
       obtain⟨y,hy,h4⟩:=Ly hv e3 e4 C.w
       refine⟨y,?_,h4⟩
       unfold aj at hs
       cases h2:P.info? e with
       |none=>rw[h2]at hs;cases hs
       |some inf=>
        rw[h2]at hs
        simp only[az5,aza]at hs
        subst hs
        have c1:(0:Int)<=Int.ofNat j/\Int.ofNat j<(len:Int):=⟨by simp,by simp;exact_mod_cast h1⟩
        have c2:(Int.ofNat j).toNat=j:=rfl
        simp only[execOp,e2,e0',Instr.index,asIntOf,Sem.run_bind,azr,azq,run_underlying hu,c1,and_self,if_true,sizeOf,typeInfo,run_program,h2,c2,hy]
      ·cases h
     ·cases h
   ·cases h
 ·cases h
def yj(τ:Nat->AV)(dflt:Nat):Option Operand->Option Nat
 |none=>some dflt
 |some x=>match aev τ x with
  |.v (.int _ (.ofNat n))=>some n
  |_=>none
def s4(P:Program)(τ:Nat->AV)(η:bm)(u t:Nat)(x:Operand)(lo hi:Option Operand):Option Rec:=match P.underlying t with
 |some (.slice e)=>match aj P e with
  |none=>none
  |some n=>match aev τ x with
   |.sl id ver off len=>match xb η id ver with
    |none=>none
    |some b=>match yj τ 0 lo with
     |none=>none
     |some l=>match yj τ len hi with
      |none=>none
      |some h=>bif Nat.ble l h&&Nat.ble h len&&Nat.beq b.esz n then some ⟨[id],[],.sl id ver (off+l*n) (h-l),u⟩else none
   |.tree m rows=>match yj τ 0 lo with
    |none=>none
    |some l=>match yj τ rows.length hi with
     |none=>none
     |some h=>bif Nat.ble l h&&Nat.ble h rows.length&&Nat.beq m n then some ⟨[],[],.tree m ((rows.drop l).take (h-l)),u⟩else none
   |_=>none
 |_=>none
theorem ww{len cap l h:Nat}(h5:∀x,lo=some x->∃k,a.eval x=.int k (Int.ofNat l))(h3:lo=none->l=0)(h4:∀x,hi=some x->∃k,a.eval x=.int k (Int.ofNat h))(h0:hi=none->h=len)(h1:l<=h)(h2:h<=cap):
 (Instr.sliceBounds true len cap (lo.map a.eval) (hi.map a.eval) none).run P w=.ok (l,h,cap) w:=by
 have hb:∀(k:IntKind) (n y:Nat) (code:BoundsCode),n<=y->(Instr.sliceBound (.int k (Int.ofNat n)) y code).run P w=.ok n w:=by intro k n y code hn;have c1:(0:Int)<=Int.ofNat n/\Int.ofNat n<=(y:Int):=⟨by simp,by simp;exact_mod_cast hn⟩;simp only[Instr.sliceBound,asIntOf,Sem.run_bind,azr,azq,c1,and_self,if_true];rfl
 cases lo with
 |none=>
  have:=h3 rfl
  subst this
  cases hi with
  |none=>
   have:=h0 rfl
   subst this
   simp only[Instr.sliceBounds,Option.map_none,Sem.run_bind,azr,azq]
  |some y=>
   obtain⟨k,e⟩:=h4 y rfl
   simp only[Instr.sliceBounds,az5,Option.map_none,Sem.run_bind,e,hb _ _ _ _ h2,azr,azq]
 |some x=>
  obtain⟨k,e⟩:=h5 x rfl
  cases hi with
  |none=>
   have:=h0 rfl
   subst this
   simp only[Instr.sliceBounds,az5,Option.map_none,Sem.run_bind,e,hb _ _ _ _ h1,azr,azq]
  |some y=>
   obtain⟨k',e'⟩:=h4 y rfl
   simp only[Instr.sliceBounds,az5,Option.map_none,Sem.run_bind,e,e',hb _ _ _ _ h1,hb _ _ _ _ h2,azr,azq]
theorem Mb{dflt:Nat}{x:Option Operand}(h:yj τ dflt x=some n):(x=none->n=dflt)/\∀y,x=some y->∃k,aev τ y=.v (.int k (Int.ofNat n)):=by unfold yj at h;split at h;simp only[aza]at h;exact⟨fun _=>h.symm,fun y hy=>by cases hy⟩;rename_i y;split at h;rename_i k m hy;simp only[aza]at h;subst h;exact⟨fun e=>(by cases e),fun y' e=>(by cases e;exact⟨k,hy⟩)⟩;cases h
theorem tj{e:Nat}(hu:P.underlying t=some (.slice e))(hs:aj P e=some n){ad:Option Addr}{len cap l h:Nat}(hb:(Instr.sliceBounds true len cap (lo.map a.eval) (hi.map a.eval) none).run P w=.ok (l,h,cap) w):
 (Instr.sliceAt t (.slice ad len cap) (lo.map a.eval) (hi.map a.eval) none).run P w=.ok (.slice (if cap=l then ad else ad.map (·.add (l*n))) (h-l) (cap-l)) w:=by
 unfold aj at hs
 cases h0:P.info? e with
 |none=>rw[h0]at hs;cases hs
 |some inf=>
  rw[h0]at hs
  simp only[az5,aza]at hs
  subst hs
  simp only[Instr.sliceAt,Instr.slice,Sem.run_bind,run_underlying hu,azq,hb,sizeOf,typeInfo,run_program,h0,azr]
theorem uz(h:s4 P τ η u t x lo hi=some r):LOp P ⟨d,.slice t x lo hi none,ty,pos,af,g⟩ τ η r.fp r.δ r.v:=by
 unfold s4 at h
 split at h
 ·rename_i e hu
  split at h
  ·cases h
  ·rename_i n hs
   have h5:∀{C:Ctx} {a:Act} {l h:Nat} {d0:Nat} {d1:Nat},(∀x'∈(Op.slice t x lo hi none).operands,VR C (aev τ x') (a.eval x'))->yj τ d0 lo=some l->yj τ d1 hi=some h->
    (∀y,lo=some y->∃k,a.eval y=.int k (Int.ofNat l))/\(lo=none->l=d0)/\(∀y,hi=some y->∃k,a.eval y=.int k (Int.ofNat h))/\(hi=none->h=d1):=by
    intro C a l h d0 d1 h3 h1 h2
    obtain⟨p1,p2⟩:=Mb h1
    obtain⟨q1,q2⟩:=Mb h2
    refine⟨fun y hy=>?_,p1,fun y hy=>?_,q1⟩
    ·obtain⟨k,hk⟩:=p2 y hy
     have:=h3 y (by subst hy;simp[Op.operands])
     rw[hk]at this
     exact⟨k,this.v_inv⟩
    ·obtain⟨k,hk⟩:=q2 y hy
     have:=h3 y (by subst hy;simp[Op.operands])
     rw[hk]at this
     exact⟨k,this.v_inv⟩
   split at h
   ·rename_i id ver off len hx
    split at h
    ·cases h
    ·rename_i b hb
     obtain⟨b1,b2,b3⟩:=oa hb
     split at h
     ·cases h
     ·rename_i l hl
      split at h
      ·cases h
      ·rename_i hh h8
       cases hc:(Nat.ble l hh&&Nat.ble hh len&&Nat.beq b.esz n)with
       |false=>rw[hc]at h;simp at h
       |true=>
        rw[hc]at h
        simp only[cond_true,aza]at h
        subst h
        simp only[az8]at hc
        have c1:=azo hc.1.1
        have c2:=azo hc.1.2
        have c3:=ay9 hc.2
        refine .look [id] fun C a hg h3 ha=>?_
        have h9:C.η id=some b:=(ha id (by simp)).trans b1
        have e1:=h3 x (by simp[Op.operands])
        rw[hx]at e1
        obtain⟨ad,cap,e2,k1,k2,k3,k4⟩:=e1.sl_inv h9 b2 b3
        obtain⟨o1,o2,o3,o4⟩:=h5 h3 hl h8
        have h6:=ww (P:=P) (w:=C.w) (len:=len) (cap:=cap) o1 o2 o3 o4 c1 (by omega)
        refine⟨.slice (if cap=l then some ad else(some ad).map (·.add (l*n))) (hh-l) (cap-l),?_,?_⟩
        ·simp only[execOp,e2,Option.map_none,Sem.run_bind,tj hu hs h6,azq]
         rfl
        ·by_cases h7:cap=l
         ·have z1:hh-l=0:=by omega
          have z2:cap-l=0:=by omega
          rw[azg h7,z1,z2]
          exact .slz h9 b2 b3
         ·rw[azf h7]
          rcases k4 with⟨k4,k5⟩|⟨k4,k5⟩
          ·omega
          ·subst k4
           have h4:(Addr.add ⟨(C.ρ id).1,(C.ρ id).2+off,none⟩ (l*n))=⟨(C.ρ id).1,(C.ρ id).2+(off+l*n),none⟩:=by
            simp[Addr.add,Nat.add_assoc]
           simp only[az5,h4]
           refine .sl h9 b2 b3 (by omega) (by omega) (by omega) ?_
           rw[c3]at k5 ⊢
           have:l*n+(cap-l)*n=cap*n:=by rw[<-Nat.add_mul];congr 1;omega
           omega
   ·rename_i m rows hx
    split at h
    ·cases h
    ·rename_i l hl
     split at h
     ·cases h
     ·rename_i hh h8
      cases hc:(Nat.ble l hh&&Nat.ble hh rows.length&&Nat.beq m n)with
      |false=>rw[hc]at h;simp at h
      |true=>
       rw[hc]at h
       simp only[cond_true,aza]at h
       subst h
       simp only[az8]at hc
       have c1:=azo hc.1.1
       have c2:=azo hc.1.2
       have c3:=ay9 hc.2
       subst c3
       refine .look [] fun C a hg h3 ha=>?_
       have e1:=h3 x (by simp[Op.operands])
       rw[hx]at e1
       have e2:=e1.tree_inv
       generalize hd:a.eval x=xv at e2
       obtain⟨o1,o2,o3,o4⟩:=h5 h3 hl h8
       cases e2 with
       |tree cell hT q1 q2 q3 q4 q5 q6=>
        rename_i bb off cap
        have h6:=ww (P:=P) (w:=C.w) (len:=rows.length) (cap:=cap) o1 o2 o3 o4 c1 (by omega)
        refine⟨_,by simp only[execOp,hd,Option.map_none,Sem.run_bind,tj hu hs h6,azq];rfl,?_⟩
        by_cases h7:cap=l
        ·have z1:hh-l=0:=by omega
         have z2:cap-l=0:=by omega
         have z3:(rows.drop l).take (hh-l)=[]:=by rw[z1];simp
         rw[azg h7,z1,z2]
         rw[show List.take 0 (List.drop l rows)=[]by simp]
         exact .imm (.tree0 (by omega))
        ·rw[azf h7]
         have h4:(Addr.add ⟨bb,off,none⟩ (l*m))=⟨bb,off+l*m,none⟩:=by simp[Addr.add]
         simp only[az5,h4]
         have h0:((rows.drop l).take (hh-l)).length=hh-l:=by simp;omega
         have key:VR C (.tree m ((rows.drop l).take (hh-l))) (.slice (some ⟨bb,off+l*m,none⟩) ((rows.drop l).take (hh-l)).length (cap-l)):=?_
         ·rw[h0]at key;exact key
         refine .imm (.tree (fun k j=>cell (l+k) j) hT (by rw[h0];omega) (by omega) (by rw[h0];omega) (fun k hk=>?_) (fun k j hk hj=>?_) (fun k hk j hj=>?_))
         ·simp only[List.getElem_take,List.getElem_drop]
          exact q4 _ _
         ·rw[h0]at hk
          have:=q5 (l+k) j (by omega) hj
          rw[<-this]
          congr 2
          rw[Nat.add_mul];omega
         ·rw[h0]at hk
          simp only[List.getElem_take,List.getElem_drop]at hj ⊢
          exact q6 (l+k) (by omega) j hj
       |tree0 hcap=>
        rename_i ad cap
        have hz:l=0:=by simp at c2;omega
        have he:hh=0:=by simp at c2;omega
        have h6:=ww (P:=P) (w:=C.w) (len:=0) (cap:=cap) o1 o2 o3 o4 c1 (by omega)
        refine⟨_,by simp only[execOp,hd,Option.map_none,Sem.run_bind,tj hu hs h6,azq];rfl,?_⟩
        subst hz
        subst he
        exact .imm (.tree0 (by omega))
   ·cases h
 ·cases h
inductive NE(P:Program)(t:Nat):Value->Value->Prop where
 |sl {e:TypeId} {ad:Addr} {a b l c:Nat}:P.underlying t=some (.slice e)->NE P t (.slice (some ad) a b) (.slice none l c)
 |pt {e:TypeId} {ad:Addr}:P.underlying t=some (.pointer e)->NE P t (.pointer (some ad)) (.pointer none)
 |mp {k e:TypeId} {r:Nat}:P.underlying t=some (.map k e)->NE P t (.map (some r)) (.map none)
 |fn {a b c} {f:Fn} {x y:Array Value}:P.underlying t=some (.func a b c)->NE P t (.func f x y) .nilFunc
end
section
variable{P:Program}{τ:Nat->AV}{η:bm}{d:Option Tmp}{ty:TypeId}{pos:String}{af:Array Edge}{g:Option (Nat×Bool)}
def U2(τ:Nat->AV)(η:bm)(u:Nat)(x:Operand):Option Rec:=match aev τ x with
 |.it id ver=>match To η id ver with
  |some (b,.ofm mid mver since seen last)=>match G0 η mid mver with
   |none=>none
   |some (mb,clock,es)=>bif Nat.beq clock last then(match seen.getLast? with
    |none=>none
    |some stamp=>match es.find? (fun e=>Nat.beq e.2.2 stamp)with
     |none=>none
     |some e=>some ⟨[id,mid],[],.tup [.v e.1,e.2.1],u⟩)else none
  |_=>none
 |_=>none
theorem All2.find{R:α->β->Prop}{p:α->Bool}{q:β->Bool}(h0:∀a b,R a b->p a=q b){l:List α}{m:List β}(h:All2 R l m){a:α}(ha:l.find? p=some a):∃b,m.find? q=some b/\R a b:=by
 induction h with
 |nil=>cases ha
 |cons hr _ ih=>
  rename_i a0 b0 l m _
  rw[List.find?_cons]at ha ⊢
  rw[<-h0 _ _ hr]
  cases hp:p a0 with
  |true=>
   rw[hp]at ha
   simp only[aza]at ha
   subst ha
   exact⟨b0,rfl,hr⟩
  |false=>
   rw[hp]at ha
   exact ih ha
theorem U1(h:U2 τ η u x=some r):LOp P ⟨d,.entry x,ty,pos,af,g⟩ τ η r.fp r.δ r.v:=by
 unfold U2 at h
 split at h
 ·rename_i id ver hx
  split at h
  ·rename_i b mid mver since seen last hb
   obtain⟨ha,h4⟩:=Zs hb
   have hd:b.cs=ii (.mp mid mver) since seen last:=by rw[h4];rfl
   split at h
   ·cases h
   ·rename_i mb clock es hm
    obtain⟨he,h6⟩:=y7 hm
    cases hc:Nat.beq clock last with
    |false=>rw[hc]at h;simp at h
    |true=>
     rw[hc]at h
     simp only[cond_true]at h
     obtain rfl:=ay9 hc
     split at h
     ·cases h
     ·rename_i stamp hh
      split at h
      ·cases h
      ·rename_i e hf
       simp only[aza]at h
       subst h
       refine .look [id,mid] fun C a hg hi h7=>?_
       have h8:C.η id=some b:=(h7 id (by simp)).trans ha
       have h9:C.η mid=some mb:=(h7 mid (by simp)).trans he
       have e1:=hi x (by simp[Op.operands])
       rw[hx]at e1
       have e1':=e1.it_inv h8 (by rw[h4];rfl)
       obtain⟨ob,g1,g2⟩:=hg.obj h8 (by rw[h4];rfl)
       rw[hd]at g2
       obtain⟨m,rfl,hj⟩:=g2.miter_inv
       have hk:=hj.mp_inv h9 (by rw[h6];rfl)
       have hl:m=(C.ρ mid).1:=by simpa using hk
       subst hl
       obtain⟨entries,q1,q2,q3⟩:=Gx hg h9 h6
       have h5:All2 (fun(x:Value×AV×Nat) (e:MapEntry)=>e.key=x.1/\VR C x.2.1 e.val/\e.born=x.2.2) es entries.toList:=All2.of_idx (by simpa using q2) (fun i h1 h2=>by simpa using q3 i h1 (by simpa using h2))
       obtain⟨en,hn,k1,k2,k3⟩:=h5.find (q:=fun e=>e.born==stamp) (fun a b ho=>by
        rw[ho.2.2,Bool.eq_iff_iff,beq_iff_eq]
        constructor
        ·exact ay9
        ·intro e;rw[e];exact Nat.beq_refl _) hf
       refine⟨.tuple #[en.key,en.val],?_,E3 (by rw[k1];exact VR.v C _) k2⟩
       have h0:seen.toArray.back? =some stamp:=by rw[<-hh];simp
       have h3:entries.find? (fun e=>e.born==stamp)=some en:=by rw[<-hn];simp
       simp only[execOp,e1',Instr.entry,Sem.run_bind,p6 g1 (fun _ _ _ e=>by cases e),azq,h0,p6 q1 (fun _ _ _ e=>by cases e),bne_self_eq_false,Bool.false_eq_true,if_false,h3,azr]
  ·cases h
 ·cases h
end
section
variable{P:Program}{τ:Nat->AV}{η:bm}{d:Option Tmp}{ty:TypeId}{pos:String}{af:Array Edge}{g:Option (Nat×Bool)}
theorem Pz{o:Oper}{id off:Nat}(hb:η id=some b)(hv:b.ver=ver)(hn:b.nilp=false)(hl:vs.length=n)(hc:off+n<=b.cs.length)(h1:vs.all AV.one=true)
 (h:∀(C:Ctx) (a:Act),Good C->(∀x∈o.op.operands,VR C (aev τ x) (a.eval x))->C.η id=some b->∃(xs:List Value) (x:Value),xs.length=vs.length/\(∀i (h:i<vs.length) (h':i<xs.length),VR C vs[i] xs[i])/\VR C v x/\
  ((storeCells ⟨(C.ρ id).1,(C.ρ id).2+off,none⟩ xs 0).run P C.w=.ok () (C.w.setCells (C.ρ id).1 ((C.ρ id).2+off) xs)->(execOp a.eval o).run P C.w=.ok (.value x) (C.w.setCells (C.ρ id).1 ((C.ρ id).2+off) xs))):
 LOp P o τ η [id] [(id,some {b with cs:=bn b.cs off vs})] v:=by
 intro C a hg h7 h8 _ K Q hK
 have hb':C.η id=some b:=(h8 id (by simp)).trans hb
 obtain⟨xs,x,h2,h3,h4,h5⟩:=h C a hg h7 hb'
 obtain⟨c,t',g1,g2,g3,g4⟩:=hg.blk hb' hn
 have h0:=run_storeCells_cells (P:=P) (C.ρ id).1 ((C.ρ id).2+off) xs 0 C.w (fun j hj=>by have:(C.ρ id).2+off+0+j<c.size:=(by omega);simp[World.cell?,g1];omega) (fun j _=>by simp[World.frozen?,g1]) (fun w hw=>by obtain⟨i,hi,rfl⟩:=azs hw;exact(h3 i (by omega) hi).one (List.all_eq_true.1 h1 _ (ay7 _)))
 simp only[Nat.add_zero]at h0
 have hr:=h5 h0
 have h9:=tf (o:=off) (vs:=vs) (xs:=xs) hg hb' hn (by omega) h2 h3
 have h6:=rt (id:=id) (b:=b) (o:=off) (vs:=vs) (xs:=xs) hg hb' hn
 unfold Oper.wp
 rw[hr]
 exact hK x (C.store id b off vs xs) rfl (fun i=>by simp[Ctx.store];rintro rfl;exact hg.used hb') h9 h6 (h4.mono hg h6)
def ov(z:Value)(n:Nat):List AV:=(Builtin.zeroCells z.cells n).toList.map .v
def Nb(P:Program)(τ:Nat->AV)(η:bm)(u:Nat)(x:Operand)(ats:Array TypeId):Option Rec:=match ats[0]? with
 |none=>none
 |some t=>match P.underlying t with
  |some (.slice e)=>match bp P e with
   |none=>none
   |some z=>match aev τ x with
    |.sl id ver off len=>match xb η id ver with
     |none=>none
     |some b=>bif Nat.beq len 0 then some ⟨[id],[],.v (.tuple #[]),u⟩else
      bif (ov z len).all AV.one&&Nat.beq (ov z len).length (len*b.esz)then(match u9 off b.cs (ov z len)with
      |some ds=>some ⟨[id],[(id,some ⟨b.ver,ds,b.esz,b.nilp⟩)],.v (.tuple #[]),u⟩
      |none=>none)else none
    |.v (.slice none 0 0)=>some ⟨[],[],.v (.tuple #[]),u⟩
    |_=>none
  |_=>none
theorem V3{ats:Array TypeId}(h:Nb P τ η u x ats=some r):LOp P ⟨d,.call {callee:=.builtin .clear,args:=#[x],argTypes:=ats},ty,pos,af,g⟩ τ η r.fp r.δ r.v:=by
 have h5:∀(a:Act) (w:World),(execOp a.eval ⟨d,.call {callee:=.builtin .clear,args:=#[x],argTypes:=ats},ty,pos,af,g⟩).run P w=((Builtin.clear_ ats ty #[a.eval x]).run P w).andThen fun x w=>.ok (.value x) w:=by intro a w;simp only[execOp,resolve,invoke,builtin,Sem.run_bind,azr,azq];simp only[List.map_toArray,azw,List.map_nil]
 unfold Nb at h;split at h;cases h;rename_i t ht;split at h;rename_i e hu;split at h;cases h;rename_i z hz;split at h;rename_i id ver off len hx;split at h;cases h;rename_i b hb;obtain⟨b1,b2,b3⟩:=oa hb;cases h3:Nat.beq len 0 with
 |true=>
  rw[h3]at h
  simp only[cond_true,aza]at h
  subst h
  have:=ay9 h3
  subst this
  refine .look [id] fun C a hg h4 h7=>?_
  have e1:=h4 x (by simp[Op.operands,Call.operands])
  rw[hx]at e1
  obtain⟨ad,cap,e2,_⟩:=e1.sl_inv ((h7 id (by simp)).trans b1) b2 b3
  refine⟨.tuple #[],?_,VR.v C _⟩
  rw[h5,e2]
  simp[Builtin.clear_,ht,Sem.run_bind,run_underlying hu]
 |false=>
  rw[h3]at h
  simp only[cond_false]at h
  cases hc:((ov z len).all AV.one&&Nat.beq (ov z len).length (len*b.esz))with
  |false=>rw[hc]at h;simp at h
  |true=>
   rw[hc]at h
   simp only[cond_true]at h
   rw[az8]at hc
   split at h
   ·rename_i ds hd
    simp only[aza]at h
    subst h
    obtain⟨k3,k4⟩:=u7 _ _ _ _ hd
    subst k4
    refine Pz (n:=(ov z len).length) b1 b2 b3 rfl k3 hc.1 fun C a hg h4 h8=>?_
    have e1:=h4 x (by simp[Op.operands,Call.operands])
    rw[hx]at e1
    obtain⟨ad,cap,e2,q1,q2,q3,q4⟩:=e1.sl_inv h8 b2 b3
    have h6:len≠0:=fun e=>by rw[e,Nat.beq_refl]at h3;cases h3
    have h9:ad=⟨(C.ρ id).1,(C.ρ id).2+off,none⟩:=by
     rcases q4 with⟨h0,_⟩|⟨h0,_⟩
     ·exact absurd h0 h6
     ·exact h0
    subst h9
    refine⟨(Builtin.zeroCells z.cells len).toList,.tuple #[],by simp[ov],fun i h1 h2=>by simp only[ov,List.getElem_map];exact VR.v C _,VR.v C _,fun ha=>?_⟩
    rw[h5,e2]
    obtain⟨m,rfl⟩:∃m,len=m+1:=⟨len-1,by omega⟩
    simp only[Builtin.clear_,List.getElem?_toArray,ht,Sem.run_bind,run_underlying hu,azq]
    have e0:(#[Value.slice (some ⟨(C.ρ id).1,(C.ρ id).2+off,none⟩) (m+1) cap]:Array Value)[0]? =some (Value.slice (some ⟨(C.ρ id).1,(C.ρ id).2+off,none⟩) (m+1) cap):=rfl
    simp only[List.getElem?_cons_zero,Sem.run_bind,run_underlying hu,azq,py hz,ha,azr]
   ·cases h
 rename_i hx;simp only[aza]at h;subst h;refine .look [] fun C a hg h4 h7=>?_;have e1:=h4 x (by simp[Op.operands,Call.operands])
 rw[hx]at e1;refine⟨.tuple #[],?_,VR.v C _⟩;rw[h5,e1.v_inv];simp[Builtin.clear_,ht,Sem.run_bind,run_underlying hu];cases h;cases h
theorem xu{e s len:Nat}{k:IntKind}{j b o:Nat}(he:P.underlying t=some (.array len e))(hs:aj P e=some s)(hj:j<len):
 (Instr.indexAt t (.pointer (some ⟨b,o,none⟩)) (.int k (Int.ofNat j))).run P w=.ok (.pointer (some ⟨b,o+j*s,none⟩)) w:=by
 unfold aj at hs
 cases hi:P.info? e with
 |none=>rw[hi]at hs;cases hs
 |some inf=>
  rw[hi]at hs
  simp only[az5,aza]at hs
  subst hs
  have c1:(0:Int)<=Int.ofNat j/\Int.ofNat j<(len:Int):=⟨by simp,by simp;exact_mod_cast hj⟩
  have c2:(Int.ofNat j).toNat=j:=rfl
  have h0:(Addr.add ⟨b,o,none⟩ (j*inf.size))=⟨b,o+j*inf.size,none⟩:=by simp[Addr.add]
  simp only[Instr.indexAt,asIntOf,Instr.sureAddr,Sem.run_bind,azr,azq,run_underlying he]
  simp only[c1,and_self,if_true,Sem.run_bind,sizeOf,typeInfo,run_program,hi,azr,azq,c2,h0]
def A2(P:Program)(τ:Nat->AV)(η:bm)(u t:Nat)(x i:Operand):Option Rec:=match P.underlying t with
 |some (.array len e)=>match aj P e with
  |none=>none
  |some n=>match aev τ i with
   |.v (.int k (.ofNat j))=>bif Nat.blt j len then(match aev τ x with
    |.tp cs o=>some ⟨[],[],.tp cs (o+j*n),u⟩
    |.ptr id ver o=>match xb η id ver with
     |some _=>some ⟨[id],[],.ptr id ver (o+j*n),u⟩
     |none=>none
    |_=>none)else none
   |_=>none
 |_=>none
theorem G7(h:A2 P τ η u t x i=some r):LOp P ⟨d,.indexAddr t x i,ty,pos,af,g⟩ τ η r.fp r.δ r.v:=by
 unfold A2 at h
 split at h
 ·rename_i len e he
  split at h
  ·cases h
  ·rename_i n hs
   split at h
   ·rename_i k j hi
    cases h2:Nat.blt j len with
    |false=>rw[h2]at h;simp at h
    |true=>
     rw[h2]at h
     simp only[cond_true]at h
     have h0:j<len:=by simpa using h2
     split at h
     ·rename_i cs o hx
      simp only[aza]at h
      subst h
      refine .look [] fun C a hg h1 _=>?_
      have e1:=h1 x (by simp[Op.operands])
      have e0:=h1 i (by simp[Op.operands])
      rw[hx]at e1
      rw[hi]at e0
      have e0':=e0.v_inv
      have e2:=e1.tp_inv
      generalize h4:a.eval x=xv at e2
      cases e2 with
      |tp cell hT hc hr=>
       refine⟨_,by simp only[execOp,h4,e0',Sem.run_bind,xu he hs h0,azq];rfl,?_⟩
       rw[Nat.add_assoc]
       exact .imm (.tp cell hT hc hr)
     ·rename_i id ver o hx
      split at h
      ·rename_i b hb
       obtain⟨b1,b2,b3⟩:=oa hb
       simp only[aza]at h
       subst h
       refine .look [id] fun C a hg h1 h5=>?_
       have h3:C.η id=some b:=(h5 id (by simp)).trans b1
       have e1:=h1 x (by simp[Op.operands])
       have e0:=h1 i (by simp[Op.operands])
       rw[hx]at e1
       rw[hi]at e0
       have e0':=e0.v_inv
       have e2:=e1.ptr_inv h3 b2
       refine⟨_,by simp only[execOp,e2,e0',Sem.run_bind,xu he hs h0,azq];rfl,?_⟩
       rw[Nat.add_assoc]
       exact .ptr h3 b2 b3
      ·cases h
     ·cases h
   ·cases h
 ·cases h
end
theorem VR.tup_inv'{x:Value}(h:VR C (.tup cs) x):∃vs:Array Value,x=.tuple vs/\cs.length=vs.size/\∀i (h:i<cs.length) (h':i<vs.size),VR C cs[i] vs[i]:=by
 cases h with
 |tup hl hi=>exact⟨_,rfl,hl,hi⟩
 |imm h=>cases h with
  |tup hl hi=>exact⟨_,rfl,hl,fun i h h'=>.imm (hi i h h')⟩
end Go.Proofs.YtfpfdfhlljjckaaGreatDoor
