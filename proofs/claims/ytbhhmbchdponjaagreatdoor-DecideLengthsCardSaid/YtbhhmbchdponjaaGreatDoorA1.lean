/- Texts of the claim. -/
import Derived.WalkKit
import Derived.Below
import Derived.Lib.Hide
import Derived.Laws.AppendOwn
import Derived.Orders
import Derived.Deep.MidRow
import Derived.Laws.Append
import Derived.Laws.Tables
import Derived.IntWalk
namespace Go.Proofs.YtbhhmbchdponjaaGreatDoor
universe u v
theorem ags{α : Type u}{l : List α}{n : Nat}(h : n<l.length) : l[n] ∈ l :=List.getElem_mem h
theorem agt{α : Type u}{l : List α}{i : Nat}(h : i<l.length) : l[i]? =some l[i] :=List.getElem?_eq_getElem h
theorem agu{n m : Nat}(h : Nat.beq n m=true) : n=m :=Nat.eq_of_beq_eq_true h
theorem agv{α : Type u}(a b : α) : (some a=some b)=(a=b) :=Option.some.injEq a b
theorem agw{α : Type u}{as bs : List α} : (as ++bs).length=as.length+bs.length :=List.length_append
theorem agx{α : Type u}{a b : α} : a ∈ [b] ↔ a=b :=List.mem_singleton
theorem agy{α : Type u}{a : α}{s t : List α} : a ∈ s ++t ↔ a ∈ s \/a ∈ t :=List.mem_append
theorem agz{α : Type u}{β : Type v}{as : List α}(f : α -> β) : (as.map f).length=as.length :=List.length_map f
theorem ag0{c : Prop}{h : Decidable c}(n : ¬c){α : Sort u}{t e : α} : (if c then t else e)=e :=if_neg n
theorem ag1{c : Prop}{h : Decidable c}(n : c){α : Sort u}{t e : α} : (if c then t else e)=t :=if_pos n
theorem ag2{p : Prop}[Decidable p] : decide p=false -> ¬p :=of_decide_eq_false
theorem ag3{p : Prop}[Decidable p] : decide p=true -> p :=of_decide_eq_true
theorem ag4{α : Type u}{i : Nat}{l : List α}(h : i<l.length) : l.take (i+1)=l.take i ++[l[i]] :=List.take_succ_eq_append_getElem h
theorem ag5(n : Nat) : 0 <=n :=Nat.zero_le n
theorem ag6(n : Nat) : ¬n<0 :=Nat.not_lt_zero n
theorem ag7(n : Nat) : n <=n :=Nat.le_refl n
theorem ag8{m n : Nat} : m<n+1 ↔ m<n \/m=n :=Nat.lt_succ_iff_lt_or_eq
theorem ag9{n m : Nat}(h : Nat.ble n m=true) : n <=m :=Nat.le_of_ble_eq_true h
theorem aha{n m k : Nat}(h : n <=m)(g : m <=k) : n <=k :=Nat.le_trans h g
theorem ahb{α β : Type}(a : α)(w : World)(f : α -> World -> Result β) : (Result.ok a w).andThen f=f a w :=Result.andThen_ok a w f
theorem ahc{α : Type}(P : Program)(w : World)(a : α) : (pure a : Sem α).run P w= .ok a w :=Sem.run_pure P w a
theorem ahd{α : Type u}{a : α}{l : List α}(h : a ∈ l) : ∃i,∃h : i<l.length,l[i]=a :=List.getElem_of_mem h
theorem ahe{α : Type u}{a : α}{l : List α} : (a :: l).length=l.length+1 :=rfl
theorem ahf{α : Type u} : ([] : List α).length=0 :=rfl
theorem ahg{α : Type u}{β : Type v}{f : α -> β}{a : α}{l : List α} : (a :: l).map f=f a :: l.map f :=rfl
theorem ahh{α : Type u}{β : Type v}{b : β}{f : α -> β}{l : List α} : b ∈ l.map f ↔ ∃a,a ∈ l /\ f a=b :=List.mem_map
theorem ahi{α : Type u}{a b : α}{l : List α} : a ∈ b :: l ↔ a=b \/a ∈ l :=List.mem_cons
theorem ahj{α : Type u}{i : Nat}{l : List α}(h : l.length <=i) : l.take i=l :=List.take_of_length_le h
theorem ahk{α : Type u}{l : List α}(h : l.length=0) : l=[] :=List.eq_nil_of_length_eq_zero h
theorem ahl{α : Type u}{i : Nat}{a : α}{l : List α} : l[i]? =some a ↔ ∃h : i<l.length,l[i]=a :=List.getElem?_eq_some_iff
theorem ahm{α : Type u}{i : Nat}{l : List α}(h : i<l.length) : l.drop i=l[i] :: l.drop (i+1) :=List.drop_eq_getElem_cons h
theorem ahn{α : Type u}{β : Type v}(a : α)(f : α -> β) : (some a).map f=some (f a) :=rfl
theorem aho{α : Type u}{β : Type v}(a : α)(f : α -> Option β) : (some a).bind f=f a :=rfl
theorem ahp : false ≠ true :=Bool.false_ne_true
theorem ahq(a b : Bool) : ((a && b)=true)=(a=true /\ b=true) :=Bool.and_eq_true a b
def tabs:List (Nat×List Value):=[(0,[.int .u64 1,.int .u64 10,.int .u64 100,.int .u64 1000,.int .u64 10000,.int .u64 100000,.int .u64 1000000,.int .u64 10000000,.int .u64 100000000,.int .u64 1000000000,.int .u64 10000000000,.int .u64 100000000000,.int .u64 1000000000000,.int .u64 10000000000000,.int .u64 100000000000000,.int .u64 1000000000000000,.int .u64 10000000000000000,.int .u64 100000000000000000,.int .u64 1000000000000000000,.int .u64 10000000000000000000])]
set_option linter.unusedVariables false
set_option linter.unusedSimpArgs false
open Go.RowKit
inductive AV where
 |v (x:Value)
 |ptr (id ver off:Nat)
 |sl (id ver off len:Nat)
 |tree (n:Nat) (xs:List (List AV))
 |tp (cs:List AV) (off:Nat)
 |clo (f:FuncId) (caps:List AV)
 |agg (cs:List AV)
 |tup (vs:List AV)
 |unk
 |mp (id ver:Nat)
 |it (id ver:Nat)
instance:Inhabited AV:=⟨.unk⟩
inductive TR(T:Nat->Prop)(w:World):AV->Value->Prop where
 |v (x:Value):TR T w (.v x) x
 |unk (x:Value):TR T w .unk x
 |agg {cs:List AV} {vs:Array Value}:cs.length=vs.size->(∀i (h:i<cs.length) (h':i<vs.size),TR T w cs[i] vs[i])->TR T w (.agg cs) (.agg vs)
 |tup {cs:List AV} {vs:Array Value}:cs.length=vs.size->(∀i (h:i<cs.length) (h':i<vs.size),TR T w cs[i] vs[i])->TR T w (.tup cs) (.tuple vs)
 |clo {f:FuncId} {cs:List AV} {vs:Array Value}:cs.length=vs.size->(∀i (h:i<cs.length) (h':i<vs.size),TR T w cs[i] vs[i])->TR T w (.clo f cs) (.func (.func f) #[] vs)
 |tree {n:Nat} {xs:List (List AV)} {b off cap:Nat} (cell:Nat->Nat->Value):T b->xs.length<=cap->cap<=maxLen->xs.length<=140737488355328->(∀k (h:k<xs.length),xs[k].length=n) ->
  (∀k j,k<xs.length->j<n->w.cell? ⟨b,off+k*n+j,none⟩=some (cell k j))->(∀k (h:k<xs.length) j (h':j<xs[k].length),TR T w xs[k][j] (cell k j)) ->
  TR T w (.tree n xs) (.slice (some ⟨b,off,none⟩) xs.length cap)
 |tree0 {n:Nat} {a:Option Addr} {cap:Nat}:cap<=maxLen->TR T w (.tree n []) (.slice a 0 cap)
 |tp {cs:List AV} {b off o:Nat} (cell:Nat->Value):T b->(∀j,j<cs.length->w.cell? ⟨b,off+j,none⟩=some (cell j))->(∀j (h:j<cs.length),TR T w cs[j] (cell j))->TR T w (.tp cs o) (.pointer (some ⟨b,off+o,none⟩))
theorem TR.mono{T T':Nat->Prop}{w w':World}(hT:∀b,T b->T' b)(hw:∀b,T b->w'.heap[b]? =w.heap[b]?){a:AV}{x:Value}(h:TR T w a x):TR T' w' a x:=by
 induction h with
 |v x=>exact .v x
 |unk x=>exact .unk x
 |agg hl _ ih=>exact .agg hl ih
 |tup hl _ ih=>exact .tup hl ih
 |clo hl _ ih=>exact .clo hl ih
 |tree cell hb h1 h2 h3 h4 h5 _ ih=>exact .tree cell (hT _ hb) h1 h2 h3 h4 (fun k j hk hj=>by rw[World.cell?_of_block (w:=w) (hw _ hb)];exact h5 k j hk hj) ih
 |tree0 h=>exact .tree0 h
 |tp cell hb h1 _ ih=>exact .tp cell (hT _ hb) (fun j hj=>by rw[World.cell?_of_block (w:=w) (hw _ hb)];exact h1 j hj) ih
def GOK(T:Nat->Prop)(w:World):Prop:=∀p∈tabs,T p.1/\(∀j (h:j<p.2.length),w.cell? ⟨p.1,j,none⟩=some p.2[j])/\w.cell? ⟨p.1,p.2.length,none⟩=none
theorem GOK.mono{T T':Nat->Prop}{w w':World}(h:GOK T w)(hT:∀b,T b->T' b)(hw:∀b,T b->w'.heap[b]? =w.heap[b]?):GOK T' w':=
 fun p hp=>⟨hT _ (h p hp).1,fun j hj=>by rw[World.cell?_of_block (w:=w) (hw _ (h p hp).1)];exact(h p hp).2.1 j hj,by rw[World.cell?_of_block (w:=w) (hw _ (h p hp).1)];exact(h p hp).2.2⟩
structure TOk(T:Nat->Prop)(w:World):Prop where
 lt:∀b,T b->b<w.heap.size
 glob:GOK T w
instance{T:Nat->Prop}{w:World}:CoeFun (TOk T w) (fun _=>∀b,T b->b<w.heap.size):=⟨TOk.lt⟩
structure Blk where
 ver:Nat
 cs:List AV
 esz:Nat
 nilp:Bool
def Blk.kind(b:Blk):Nat:=match b.nilp,b.cs with
 |false,_=>0
 |true,[]=>1
 |true,_::_=>2
theorem dl{b:Blk}(h:b.nilp=false):b.kind=0:=by unfold Blk.kind;rw[h]
theorem dj{b:Blk}(h:b.nilp=false):b.kind≠1:=by rw[dl h];decide
theorem u7{b:Blk}(h:b.kind=0):b.nilp=false:=by
 cases hn:b.nilp with
 |false=>rfl
 |true=>unfold Blk.kind at h;rw[hn]at h;cases hc:b.cs<;>rw[hc]at h<;>cases h
theorem Rr{b:Blk}(h:b.kind=1):b.nilp=true/\b.cs=[]:=by
 cases hn:b.nilp with
 |false=>rw[dl hn]at h;cases h
 |true=>unfold Blk.kind at h;rw[hn]at h;cases hc:b.cs<;>rw[hc]at h<;>first|exact⟨rfl,rfl⟩|cases h
theorem Hx{b:Blk}(h:b.kind=2):b.nilp=true/\b.cs≠[]:=by
 cases hn:b.nilp with
 |false=>rw[dl hn]at h;cases h
 |true=>unfold Blk.kind at h;rw[hn]at h;cases hc:b.cs<;>rw[hc]at h<;>first|(cases h;done)|exact⟨rfl,by simp⟩
theorem Blk.k_cases(b:Blk):b.kind=0\/b.kind=1\/b.kind=2:=by
 unfold Blk.kind
 cases b.nilp<;>cases b.cs<;>simp
abbrev bi:=Nat->Option Blk
structure Ctx where
 ρ:Nat->Nat×Nat
 sz:Nat->Nat
 η:bi
 U:Nat->Prop
 T:Nat->Prop
 w:World
inductive VR(C:Ctx):AV->Value->Prop where
 |imm {a:AV} {x:Value}:TR C.T C.w a x->VR C a x
 |ptr {id ver off:Nat} {b:Blk}:C.η id=some b->b.ver=ver->b.nilp=false->VR C (.ptr id ver off) (.pointer (some ⟨(C.ρ id).1,(C.ρ id).2+off,none⟩))
 |sl {id ver off len cap:Nat} {b:Blk}:C.η id=some b->b.ver=ver->b.nilp=false->len<=cap->cap<=maxLen->len<=140737488355328->(C.ρ id).2+off+cap*b.esz<=C.sz id ->
  VR C (.sl id ver off len) (.slice (some ⟨(C.ρ id).1,(C.ρ id).2+off,none⟩) len cap)
 |slz {id ver off:Nat} {b:Blk} {ad:Addr}:C.η id=some b->b.ver=ver->b.nilp=false->VR C (.sl id ver off 0) (.slice (some ad) 0 0)
 |slnil {id ver:Nat} {b:Blk}:C.η id=some b->b.ver=ver->b.kind=1->VR C (.sl id ver 0 0) (.slice none 0 0)
 |mp {id ver:Nat} {b:Blk}:C.η id=some b->b.ver=ver->b.kind=2->VR C (.mp id ver) (.map (some (C.ρ id).1))
 |it {id ver:Nat} {b:Blk}:C.η id=some b->b.ver=ver->b.kind=2->VR C (.it id ver) (.pointer (some ⟨(C.ρ id).1,0,none⟩))
 |stalem {id ver:Nat} {x:Value}:x.oneCell'=true->C.U id->(∀b,C.η id=some b->ver<b.ver)->VR C (.mp id ver) x
 |stalei {id ver:Nat} {x:Value}:x.oneCell'=true->C.U id->(∀b,C.η id=some b->ver<b.ver)->VR C (.it id ver) x
 |stalep {id ver off:Nat} {x:Value}:x.oneCell'=true->C.U id->(∀b,C.η id=some b->ver<b.ver)->VR C (.ptr id ver off) x
 |stales {id ver off len:Nat} {x:Value}:x.oneCell'=true->C.U id->(∀b,C.η id=some b->ver<b.ver)->VR C (.sl id ver off len) x
 |agg {cs:List AV} {vs:Array Value}:cs.length=vs.size->(∀i (h:i<cs.length) (h':i<vs.size),VR C cs[i] vs[i])->VR C (.agg cs) (.agg vs)
 |tup {cs:List AV} {vs:Array Value}:cs.length=vs.size->(∀i (h:i<cs.length) (h':i<vs.size),VR C cs[i] vs[i])->VR C (.tup cs) (.tuple vs)
 |clo {f:FuncId} {cs:List AV} {vs:Array Value}:cs.length=vs.size->(∀i (h:i<cs.length) (h':i<vs.size),VR C cs[i] vs[i])->VR C (.clo f cs) (.func (.func f) #[] vs)
def Ctx.live(C:Ctx)(id:Nat):Prop:=∃b,C.η id=some b/\b.kind≠1
def Ctx.mine(C:Ctx)(k:Nat):Prop:=∃id,C.live id/\(C.ρ id).1=k
def ki(clock:Nat)(es:List (Value×AV×Nat)):List AV:=.v (.int .i64 0)::.v (.int .i64 (Int.ofNat clock))::es.map fun e=>.agg [.v e.1,e.2.1,.v (.int .i64 (Int.ofNat e.2.2))]
def lh(s:ByteArray)(pos:Nat):List AV:=[.v (.int .i64 1),.v (.string s),.v (.int .i64 (Int.ofNat pos))]
def jf(m:AV)(since:Nat)(seen:List Nat)(last:Nat):List AV:=.v (.int .i64 2)::m::.v (.int .i64 (Int.ofNat since))::.v (.int .i64 (Int.ofNat last))::seen.map fun n=>.v (.int .i64 (Int.ofNat n))
inductive ObjR(C:Ctx):List AV->Obj->Prop where
 |map {es:List (Value×AV×Nat)} {entries:Array MapEntry} {clock:Nat}:es.length=entries.size->(∀i (h:i<es.length) (h':i<entries.size),entries[i].key=es[i].1/\VR C es[i].2.1 entries[i].val/\entries[i].born=es[i].2.2)->ObjR C (ki clock es) (.map entries clock)
 |siter {s:ByteArray} {pos:Nat}:ObjR C (lh s pos) (.stringIter s pos)
 |miter0 {since last:Nat} {seen:List Nat}:ObjR C (jf (.v (.map none)) since seen last) (.mapIter none since seen.toArray last)
 |miter {a:AV} {m since last:Nat} {seen:List Nat}:VR C a (.map (some m))->ObjR C (jf a since seen last) (.mapIter (some m) since seen.toArray last)
def TV:Nat:=1125899906842624
structure Good(C:Ctx):Prop where
 used:∀{id b},C.η id=some b->C.U id
 obj:∀{id b},C.η id=some b->b.kind=2->∃o,C.w.heap[(C.ρ id).1]? =some o/\ObjR C b.cs o
 blk:∀{id b},C.η id=some b->b.nilp=false->∃cells t,C.w.heap[(C.ρ id).1]? =some (.cells cells t (0,0))/\cells.size=C.sz id/\(C.ρ id).2+b.cs.length<=cells.size /\
  ∀j (h:j<b.cs.length) (h':(C.ρ id).2+j<cells.size),VR C b.cs[j] cells[(C.ρ id).2+j]
 inj:∀{id id'},C.live id->C.live id'->(C.ρ id).1=(C.ρ id').1->id=id'
 tok:TOk C.T C.w
 apart:∀{k},C.mine k->¬C.T k
 tight:∀{id b},C.η id=some b->b.ver=TV->b.nilp=false->C.sz id=(C.ρ id).2+b.cs.length
theorem Good.tlt{C:Ctx}(hg:Good C){k:Nat}(h:C.T k):k<C.w.heap.size:=hg.tok.lt k h
theorem Good.tokT{C:Ctx}(hg:Good C){T':Nat->Prop}(h:∀b,C.T b->T' b)(ha:∀k,T' k->k<C.w.heap.size):TOk T' C.w:=⟨ha,hg.tok.glob.mono h (fun _ _=>rfl)⟩
def TOP:Nat:=1000000
structure Fr0(C C':Ctx):Prop where
 os:C'.w.os=C.w.os
 tape:C'.w.tape=C.w.tape
 output:C'.w.output=C.w.output
 size:C.w.heap.size<=C'.w.heap.size
 keep:∀k,k<C.w.heap.size->¬C.mine k->C'.w.heap[k]? =C.w.heap[k]?
 mine:∀k,C'.mine k->C.mine k\/C.w.heap.size<=k
 T:∀k,C.T k->C'.T k
 Tnew:∀k,C'.T k->C.T k\/C.mine k\/C.w.heap.size<=k
def Pin(C C':Ctx):Prop:=∀id,TOP<=id->C.U id->C'.U id/\∀b',C'.η id=some b'->∃b,C.η id=some b/\b.ver<=b'.ver/\(b.ver=b'.ver->C'.ρ id=C.ρ id/\C'.sz id=C.sz id/\b'.kind=b.kind/\b'.esz=b.esz)
theorem Good.tokE{C C':Ctx}(hg:Good C)(h:Fr0 C C')(ha:∀k,C'.T k->k<C'.w.heap.size):TOk C'.T C'.w:=
 ⟨ha,hg.tok.glob.mono h.T (fun k hk=>h.keep k (hg.tlt hk) (fun hm=>hg.apart hm hk))⟩
structure Fr(C C':Ctx):Prop extends Fr0 C C' where
 pin:Pin C C'
structure Ev(C C':Ctx):Prop extends Fr0 C C' where
 U:∀id,C.U id->C'.U id
 old:∀id b',C.U id->C'.η id=some b'->∃b,C.η id=some b/\b.ver<=b'.ver/\(b.ver=b'.ver->C'.ρ id=C.ρ id/\C'.sz id=C.sz id/\b'.kind=b.kind/\b'.esz=b.esz)
theorem VR.mono{C C':Ctx}(hg:Good C)(h:Ev C C'){a:AV}{x:Value}(hv:VR C a x):VR C' a x:=by
 have dead:∀{id ver:Nat} {b:Blk},C.η id=some b->b.ver=ver->(∀b',C'.η id=some b'->ver<b'.ver)\/∃b',C'.η id=some b'/\b'.ver=ver/\C'.ρ id=C.ρ id/\C'.sz id=C.sz id/\b'.kind=b.kind/\b'.esz=b.esz:=by
  intro id ver b hb hv
  cases hb':C'.η id with
  |none=>exact .inl (fun b' h=>by cases h)
  |some b'=>
   obtain⟨b0,h0,ha,hc⟩:=h.old id b' (hg.used hb) hb'
   rw[hb]at h0
   cases h0
   by_cases e:b.ver=b'.ver
   ·obtain⟨e1,e2,e3,e4⟩:=hc e
    exact .inr ⟨b',rfl,by omega,e1,e2,e3,e4⟩
   ·exact .inl (fun b'' h''=>by cases h'';omega)
 have stale:∀{id ver:Nat},C.U id->(∀b,C.η id=some b->ver<b.ver)->∀b',C'.η id=some b'->ver<b'.ver:=by
  intro id ver hu hs b' hb'
  obtain⟨b,hb,ha,_⟩:=h.old id b' hu hb'
  have:=hs b hb
  omega
 induction hv with
 |imm ht=>exact .imm (ht.mono h.T (fun k hk=>h.keep k (hg.tlt hk) (fun hm=>hg.apart hm hk)))
 |ptr hb he hn=>
  rcases dead hb he with hd|⟨b',hb',e0,e1,e2,e3,e4⟩
  ·exact .stalep rfl (h.U _ (hg.used hb)) hd
  ·rw[<-e1];exact .ptr hb' e0 (u7 (e3.trans (dl hn)))
 |sl hb he hn h1 h2 h3 h4=>
  rcases dead hb he with hd|⟨b',hb',e0,e1,e2,e3,e4⟩
  ·exact .stales rfl (h.U _ (hg.used hb)) hd
  ·rw[<-e1];exact .sl hb' e0 (u7 (e3.trans (dl hn))) h1 h2 h3 (by rw[e1,e2,e4];exact h4)
 |slz hb he hn=>
  rcases dead hb he with hd|⟨b',hb',e0,e1,e2,e3,e4⟩
  ·exact .stales rfl (h.U _ (hg.used hb)) hd
  ·exact .slz hb' e0 (u7 (e3.trans (dl hn)))
 |slnil hb he hn=>
  rcases dead hb he with hd|⟨b',hb',e0,e1,e2,e3,e4⟩
  ·exact .stales rfl (h.U _ (hg.used hb)) hd
  ·exact .slnil hb' e0 (e3.trans hn)
 |mp hb he hn=>
  rcases dead hb he with hd|⟨b',hb',e0,e1,e2,e3,e4⟩
  ·exact .stalem rfl (h.U _ (hg.used hb)) hd
  ·rw[<-e1];exact .mp hb' e0 (e3.trans hn)
 |it hb he hn=>
  rcases dead hb he with hd|⟨b',hb',e0,e1,e2,e3,e4⟩
  ·exact .stalei rfl (h.U _ (hg.used hb)) hd
  ·rw[<-e1];exact .it hb' e0 (e3.trans hn)
 |stalep h1 hu hs=>exact .stalep h1 (h.U _ hu) (stale hu hs)
 |stalem h1 hu hs=>exact .stalem h1 (h.U _ hu) (stale hu hs)
 |stalei h1 hu hs=>exact .stalei h1 (h.U _ hu) (stale hu hs)
 |stales h1 hu hs=>exact .stales h1 (h.U _ hu) (stale hu hs)
 |agg hl _ ih=>exact .agg hl ih
 |tup hl _ ih=>exact .tup hl ih
 |clo hl _ ih=>exact .clo hl ih
theorem ObjR.mono{C C':Ctx}(hg:Good C)(h:Ev C C'){cs:List AV}{o:Obj}(ho:ObjR C cs o):ObjR C' cs o:=by
 cases ho with
 |map hl hi=>exact .map hl (fun i h1 h2=>⟨(hi i h1 h2).1,(hi i h1 h2).2.1.mono hg h,(hi i h1 h2).2.2⟩)
 |siter=>exact .siter
 |miter0=>exact .miter0
 |miter hv=>exact .miter (hv.mono hg h)
theorem Good.lt{C:Ctx}(hg:Good C){id:Nat}(h:C.live id):(C.ρ id).1<C.w.heap.size:=by
 obtain⟨b,hb,hk⟩:=h
 rcases b.k_cases with h0|h1|h2
 ·obtain⟨c,t,e,_⟩:=hg.blk hb (u7 h0)
  exact(Array.getElem?_eq_some_iff.1 e).1
 ·exact absurd h1 hk
 ·obtain⟨o,e,_⟩:=hg.obj hb h2
  exact(Array.getElem?_eq_some_iff.1 e).1
theorem Fr0.refl(C:Ctx):Fr0 C C:=
 ⟨rfl,rfl,rfl,ag7 _,fun _ _ _=>rfl,fun _ h=>.inl h,fun _ h=>h,fun _ h=>.inl h⟩
theorem Ev.refl(C:Ctx):Ev C C:=
 ⟨Fr0.refl C,fun _ h=>h,fun id b' _ hb=>⟨b',hb,ag7 _,fun _=>⟨rfl,rfl,rfl,rfl⟩⟩⟩
theorem Ev.toFr{C C':Ctx}(h:Ev C C'):Fr C C':=⟨h.toFr0,fun id _ hu=>⟨h.U id hu,fun b' hb=>h.old id b' hu hb⟩⟩
theorem Fr.refl(C:Ctx):Fr C C:=(Ev.refl C).toFr
theorem Pin.trans{A B C:Ctx}(h:Pin A B)(k:Pin B C):Pin A C:=fun id ht hu=>by
 obtain⟨u1,o1⟩:=h id ht hu
 obtain⟨u2,o2⟩:=k id ht u1
 refine⟨u2,fun b' hb=>?_⟩
 obtain⟨b,hd,hle,he⟩:=o2 b' hb
 obtain⟨a,ha,hle',hc⟩:=o1 b hd
 refine⟨a,ha,by omega,fun e=>?_⟩
 obtain⟨q1,q2,q3,q4⟩:=he (by omega)
 obtain⟨r1,r2,r3,r4⟩:=hc (by omega)
 exact⟨q1.trans r1,q2.trans r2,q3.trans r3,q4.trans r4⟩
theorem Fr0.trans{A B C:Ctx}(h:Fr0 A B)(k:Fr0 B C):Fr0 A C where
 os:=k.os.trans h.os
 tape:=k.tape.trans h.tape
 output:=k.output.trans h.output
 size:=aha h.size k.size
 keep:=fun i hi hm=>(k.keep i (Nat.lt_of_lt_of_le hi h.size) (fun hb=>(h.mine i hb).elim hm (fun ha=>by omega))).trans (h.keep i hi hm)
 mine:=fun i hi=>(k.mine i hi).elim (fun hb=>h.mine i hb) (fun ha=>.inr (aha h.size ha))
 T:=fun i hi=>k.T i (h.T i hi)
 Tnew:=fun i hi=>by
  rcases k.Tnew i hi with h1|h1|h1
  ·exact h.Tnew i h1
  ·exact .inr (h.mine i h1)
  ·exact .inr (.inr (aha h.size h1))
theorem Fr.trans{A B C:Ctx}(h:Fr A B)(k:Fr B C):Fr A C:=⟨h.toFr0.trans k.toFr0,h.pin.trans k.pin⟩
theorem Ev.trans{A B C:Ctx}(h:Ev A B)(k:Ev B C):Ev A C where
 toFr0:=h.toFr0.trans k.toFr0
 U:=fun i hi=>k.U i (h.U i hi)
 old:=fun id b'' hu hb=>by
  obtain⟨b',hb',hd,he⟩:=k.old id b'' (h.U id hu) hb
  obtain⟨b,hf,ha,hc⟩:=h.old id b' hu hb'
  refine⟨b,hf,aha ha hd,fun e=>?_⟩
  obtain⟨e1,e2,e3,e4⟩:=he (by omega)
  obtain⟨f1,f2,f3,f4⟩:=hc (by omega)
  exact⟨e1.trans f1,e2.trans f2,e3.trans f3,e4.trans f4⟩
def aev(τ:Nat->AV):Operand->AV
 |.tmp t=>τ t
 |.const x=>.v x
 |.global g=>.v (.pointer (some ⟨g,0,none⟩))
 |.func f=>.clo f []
def upd(τ:Nat->AV)(d:Nat)(v:AV):Nat->AV:=fun t=>bif Nat.beq t d then v else τ t
def kj(τ:Nat->AV)(d:Option Nat)(v:AV):Nat->AV:=match d with|some d=>upd τ d v|none=>τ
def bi.set(η:bi)(id:Nat)(b:Option Blk):bi:=fun i=>bif Nat.beq i id then b else η i
def bi.put(η:bi):List (Nat×Option Blk)->bi
 |[]=>η
 |p::r=>bi.put (η.set p.1 p.2) r
theorem TR.v_inv{T:Nat->Prop}{w:World}{x y:Value}(h:TR T w (.v x) y):y=x:=by cases h;rfl
theorem VR.v_inv{C:Ctx}{x y:Value}(h:VR C (.v x) y):y=x:=by
 cases h with
 |imm h=>exact h.v_inv
theorem VR.v(C:Ctx)(x:Value):VR C (.v x) x:=.imm (.v x)
theorem VR.unk(C:Ctx)(x:Value):VR C .unk x:=.imm (.unk x)
def LOp(P:Program)(o:Oper)(τ:Nat->AV)(η:bi)(fp:List Nat)(δ:List (Nat×Option Blk))(v:AV):Prop:=
 ∀(C:Ctx) (a:Act),Good C->(∀x∈o.op.operands,VR C (aev τ x) (a.eval x))->(∀id∈fp,C.η id=η id)->(∀p∈δ,p.1∉fp->¬C.U p.1)->
  ∀(K:Act->World->Prop) (Q:Exit->Act->World->Prop),
   (∀x C',C'.η=C.η.put δ->(∀id,C'.U id↔C.U id\/id∈δ.map (·.1))->Good C'->Ev C C'->VR C' v x->K (a.put o.dst x) C'.w)->o.wp P a C.w K Q
theorem LOp.look{P:Program}{o:Oper}{τ:Nat->AV}{η:bi}{v:AV}(fp:List Nat)
 (h:∀(C:Ctx) (a:Act),Good C->(∀x∈o.op.operands,VR C (aev τ x) (a.eval x))->(∀id∈fp,C.η id=η id)->∃x,(execOp a.eval o).run P C.w=.ok (.value x) C.w/\VR C v x):
 LOp P o τ η fp [] v:=by
 intro C a hg hx hf _ K Q hK
 obtain⟨x,hr,hv⟩:=h C a hg hx hf
 unfold Oper.wp
 rw[hr]
 exact hK x C rfl (fun id=>by simp) hg (Ev.refl C) hv
def AV.val:AV->Value
 |.v x=>x
 |_=>undef
def AV.isV:AV->Bool
 |.v _=>true
 |_=>false
theorem lP{P:Program}{o:Oper}{τ:Nat->AV}{η:bi}{y:Value}(hv:(o.op.operands.toList.all fun x=>(aev τ x).isV)=true)(hs:∀cs b,o.op≠.select cs b)
 (h:∀w,(execOp (fun x=>(aev τ x).val) o).run P w=.ok (.value y) w):LOp P o τ η [] [] (.v y):=
 .look [] fun C a hg hx _=>by
  refine⟨y,?_,VR.v C y⟩
  rw[<-h C.w,execOp_congr o hs]
  intro x hm
  have h1:=List.all_eq_true.1 hv x (by simpa using hm)
  have h2:=hx x hm
  cases e:aev τ x with
  |v c=>rw[e]at h2;exact h2.v_inv
  |_=>rw[e]at h1;cases h1
theorem LOp.move{P:Program}{τ:Nat->AV}{η:bi}{d:Option Tmp}{ty:TypeId}{pos:String}{af:Array Edge}{g:Option (Nat×Bool)}(x:Operand):
 LOp P ⟨d,.move x,ty,pos,af,g⟩ τ η [] [] (aev τ x):=
 .look [] fun C a _ hx _=>⟨a.eval x,rfl,hx x (by simp[Op.operands])⟩
theorem LOp.assign{P:Program}{τ:Nat->AV}{η:bi}{d:Option Tmp}{ty:TypeId}{pos:String}{af:Array Edge}{g:Option (Nat×Bool)}(x:Operand):
 LOp P ⟨d,.assign x,ty,pos,af,g⟩ τ η [] [] (aev τ x):=
 .look [] fun C a _ hx _=>⟨a.eval x,rfl,hx x (by simp[Op.operands])⟩
theorem LOp.pick{P:Program}{τ:Nat->AV}{η:bi}{d:Option Tmp}{ty:TypeId}{pos:String}{af:Array Edge}{g:Option (Nat×Bool)}{c x y:Operand}{t:Bool}(hc:aev τ c=.v (.bool t)):
 LOp P ⟨d,.pick c x y,ty,pos,af,g⟩ τ η [] [] (if t then aev τ x else aev τ y):=
 .look [] fun C a _ hx _=>by have h1:=hx c (by simp[Op.operands]);rw[hc]at h1;have h2:=h1.v_inv;refine⟨if t then a.eval x else a.eval y,by simp only[execOp,h2,asBool,Sem.run_bind,ahc,ahb],?_⟩;cases t;exact hx y (by simp[Op.operands]);exact hx x (by simp[Op.operands])
structure St where
 τ:Nat->AV
 η:bi
 u:Nat
structure SRel(N:Nat)(C:Ctx)(s:St)(a:Act):Prop where
 good:Good C
 η:C.η=s.η
 u:∀id,C.U id->id<s.u\/TOP<=id
 defers:a.defers=[]
 size:a.tmps.size=N
 τ:∀t,VR C (s.τ t) (a.eval (.tmp t))
theorem SRel.eval{N:Nat}{C:Ctx}{s:St}{a:Act}(h:SRel N C s a)(x:Operand):VR C (aev s.τ x) (a.eval x):=by
 cases x with
 |tmp t=>exact h.τ t
 |const c=>exact VR.v C c
 |global g=>exact VR.v C _
 |func f=>exact .imm (.clo (by simp) (fun i hi=>by simp at hi))
theorem SRel.put{N:Nat}{C C':Ctx}{s:St}{a:Act}(h:SRel N C s a)(he:Ev C C')(hg:Good C'){u':Nat}(hu:∀id,C'.U id->id<u'\/TOP<=id){dst:Option Tmp}(hd:∀d,dst=some d->d<N){v:AV}{x:Value}(hv:VR C' v x):
 SRel N C' ⟨kj s.τ dst v,C'.η,u'⟩ (a.put dst x):=by
 refine⟨hg,rfl,hu,?_,?_,fun t=>?_⟩
 ·cases dst<;>simp[Act.put,h.defers]
 ·cases dst<;>simp[Act.put,h.size]
 ·cases dst with
  |none=>exact(h.τ t).mono h.good he
  |some d=>
   have ha:d<a.tmps.size:=by rw[h.size];exact hd d rfl
   by_cases e:t=d
   ·subst e
    have e1:kj s.τ (some t) v t=v:=by simp[kj,upd,cond]
    have e2:(a.put (some t) x).eval (.tmp t)=x:=by simp[Act.eval,Act.put,ha]
    rw[e2];show VR C' (kj s.τ (some t) v t) x;rw[e1];exact hv
   ·have e1:kj s.τ (some d) v t=s.τ t:=by
     have:Nat.beq t d=false:=by
      cases hb:Nat.beq t d with
      |false=>rfl
      |true=>exact absurd (agu hb) e
     simp[kj,upd,cond,this]
    have e2:(a.put (some d) x).eval (.tmp t)=a.eval (.tmp t):=Act.eval_put (fun q hq=>by cases hq;simp;exact e)
    rw[e2];show VR C' (kj s.τ (some d) v t) _;rw[e1];exact(h.τ t).mono h.good he
def AWP(P:Program)(N:Nat)(c:Code)(Q:Exit->St->Prop)(s:St):Prop:=
 ∀C a,SRel N C s a->c.wp P (fun e a' w'=>∃s' C',Q e s'/\C'.w=w'/\SRel N C' s' a'/\Fr C C') a C.w
def A3(P:Program)(N:Nat)(ops:Array Oper)(l:List Oper)(K:St->Prop)(s:St):Prop:=
 ∀C a (Q:Exit->Act->World->Prop),SRel N C s a->(∀s' C' a',K s'->SRel N C' s' a'->Fr C C'->Q .normal a' C'.w)->wpList P ops Q l a C.w
section
variable{P:Program}{N:Nat}{Q:Exit->St->Prop}{s:St}
def m8(ops:Array Oper)(τ:Nat->AV)(o:Oper):Option Bool:=
 match o.guard with
 |none=>some true
 |some (j,b)=>match(ops[j]?).bind (·.dst)with
  |none=>none
  |some d=>match τ d with
   |.v (.bool c)=>some (c==b)
   |.v (.tuple _)=>some false
   |_=>none
theorem nr{ops:Array Oper}{C:Ctx}{a:Act}{o:Oper}{b:Bool}(h:m8 ops s.τ o=some b)(hr:SRel N C s a)(hd:∀j c,o.guard=some (j,c)->∀d,(ops[j]?).bind (·.dst)=some d->d<N):
 Region.wanted o (yielded ops a.tmps)=b:=by
 unfold m8 at h
 unfold Region.wanted
 cases hg:o.guard with
 |none=>rw[hg]at h;simpa using h
 |some p=>
  obtain⟨j,c⟩:=p
  rw[hg]at h
  simp only at h ⊢
  cases hj:(ops[j]?).bind (·.dst)with
  |none=>rw[hj]at h;cases h
  |some d=>
   rw[hj]at h
   simp only at h
   have ha:=hd j c hg d hj
   rw[<-hr.size]at ha
   have h2:=hr.τ d
   cases e:s.τ d with
   |v x=>
    rw[e]at h h2
    cases x with
    |bool t=>
     have h3:=h2.v_inv
     have h4:a.tmps[d]? =some (.bool t):=by simp only[Act.eval]at h3;rw[Array.getD_eq_getD_getElem?]at h3;rw[Array.getElem?_eq_getElem ha]at h3 ⊢;simpa using h3
     simp only[yielded,hj,aho,h4]
     simp only[agv]at h
     rw[<-h]
     cases t<;>cases c<;>rfl
    |tuple l=>
     have h3:=h2.v_inv
     have h4:a.tmps[d]? =some (.tuple l):=by simp only[Act.eval]at h3;rw[Array.getD_eq_getD_getElem?]at h3;rw[Array.getElem?_eq_getElem ha]at h3 ⊢;simpa using h3
     simp only[yielded,hj,aho,h4]
     simp only[agv]at h
     rw[<-h]
     rfl
    |_=>simp at h
   |_=>rw[e]at h;simp at h
theorem oN{ops:Array Oper}{K:St->Prop}(h:K s):A3 P N ops [] K s:=
 fun C a Q hr hK=>hK s C a h hr (Fr.refl C)
def sp(u id:Nat):Bool:=Nat.ble (id+1) u||Nat.ble TOP id
theorem Zn{u id:Nat}:sp u id=true↔(id<u\/TOP<=id):=by unfold sp;rw[Bool.or_eq_true,Nat.ble_eq,Nat.ble_eq];rfl
def zn(fp:List Nat)(δ:List (Nat×Option Blk))(u u':Nat):Bool:=δ.all fun p=>(fp.contains p.1&&sp u p.1)||(Nat.ble u p.1&&Nat.ble (p.1+1) u'&&Nat.ble (p.1+1) TOP)
def Km:Op->Bool
 |.defer _=>false
 |_=>true
def jh(N:Nat)(ops:Array Oper)(o:Oper):Bool:=
 Km o.op&&(match o.dst with|some d=>Nat.ble (d+1) N|none=>true)&&(match o.guard with|none=>true|some (j,_)=>match(ops[j]?).bind (·.dst)with|none=>true|some d=>Nat.ble (d+1) N)
theorem jh.dst{ops:Array Oper}{o:Oper}(h:jh N ops o=true):∀d,o.dst=some d->d<N:=by intro d hd;unfold jh at h;rw[hd]at h;simp only[ahq]at h;exact ag9 h.1.2
theorem o7{ops:Array Oper}{o:Oper}(h:jh N ops o=true):∀c,o.op≠.defer c:=by grind[jh,Km]
theorem jh.guard{ops:Array Oper}{o:Oper}(h:jh N ops o=true):∀j c,o.guard=some (j,c)->∀d,(ops[j]?).bind (·.dst)=some d->d<N:=by intro j c hg d hd;unfold jh at h;rw[hg]at h;simp only[hd,ahq]at h;exact ag9 h.2
theorem A3.op{ops:Array Oper}{K:St->Prop}{o:Oper}{l:List Oper}{fp:List Nat}{δ:List (Nat×Option Blk)}{v:AV}(u':Nat)(hL:LOp P o s.τ s.η fp δ v)(hw:m8 ops s.τ o=some true)(hd:jh N ops o=true)
 (hu:Nat.ble s.u u'=true)(hn:zn fp δ s.u u'=true)(h:A3 P N ops l K ⟨kj s.τ o.dst v,s.η.put δ,u'⟩):A3 P N ops (o::l) K s:=by
 intro C a Q hr hK
 unfold wpList
 rw[nr hw hr (jh.guard hd)]
 simp only[if_true]
 left
 refine hL C a hr.good (fun x _=>hr.eval x) (fun id _=>by rw[hr.η]) (fun p hp hb hU=>?_) _ _ fun x C' hη hc hg he hv=>?_
 ·have h1:=List.all_eq_true.1 hn p hp
  simp only[Bool.or_eq_true,ahq,List.contains_iff_mem]at h1
  rcases h1 with⟨h1,_⟩|⟨⟨h1,_⟩,h3⟩
  ·exact hb h1
  ·have:=ag9 h1
   have:=ag9 h3
   have:=hr.u _ hU
   omega
 ·have hu1:=ag9 hu
  have ha:∀id,C'.U id->id<u'\/TOP<=id:=by intro id hf;rcases(hc id).1 hf with h1|h1;have:=hr.u _ h1;omega;obtain⟨p,hp,rfl⟩:=ahh.1 h1;have h2:=List.all_eq_true.1 hn p hp;simp only[Bool.or_eq_true,ahq]at h2;rcases h2 with⟨_,h2⟩|⟨⟨_,h2⟩,_⟩;have:=Zn.1 h2;omega;exact .inl (ag9 h2)
  have hs:=hr.put he hg ha (jh.dst hd) hv
  rw[hη,hr.η]at hs
  exact h C' _ Q hs (fun s' C'' a' hk hh hi=>hK s' C'' a' hk hh (he.toFr.trans hi))
theorem A3.skip{ops:Array Oper}{K:St->Prop}{o:Oper}{l:List Oper}(hw:m8 ops s.τ o=some false)(hd:jh N ops o=true)
 (h:A3 P N ops l K ⟨kj s.τ o.dst (.v undef),s.η,s.u⟩):A3 P N ops (o::l) K s:=by
 intro C a Q hr hK
 unfold wpList
 rw[nr hw hr (jh.guard hd)]
 simp only[Bool.false_eq_true,if_false]
 have hs:=hr.put (Ev.refl C) hr.good hr.u (jh.dst hd) (VR.v C undef)
 rw[hr.η]at hs
 exact h C _ Q hs hK
theorem wR{id:Nat}{l:List Oper}(h:A3 P N l.toArray l (fun s'=>Q .normal s') s):AWP P N (.region id l.toArray false) Q s:=by intro C a hr;exact wp_region_lit (h C a _ hr (fun s' C' a' hk ha hb=>⟨s',C',hk,rfl,ha,hb⟩))
theorem AWP.mono{Q':Exit->St->Prop}{c:Code}(h:AWP P N c Q s)(hq:∀e s',Q e s'->Q' e s'):AWP P N c Q' s:=
 fun C a hr=>Code.wp_mono (fun e a' w' ⟨s',C',h1,h2⟩=>⟨s',C',hq _ _ h1,h2⟩) (h C a hr)
theorem wK(h:Q .normal s):AWP P N .skip Q s:=fun C a hr=>wp_skip ⟨s,C,h,rfl,hr,Fr.refl C⟩
theorem AWP.exit{id:Nat}(h:Q (.exit id) s):AWP P N (.exit id) Q s:=fun C a hr=>wp_exit ⟨s,C,h,rfl,hr,Fr.refl C⟩
theorem wT(h:Q .ret s):AWP P N .ret Q s:=fun C a hr=>wp_ret ⟨s,C,h,rfl,hr,Fr.refl C⟩
def andThen(next:St->Prop)(Q:Exit->St->Prop):Exit->St->Prop
 |.normal,s=>next s
 |e,s=>Q e s
theorem wS{x y:Code}(h:AWP P N x (andThen (AWP P N y Q) Q) s):AWP P N (.seq x y) Q s:=by
 intro C a hr
 refine wp_seq (Code.wp_mono ?_ (h C a hr))
 rintro e a' w' ⟨s',C',hq,rfl,ha,he⟩
 cases e with
 |normal=>exact Code.wp_mono (fun e a'' w'' ⟨s'',C'',h1,h2,h3,h4⟩=>⟨s'',C'',h1,h2,h3,he.trans h4⟩) (hq C' a' ha)
 |_=>exact⟨s',C',hq,rfl,ha,he⟩
theorem wC{c:Operand}{x y:Code}{t:Bool}(hc:aev s.τ c=.v (.bool t))(ht:t=true->AWP P N x Q s)(hf:t=false->AWP P N y Q s):AWP P N (.cond c x y) Q s:=by intro C a hr;have h1:=hr.eval c;rw[hc]at h1;exact wp_cond_split h1.v_inv (fun e=>ht e C a hr) (fun e=>hf e C a hr)
theorem AWP.condT{c:Operand}{x y:Code}(hc:aev s.τ c=.v (.bool true))(h:AWP P N x Q s):AWP P N (.cond c x y) Q s:=wC hc (fun _=>h) (fun e=>by cases e)
theorem AWP.condF{c:Operand}{x y:Code}(hc:aev s.τ c=.v (.bool false))(h:AWP P N y Q s):AWP P N (.cond c x y) Q s:=wC hc (fun e=>by cases e) (fun _=>h)
def ug(id:Nat)(Q:Exit->St->Prop):Exit->St->Prop
 |.exit id',s=>bif Nat.beq id' id then Q .normal s else Q (.exit id') s
 |e,s=>Q e s
theorem wB{id:Nat}{c:Code}(h:AWP P N c (ug id Q) s):AWP P N (.block id c) Q s:=by
 intro C a hr;refine wp_block (Code.wp_mono ?_ (h C a hr));rintro e a' w' ⟨s',C',hq,h2⟩;cases e with
 |exit id'=>
  simp only[Exit.inBlock]
  simp only[ug]at hq
  by_cases e:id'=id
  ·subst e
   rw[Nat.beq_refl]at hq
   simp only[cond_true]at hq
   simp only[if_true]
   exact⟨s',C',hq,h2⟩
  ·have:Nat.beq id' id=false:=by
    cases hb:Nat.beq id' id with
    |false=>rfl
    |true=>exact absurd (agu hb) e
   rw[this]at hq
   simp only[cond_false]at hq
   simp only[e,if_false]
   exact⟨s',C',hq,h2⟩
 |_=>exact⟨s',C',hq,h2⟩
theorem N8{c:Code}{Q:Exit->Act->World->Prop}(I:Nat->Act->World->Prop)(round:∀n a w,I n a w->c.wp P (Exit.then (fun a' w'=>∃m,m<n/\I m a' w') Q) a w){n:Nat}{a:Act}{w:World}(h0:I n a w):(Code.loop c).wp P Q a w:=by
 intro b k cs
 have key:∀n a w,I n a w->∃e a' w',Q e a' w'/\Arrives P (lone (b.at a (.code c::.inLoop c::k)) cs w) b k cs e a' w':=by
  intro n;induction n using Nat.strongRecOn with
  |_ n ih=>
   intro a w hI
   obtain⟨e,a₁,w₁,hq,ha⟩:=round n a w hI b (.inLoop c::k) cs
   cases e with
   |normal=>
    obtain⟨m,hb,hI₁⟩:=hq
    obtain⟨e₂,a₂,w₂,hq₂,harr₂⟩:=ih m hb a₁ w₁ hI₁
    exact⟨e₂,a₂,w₂,hq₂,.of_steps (Steps.trans ha (.one step_inLoop)) harr₂⟩
   |exit id=>exact⟨_,a₁,w₁,hq,.pass (x:=.inLoop c) rfl (fun _ _=>.inl (by simp)) ha⟩
   |goto l=>exact⟨_,a₁,w₁,hq,.pass (x:=.inLoop c) rfl (fun _ _=>.inl (by simp)) ha⟩
   |ret=>exact⟨_,a₁,w₁,hq,.pass (x:=.inLoop c) rfl (fun _ _=>.inl (by simp)) ha⟩
   |panic ch=>exact⟨_,a₁,w₁,hq,.pass (x:=.inLoop c) rfl (fun _ _=>.inl (by simp)) ha⟩
   |outgrown=>exact⟨_,a₁,w₁,hq,.pass (x:=.inLoop c) rfl (fun _ _=>.inl (by simp)) ha⟩
 obtain⟨e,a',w',hq,ha⟩:=key _ a w h0;exact⟨e,a',w',hq,.of_steps (.one step_loop) ha⟩
theorem AWP.loop{c:Code}(I:Nat->St->Prop)(hI:∀n s,I n s->AWP P N c (andThen (fun s'=>∃m,m<n/\I m s') Q) s){n:Nat}(h0:I n s):AWP P N (.loop c) Q s:=by
 intro C a hr;refine N8 (fun n a w=>∃s' C',I n s'/\C'.w=w/\SRel N C' s' a/\Fr C C') ?_ ⟨s,C,h0,rfl,hr,Fr.refl C⟩;rintro n a w ⟨s',C',hi,rfl,ha,he⟩;refine Code.wp_mono ?_ (hI n s' hi C' a ha);rintro e a'' w'' ⟨s'',C'',hq,rfl,hr'',he''⟩;cases e with
 |normal=>
  obtain⟨m,hm,hb⟩:=hq
  exact⟨m,hm,s'',C'',hb,rfl,hr'',he.trans he''⟩
 |_=>exact⟨s'',C'',hq,rfl,hr'',he.trans he''⟩
end
theorem VR.ptr_inv{C:Ctx}{id ver off:Nat}{b:Blk}{x:Value}(h:VR C (.ptr id ver off) x)(hb:C.η id=some b)(hv:b.ver=ver):x=.pointer (some ⟨(C.ρ id).1,(C.ρ id).2+off,none⟩):=by
 cases h with
 |imm h=>cases h
 |ptr _ _ _=>rfl
 |stalep _ _ hs=>have:=hs b hb;omega
theorem VR.sl_inv{C:Ctx}{id ver off len:Nat}{b:Blk}{x:Value}(h:VR C (.sl id ver off len) x)(hb:C.η id=some b)(hv:b.ver=ver)(hn:b.nilp=false):
 ∃a cap,x=.slice (some a) len cap/\len<=cap/\cap<=maxLen/\len<=140737488355328/\(len=0/\cap=0\/a=⟨(C.ρ id).1,(C.ρ id).2+off,none⟩/\(C.ρ id).2+off+cap*b.esz<=C.sz id):=by
 cases h with
 |imm h=>cases h
 |sl hb' _ ha h1 h2 h3 h4=>rw[hb]at hb';cases hb';exact⟨_,_,rfl,h1,h2,h3,.inr ⟨rfl,h4⟩⟩
 |slz=>exact⟨_,0,rfl,ag7 _,ag5 _,ag5 _,.inl ⟨rfl,rfl⟩⟩
 |slnil hb' _ ha=>rw[hb]at hb';cases hb';rw[dl hn]at ha;cases ha
 |stales _ _ hs=>have:=hs b hb;omega
theorem VR.tree_inv{C:Ctx}{n:Nat}{xs:List (List AV)}{x:Value}(h:VR C (.tree n xs) x):TR C.T C.w (.tree n xs) x:=by
 cases h with
 |imm h=>exact h
theorem VR.tp_inv{C:Ctx}{cs:List AV}{off:Nat}{x:Value}(h:VR C (.tp cs off) x):TR C.T C.w (.tp cs off) x:=by
 cases h with
 |imm h=>exact h
theorem VR.agg_inv{C:Ctx}{cs:List AV}{x:Value}(h:VR C (.agg cs) x):∃vs,x=.agg vs/\cs.length=vs.size/\∀i (h:i<cs.length) (h':i<vs.size),VR C cs[i] vs[i]:=by
 cases h with
 |imm h=>cases h with
  |agg hl hi=>exact⟨_,rfl,hl,fun i h h'=>.imm (hi i h h')⟩
 |agg hl hi=>exact⟨_,rfl,hl,hi⟩
theorem VR.tup_inv{C:Ctx}{cs:List AV}{x:Value}(h:VR C (.tup cs) x):∃vs,x=.tuple vs/\cs.length=vs.size/\∀i (h:i<cs.length) (h':i<vs.size),VR C cs[i] vs[i]:=by
 cases h with
 |imm h=>cases h with
  |tup hl hi=>exact⟨_,rfl,hl,fun i h h'=>.imm (hi i h h')⟩
 |tup hl hi=>exact⟨_,rfl,hl,hi⟩
theorem VR.clo_inv{C:Ctx}{f:FuncId}{cs:List AV}{x:Value}(h:VR C (.clo f cs) x):∃vs,x=.func (.func f) #[] vs/\cs.length=vs.size/\∀i (h:i<cs.length) (h':i<vs.size),VR C cs[i] vs[i]:=by
 cases h with
 |imm h=>cases h with
  |clo hl hi=>exact⟨_,rfl,hl,fun i h h'=>.imm (hi i h h')⟩
 |clo hl hi=>exact⟨_,rfl,hl,hi⟩
def AV.cells:AV->List AV
 |.agg cs=>cs
 |.v (.agg cs)=>cs.toList.map .v
 |a=>[a]
def AV.known:AV->Bool
 |.unk=>false
 |_=>true
def AV.one:AV->Bool
 |.v x=>x.oneCell'
 |.agg _|.tup _|.unk=>false
 |_=>true
theorem VR.one{C:Ctx}{a:AV}{x:Value}(h:VR C a x)(h1:a.one=true):x.oneCell'=true:=by
 cases h with
 |imm h=>cases h<;>first|rfl|exact h1|cases h1
 |stalep h=>exact h
 |stales h=>exact h
 |stalem h=>exact h
 |stalei h=>exact h
 |agg=>cases h1
 |tup=>cases h1
 |_=>rfl
theorem VR.cells{C:Ctx}{a:AV}{x:Value}(h:VR C a x)(hk:a.known=true):a.cells.length=x.cells.size/\∀i (h:i<a.cells.length) (h':i<x.cells.size),VR C a.cells[i] x.cells[i]:=by
 have one:∀{a:AV} {x:Value},VR C a x->a.cells=[a]->x.cells=#[x]->a.cells.length=x.cells.size/\∀i (h:i<a.cells.length) (h':i<x.cells.size),VR C a.cells[i] x.cells[i]:=by intro a x h e1 e2;refine⟨by rw[e1,e2];rfl,fun i hi ha=>?_⟩;have:i=0:=(by rw[e1]at hi;simp at hi;omega);subst this;simp only[e1,e2];exact h
 have h0:=h;cases h with
 |imm h=>cases h with
  |v x=>
   cases x with
   |agg vs=>exact⟨by simp[AV.cells,Value.cells],fun i hi ha=>by simp[AV.cells,Value.cells];exact VR.v C _⟩
   |_=>exact one h0 rfl rfl
  |unk=>cases hk
  |agg hl hi=>exact⟨hl,fun i h h'=>.imm (hi i h h')⟩
  |_=>exact one h0 rfl rfl
 |agg hl hi=>exact⟨hl,hi⟩
 |stalep h=>exact one h0 rfl (by cases x<;>first|rfl|cases h)
 |stales h=>exact one h0 rfl (by cases x<;>first|rfl|cases h)
 |stalem h=>exact one h0 rfl (by cases x<;>first|rfl|cases h)
 |stalei h=>exact one h0 rfl (by cases x<;>first|rfl|cases h)
 |_=>exact one h0 rfl rfl
def dx(P:Program)(t i:Nat):Option (Nat×Nat):=match P.underlying t with
 |some (.struct fs)=>(fs[i]?).bind fun f=>(P.info? f.type).map fun inf=>(f.offset,inf.size)
 |_=>none
theorem tj{P:Program}{t i off sz:Nat}(h:dx P t i=some (off,sz))(hz:sz≠0)(b o:Nat)(w:World):
 (Instr.fieldAt t (.pointer (some ⟨b,o,none⟩)) i).run P w=.ok (.pointer (some ⟨b,o+off,none⟩)) w:=by
 unfold dx at h
 cases hu:P.underlying t with
 |none=>rw[hu]at h;cases h
 |some d=>
  rw[hu]at h
  cases d with
  |struct fs=>
   simp only at h
   cases hf:fs[i]? with
   |none=>rw[hf]at h;cases h
   |some f=>
    rw[hf]at h
    simp only[aho]at h
    cases hi:P.info? f.type with
    |none=>rw[hi]at h;cases h
    |some inf=>
     rw[hi]at h
     simp only[ahn,agv,Prod.mk.injEq]at h
     obtain⟨rfl,rfl⟩:=h
     simp[Instr.fieldAt,run_underlying hu,hf,Instr.sureAddr,fieldPlace,sizeOf,typeInfo,hi,hz,Addr.add_mid]
  |_=>cases h
section
variable{P:Program}{τ:Nat->AV}{η:bi}{d:Option Tmp}{ty:TypeId}{pos:String}{af:Array Edge}{g:Option (Nat×Bool)}
theorem lF{t i off sz:Nat}{x:Operand}{id ver o:Nat}{b:Blk}(hf:dx P t i=some (off,sz))(hz:Nat.beq sz 0=false)(hx:aev τ x=.ptr id ver o)(hb:η id=some b)(hv:b.ver=ver)(hn:b.nilp=false):
 LOp P ⟨d,.fieldAddr t x i,ty,pos,af,g⟩ τ η [id] [] (.ptr id ver (o+off)):=
 .look [id] fun C a hg ha hc=>by
  have hb':C.η id=some b:=(hc id (by simp)).trans hb;have h1:=ha x (by simp[Op.operands])
  rw[hx]at h1;have h2:=h1.ptr_inv hb' hv
  refine⟨.pointer (some ⟨(C.ρ id).1,(C.ρ id).2+(o+off),none⟩),?_,.ptr hb' hv hn⟩;have hd:sz≠0:=fun e=>by rw[e]at hz;cases hz
  simp[execOp,h2,tj hf hd,Nat.add_assoc]
theorem lr{t i off sz:Nat}{x:Operand}{cs:List AV}{o:Nat}(hf:dx P t i=some (off,sz))(hz:Nat.beq sz 0=false)(hx:aev τ x=.tp cs o):
 LOp P ⟨d,.fieldAddr t x i,ty,pos,af,g⟩ τ η [] [] (.tp cs (o+off)):=
 .look [] fun C a hg ha hfp=>by
  have h1:=ha x (by simp[Op.operands]);rw[hx]at h1;have hb:sz≠0:=fun e=>by rw[e]at hz;cases hz
  have h2:=h1.tp_inv;generalize hd:a.eval x=xv at h2;cases h2 with
  |tp cell hT hc hr=>
   rename_i bb base
   refine⟨.pointer (some ⟨bb,base+(o+off),none⟩),?_,.imm (.tp cell hT hc hr)⟩
   simp[execOp,hd,tj hf hb,Nat.add_assoc]
def ej(P:Program)(t:Nat):Option (Option Nat):=match P.underlying t,P.info? t with
 |some (.struct _),some i=>some (some i.size)
 |some (.array _ _),some i=>some (some i.size)
 |some (.struct _),none=>none
 |some (.array _ _),none=>none
 |some _,_=>some none
 |none,_=>none
theorem qd{t:Nat}(h:ej P t=some none){b o:Nat}{w:World}{x:Value}(hc:w.cell? ⟨b,o,none⟩=some x):
 (Instr.loadAt t (.pointer (some ⟨b,o,none⟩))).run P w=.ok x w:=by
 unfold ej at h
 cases hu:P.underlying t with
 |none=>rw[hu]at h;cases hi:P.info? t<;>rw[hi]at h<;>cases h
 |some dd=>
  rw[hu]at h
  cases dd<;>first
   |(simp[Instr.loadAt,Instr.sureAddr,loadVar,isAgg,run_underlying hu,run_load,hc];done)
   |(cases hi:P.info? t<;>rw[hi]at h<;>simp at h)
theorem mm{t n:Nat}(h:ej P t=some (some n)){b o:Nat}{w:World}{cs:List Value}(hl:cs.length=n)(hc:∀j v,cs[j]? =some v->w.cell? ⟨b,o+j,none⟩=some v):
 (Instr.loadAt t (.pointer (some ⟨b,o,none⟩))).run P w=.ok (.agg cs.toArray) w:=by
 unfold ej at h
 cases hu:P.underlying t with
 |none=>rw[hu]at h;cases hi:P.info? t<;>rw[hi]at h<;>cases h
 |some dd=>
  rw[hu]at h
  cases dd<;>first
   |(
    cases hi:P.info? t with
    |none=>rw[hi]at h;cases h
    |some inf=>
     rw[hi]at h
     simp only[agv]at h
     exact run_loadAt_mid w b o t cs _ hc hu rfl (by rw[hi];simp;omega))
   |(cases hi:P.info? t<;>rw[hi]at h<;>simp at h)
theorem Good.cell{C:Ctx}(hg:Good C){id:Nat}{b:Blk}(hb:C.η id=some b)(hn:b.nilp=false){j:Nat}(hj:j<b.cs.length):
 ∃x,C.w.cell? ⟨(C.ρ id).1,(C.ρ id).2+j,none⟩=some x/\VR C b.cs[j] x:=by
 obtain⟨cells,t,h1,h2,h3,h4⟩:=hg.blk hb hn
 have ha:(C.ρ id).2+j<cells.size:=by omega
 exact⟨cells[(C.ρ id).2+j],by simp[World.cell?,h1,ha],h4 j hj ha⟩
theorem ef{n:Nat}{p:Nat->Value->Prop}(h:∀j,j<n->∃x,p j x):∃f:Nat->Value,∀j,j<n->p j (f j):=
 ⟨fun j=>if hj:j<n then Classical.choose (h j hj)else undef,fun j hj=>by simp only[hj,dif_pos];exact Classical.choose_spec (h j hj)⟩
theorem lD{t:Nat}{x:Operand}{id ver o:Nat}{b:Blk}{v:AV}(ht:ej P t=some none)(hx:aev τ x=.ptr id ver o)(hb:η id=some b)(hv:b.ver=ver)(hn:b.nilp=false)(hc:b.cs[o]? =some v):
 LOp P ⟨d,.load t x,ty,pos,af,g⟩ τ η [id] [] v:=
 .look [id] fun C a hg hd he=>by have hb':C.η id=some b:=(he id (by simp)).trans hb;have h1:=hd x (by simp[Op.operands]);rw[hx]at h1;have h2:=h1.ptr_inv hb' hv;obtain⟨hf,hh⟩:=ahl.1 hc;obtain⟨y,hy,ha⟩:=hg.cell hb' hn hf;rw[hh]at ha;refine⟨y,?_,ha⟩;simp[execOp,h2,qd ht hy]
theorem w9{t n:Nat}{x:Operand}{id ver o:Nat}{b:Blk}(ht:ej P t=some (some n))(hx:aev τ x=.ptr id ver o)(hb:η id=some b)(hv:b.ver=ver)(hn:b.nilp=false)(hc:o+n<=b.cs.length):
 LOp P ⟨d,.load t x,ty,pos,af,g⟩ τ η [id] [] (.agg ((b.cs.drop o).take n)):=
 .look [id] fun C a hg hh hk=>by have hb':C.η id=some b:=(hk id (by simp)).trans hb;have h1:=hh x (by simp[Op.operands]);rw[hx]at h1;have h2:=h1.ptr_inv hb' hv;obtain⟨f,hf⟩:=ef (n:=n) (p:=fun j y=>C.w.cell? ⟨(C.ρ id).1,(C.ρ id).2+o+j,none⟩=some y/\VR C (b.cs.getD (o+j) .unk) y) (fun j hj=>by obtain⟨y,hy,hl⟩:=hg.cell hb' hn (j:=o+j) (by omega);refine⟨y,by rw[Nat.add_assoc];exact hy,have:b.cs.getD (o+j) .unk=b.cs[o+j]'(by omega):=(by simp[List.getD,show o+j<b.cs.length by omega]);?_⟩;rw[this];exact hl);have ha:((List.range n).map f).length=n:=(by simp);exact⟨.agg ((List.range n).map f).toArray,by simp only[execOp,h2,Sem.run_bind,mm ht ha (fun j v hj=>by obtain⟨hm,he⟩:=ahl.1 hj;simp only[List.getElem_map,List.getElem_range]at he;subst he;exact(hf j (by simpa using hm)).1),ahb,ahc],.agg (by simp;omega) (fun i hi hd=>by have ho:i<n:=(by simp at hd;exact hd);simp only[List.getElem_toArray,List.getElem_map,List.getElem_range,List.getElem_take,List.getElem_drop];have:=(hf i ho).2;simpa[List.getD,show o+i<b.cs.length by omega]using this)⟩
theorem lE{t:Nat}{x:Operand}{cs:List AV}{o:Nat}{v:AV}(ht:ej P t=some none)(hx:aev τ x=.tp cs o)(hc:cs[o]? =some v):
 LOp P ⟨d,.load t x,ty,pos,af,g⟩ τ η [] [] v:=
 .look [] fun C a hg hb hfp=>by
  have h1:=hb x (by simp[Op.operands]);rw[hx]at h1;have h2:=h1.tp_inv
  generalize hd:a.eval x=xv at h2;obtain⟨ha,he⟩:=ahl.1 hc;cases h2 with
  |tp cell hT hf hr=>
   refine⟨cell o,?_,?_⟩
   ·simp[execOp,hd,qd ht (hf o ha)]
   ·have:=hr o ha
    rw[he]at this
    exact .imm this
theorem Iz{t n:Nat}{x:Operand}{cs:List AV}{o:Nat}(ht:ej P t=some (some n))(hx:aev τ x=.tp cs o)(hc:o+n<=cs.length):
 LOp P ⟨d,.load t x,ty,pos,af,g⟩ τ η [] [] (.agg ((cs.drop o).take n)):=
 .look [] fun C a hg hd hfp=>by
  have h1:=hd x (by simp[Op.operands]);rw[hx]at h1;have h2:=h1.tp_inv
  generalize hf:a.eval x=xv at h2;cases h2 with
  |tp cell hT hh hr=>
   have ha:((List.range n).map fun j=>cell (o+j)).length=n:=by simp
   refine⟨.agg ((List.range n).map fun j=>cell (o+j)).toArray,?_,.agg (by simp;omega) (fun i hi hb=>?_)⟩
   ·simp only[execOp,hf,Sem.run_bind,mm ht ha (fun j v hj=>by
     obtain⟨hk,he⟩:=ahl.1 hj
     simp only[List.getElem_map,List.getElem_range]at he
     subst he
     rw[Nat.add_assoc]
     exact hh (o+j) (by simp at hk;omega)),ahb,ahc]
   ·have hin:i<n:=by simp at hb;exact hb
    simp only[List.getElem_toArray,List.getElem_map,List.getElem_range,List.getElem_take,List.getElem_drop]
    exact .imm (hr (o+i) (by omega))
end
def Ctx.alloc(C:Ctx)(u:Nat)(cells:Array Value)(t:TypeId)(b:Blk):Ctx:=
 {ρ:=fun i=>if i=u then(C.w.heap.size,0)else C.ρ i,sz:=fun i=>if i=u then cells.size else C.sz i,η:=C.η.set u (some b),U:=fun i=>C.U i\/i=u,T:=C.T,w:=C.w.alloc (.cells cells t)}
theorem ak(η:bi)(id:Nat)(b:Option Blk):η.set id b id=b:=by simp[bi.set]
theorem am(η:bi){id i:Nat}(b:Option Blk)(h:i≠id):η.set id b i=η i:=by grind[Nat.beq,agu,bi.set]
section
variable{C:Ctx}{u:Nat}{cells:Array Value}{t:TypeId}{b:Blk}
theorem dg(hg:Good C)(hu:¬C.U u)(hn:b.nilp=false):Ev C (C.alloc u cells t b) where
 os:=rfl
 tape:=rfl
 output:=rfl
 size:=by simp[Ctx.alloc]
 keep:=fun k hk _=>Below.heap_alloc _ _ _ hk
 mine:=fun k ⟨id,⟨b',hb',ha⟩,hk⟩=>by by_cases e:id=u;right;subst e;simp only[Ctx.alloc,if_true]at hk;omega;left;simp only[Ctx.alloc]at hb' hk;rw[am _ _ e]at hb';simp only[e,if_false]at hk;exact⟨id,⟨b',hb',ha⟩,hk⟩
 T:=fun _ h=>h
 Tnew:=fun _ h=>.inl h
 U:=fun _ h=>.inl h
 old:=fun id b' hb hb'=>by have e:id≠u:=fun e=>hu (e▸hb);simp only[Ctx.alloc]at hb';rw[am _ _ e]at hb';exact⟨b',hb',ag7 _,fun _=>⟨by simp[Ctx.alloc,e],by simp[Ctx.alloc,e],rfl,rfl⟩⟩
theorem c8(hg:Good C)(hu:¬C.U u)(hn:b.nilp=false)(hl:b.cs.length<=cells.size)(hv:∀j (h:j<b.cs.length) (h':j<cells.size),VR C b.cs[j] cells[j])(ht:b.ver=TV->cells.size=b.cs.length:=by intro e;exact absurd e (by show¬((0:Nat)=TV);decide)):Good (C.alloc u cells t b):=by
 have he:=dg (C:=C) (u:=u) (cells:=cells) (t:=t) (b:=b) hg hu hn;have hne:∀{id b'},C.η id=some b'->id≠u:=fun hb e=>hu (e▸hg.used hb)
 have ha:∀{id b'},(C.alloc u cells t b).η id=some b'->(id=u/\b'=b)\/(id≠u/\C.η id=some b'):=by
  intro id b' hb';simp only[Ctx.alloc]at hb';by_cases e:id=u;subst e;rw[ak]at hb';cases hb';exact .inl ⟨rfl,rfl⟩;rw[am _ _ e]at hb';exact .inr ⟨e,hb'⟩
 have hf:∀{id b'},C.η id=some b'->b'.kind≠1->(C.ρ id).1<C.w.heap.size:=fun hb' hk=>hg.lt ⟨_,hb',hk⟩;refine⟨?_,?_,?_,?_,?_,?_,?_⟩;intro id b' hb';rcases ha hb' with⟨rfl,rfl⟩|⟨e,hb'⟩;exact .inr rfl;exact .inl (hg.used hb');intro id b' hb' hd;rcases ha hb' with⟨rfl,rfl⟩|⟨e,hb'⟩;rw[dl hn]at hd;cases hd;obtain⟨ob,h1,h2⟩:=hg.obj hb' hd;have e1:(C.alloc u cells t b).ρ id=C.ρ id:=by simp[Ctx.alloc,e]
 rw[e1];exact⟨ob,(Below.heap_alloc _ _ _ (hf hb' (by rw[hd];decide))).trans h1,h2.mono hg he⟩;intro id b' hb' hd;rcases ha hb' with⟨rfl,rfl⟩|⟨e,hb'⟩;exact⟨cells,t,by simp only[Ctx.alloc,if_true];exact heap_alloc_new C.w _,by simp[Ctx.alloc],by simp only[Ctx.alloc,if_true];omega,by intro j h h';have e0:((C.alloc id cells t b').ρ id).2+j=j:=(by simp[Ctx.alloc]);simp only[e0];exact(hv j h (by rw[e0]at h';exact h')).mono hg he⟩;obtain⟨c,t',h1,h2,h3,h4⟩:=hg.blk hb' hd;have e1:(C.alloc u cells t b).ρ id=C.ρ id:=by simp[Ctx.alloc,e]
 have e2:(C.alloc u cells t b).sz id=C.sz id:=by simp[Ctx.alloc,e]
 rw[e1,e2];exact⟨c,t',(Below.heap_alloc _ _ _ (hf hb' (dj hd))).trans h1,h2,h3,fun j h h'=>(h4 j h h').mono hg he⟩;rintro id id' ⟨b1,hp,hh⟩ ⟨b2,hq,hi⟩ h;rcases ha hp with⟨h1,_⟩|⟨e1,hj⟩<;>rcases ha hq with⟨h2,_⟩|⟨e2,hm⟩;exact h1.trans h2.symm;have:=hf hm hi
 simp only[Ctx.alloc,h1,if_true,e2,if_false]at h;omega;have:=hf hj hh
 simp only[Ctx.alloc,h2,if_true,e1,if_false]at h;omega;simp only[Ctx.alloc,e1,e2,if_false]at h;exact hg.inj ⟨b1,hj,hh⟩ ⟨b2,hm,hi⟩ h;refine hg.tokE he.toFr0 fun k hk=>have:=hg.tlt (k:=k) hk;?_
 simp[Ctx.alloc];omega;rintro k ⟨id,⟨b',hb',hd⟩,hk⟩ hT;rcases ha hb' with⟨rfl,rfl⟩|⟨e,hb'⟩;have:=hg.tlt (k:=k) hT
 simp only[Ctx.alloc,if_true]at hk;omega;simp only[Ctx.alloc,e,if_false]at hk;exact hg.apart ⟨id,⟨b',hb',hd⟩,hk⟩ hT;intro id b' hb' ho hd;rcases ha hb' with⟨rfl,rfl⟩|⟨e,hb'⟩;have e1:(C.alloc id cells t b').ρ id=(C.w.heap.size,0):=by simp[Ctx.alloc]
 have e2:(C.alloc id cells t b').sz id=cells.size:=by simp[Ctx.alloc]
 rw[e1,e2,ht ho];simp;have e1:(C.alloc u cells t b).ρ id=C.ρ id:=by simp[Ctx.alloc,e]
 have e2:(C.alloc u cells t b).sz id=C.sz id:=by simp[Ctx.alloc,e]
 rw[e1,e2];exact hg.tight hb' ho hd
end
def setR:Array Value->Nat->List Value->Array Value
 |cs,_,[]=>cs
 |cs,o,v::r=>setR (cs.setIfInBounds o v) (o+1) r
theorem j9:∀(xs:List Value) (cs:Array Value) (o:Nat),(setR cs o xs).size=cs.size
 |[],_,_=>rfl
 |v::r,cs,o=>by rw[setR,j9 r];simp
theorem qy:∀(xs:List Value) (cs:Array Value) (o j:Nat),j<o\/o+xs.length<=j->(setR cs o xs)[j]? =cs[j]?
 |[],_,_,_,_=>rfl
 |v::r,cs,o,j,h=>by rw[setR,qy r _ (o+1) j (by simp at h;omega),Array.getElem?_setIfInBounds,ag0 (by simp at h;omega)]
theorem zc:∀(xs:List Value) (cs:Array Value) (o j:Nat),o+xs.length<=cs.size->j<xs.length->(setR cs o xs)[o+j]? =xs[j]?
 |v::r,cs,o,0,h,_=>by show(setR (cs.setIfInBounds o v) (o+1) r)[o]? =some v;rw[qy r _ (o+1) o (by omega),Array.getElem?_setIfInBounds,ag1 rfl,ag1 (by simp at h;omega)]
 |v::r,cs,o,j+1,h,hj=>by have:=zc r (cs.setIfInBounds o v) (o+1) j (by simp at h ⊢;omega) (by simpa using hj);rw[setR,show o+(j+1)=o+1+j by omega,this];rfl
theorem mj:∀(xs:List Value) (w:World) (g o:Nat) (cs:Array Value) (t:TypeId),w.heap[g]? =some (.cells cs t (0,0))->(w.setCells g o xs).heap[g]? =some (.cells (setR cs o xs) t (0,0))
 |[],_,_,_,_,_,h=>h
 |v::r,w,g,o,cs,t,h=>mj r _ g (o+1) _ t (heap_setCell_same _ _ _ _ _ _ h)
theorem il:∀(xs:List Value) (w:World) (g o k:Nat),k≠g->(w.setCells g o xs).heap[k]? =w.heap[k]?
 |[],_,_,_,_,_=>rfl
 |v::r,w,g,o,k,h=>by rw[World.setCells,il r _ g _ k h,heap_setCell_other _ _ _ _ h]
theorem eg:∀(xs:List Value) (w:World) (g o:Nat),(w.setCells g o xs).os=w.os/\(w.setCells g o xs).tape=w.tape/\(w.setCells g o xs).output=w.output/\(w.setCells g o xs).heap.size=w.heap.size
 |[],_,_,_=>⟨rfl,rfl,rfl,rfl⟩
 |v::r,w,g,o=>by obtain⟨h1,h2,h3,h4⟩:=eg r (w.setCell ⟨g,o,none⟩ v) g (o+1);exact⟨h1,h2,h3,by rw[World.setCells,h4];simp[World.setCell]⟩
def bg(cs:List AV)(o:Nat)(vs:List AV):List AV:=cs.take o++vs++cs.drop (o+vs.length)
theorem d8{cs:List AV}{o:Nat}{vs:List AV}(h:o+vs.length<=cs.length):(bg cs o vs).length=cs.length:=by simp[bg];omega
def Ctx.store(C:Ctx)(id:Nat)(b:Blk)(o:Nat)(vs:List AV)(xs:List Value):Ctx:=
 {C with η:=C.η.set id (some {b with cs:=bg b.cs o vs}),w:=C.w.setCells (C.ρ id).1 ((C.ρ id).2+o) xs}
section
variable{C:Ctx}{id:Nat}{b:Blk}{o:Nat}{vs:List AV}{xs:List Value}
theorem lg(hg:Good C)(hb:C.η id=some b)(hn:b.nilp=false):Ev C (C.store id b o vs xs) where
 os:=(eg _ _ _ _).1
 tape:=(eg _ _ _ _).2.1
 output:=(eg _ _ _ _).2.2.1
 size:=by simp only[Ctx.store];rw[(eg _ _ _ _).2.2.2];exact ag7 _
 keep:=fun k _ hm=>il _ _ _ _ _ (fun e=>hm ⟨id,⟨b,hb,dj hn⟩,e.symm⟩)
 mine:=fun k ⟨id',⟨b',hb',ha⟩,hk⟩=>by left;by_cases e:id'=id;subst e;exact⟨id',⟨b,hb,dj hn⟩,hk⟩;simp only[Ctx.store]at hb';rw[am _ _ e]at hb';exact⟨id',⟨b',hb',ha⟩,hk⟩
 T:=fun _ h=>h
 Tnew:=fun _ h=>.inl h
 U:=fun _ h=>h
 old:=fun id' b' hid hb'=>by simp only[Ctx.store]at hb';by_cases e:id'=id;subst e;rw[ak]at hb';cases hb';exact⟨b,hb,ag7 _,fun _=>⟨rfl,rfl,by rw[dl hn];exact dl hn,rfl⟩⟩;rw[am _ _ e]at hb';exact⟨b',hb',ag7 _,fun _=>⟨rfl,rfl,rfl,rfl⟩⟩
theorem lu(hg:Good C)(hb:C.η id=some b)(hn:b.nilp=false)(ho:o+vs.length<=b.cs.length)(hl:xs.length=vs.length)(hv:∀i (h:i<vs.length) (h':i<xs.length),VR C vs[i] xs[i]):Good (C.store id b o vs xs):=by
 have he:=lg (C:=C) (id:=id) (b:=b) (o:=o) (vs:=vs) (xs:=xs) hg hb hn
 have ha:∀{id' b'},(C.store id b o vs xs).η id'=some b'->(id'=id/\b'={b with cs:=bg b.cs o vs})\/(id'≠id/\C.η id'=some b'):=by
  intro id' b' hb';simp only[Ctx.store]at hb';by_cases e:id'=id;subst e;rw[ak]at hb';cases hb';exact .inl ⟨rfl,rfl⟩;rw[am _ _ e]at hb';exact .inr ⟨e,hb'⟩
 have hd:∀{id' b'},(C.store id b o vs xs).η id'=some b'->b'.kind≠1->C.live id':=by
  intro id' b' hb' hc;rcases ha hb' with⟨rfl,rfl⟩|⟨_,h⟩;exact⟨b,hb,dj hn⟩;exact⟨b',h,hc⟩
 refine⟨?_,?_,?_,?_,?_,?_,?_⟩;intro id' b' hb';rcases ha hb' with⟨rfl,rfl⟩|⟨e,hb'⟩;exact hg.used hb;exact hg.used hb';intro id' b' hb' hc;rcases ha hb' with⟨rfl,rfl⟩|⟨e,hb'⟩;rw[show Blk.kind {b with cs:=bg b.cs o vs}=0 from dl hn]at hc;cases hc;obtain⟨ob,h1,h2⟩:=hg.obj hb' hc;exact⟨ob,(il _ _ _ _ _ (fun e'=>e (hg.inj ⟨b',hb',by rw[hc];decide⟩ ⟨b,hb,dj hn⟩ e'))).trans h1,h2.mono hg he⟩;intro id' b' hb' hc;rcases ha hb' with⟨rfl,rfl⟩|⟨e,hb'⟩;obtain⟨c,t',h1,h2,h3,h4⟩:=hg.blk hb hn;refine⟨setR c ((C.ρ id').2+o) xs,t',mj xs C.w _ _ c t' h1,by rw[j9];exact h2,by rw[j9,d8 ho];exact h3,?_⟩;show∀j (h:j<(bg b.cs o vs).length) (h':(C.ρ id').2+j<(setR c ((C.ρ id').2+o) xs).size),VR (C.store id' b o vs xs) (bg b.cs o vs)[j] (setR c ((C.ρ id').2+o) xs)[(C.ρ id').2+j]
 intro j h h';have hj:j<b.cs.length:=by rw[d8 ho]at h;exact h
 have hf:(C.ρ id').2+j<c.size:=by omega
 by_cases hin:o<=j/\j<o+vs.length;obtain⟨i,rfl⟩:∃i,j=o+i:=⟨j-o,by omega⟩;have hi:i<vs.length:=by omega
 have e1:(bg b.cs o vs)[o+i]=vs[i]:=by have:(bg b.cs o vs)[o+i]? =vs[i]?:=(by simp only[bg];rw[List.getElem?_append_left (by simp;omega),List.getElem?_append_right (by simp;omega)];congr 1;simp;omega);rw[agt h,agt hi]at this;exact Option.some.inj this
 have e2:(setR c ((C.ρ id').2+o) xs)[(C.ρ id').2+(o+i)]? =xs[i]?:=by rw[<-Nat.add_assoc];exact zc xs c _ i (by omega) (by omega)
 have e3:(setR c ((C.ρ id').2+o) xs)[(C.ρ id').2+(o+i)]'h'=xs[i]'(by omega):=by have:=e2;rw[Array.getElem?_eq_getElem h',agt (by omega)]at this;exact Option.some.inj this
 rw[e1,e3];exact(hv i hi (by omega)).mono hg he
 have e1:(bg b.cs o vs)[j]=b.cs[j]:=by
  have:(bg b.cs o vs)[j]? =b.cs[j]?:=by
   simp only[bg];by_cases hm:j<o;rw[List.getElem?_append_left (by simp;omega),List.getElem?_append_left (by simp;omega)];rw[List.getElem?_take_of_lt hm];rw[List.getElem?_append_right (by simp;omega),List.getElem?_drop];congr 1;simp;omega
  rw[agt h,agt hj]at this;exact Option.some.inj this
 have e3:(setR c ((C.ρ id').2+o) xs)[(C.ρ id').2+j]'h'=c[(C.ρ id').2+j]:=by have:=qy xs c ((C.ρ id').2+o) ((C.ρ id').2+j) (by omega);rw[Array.getElem?_eq_getElem h',Array.getElem?_eq_getElem hf]at this;exact Option.some.inj this
 rw[e1,e3];exact(h4 j hj hf).mono hg he;obtain⟨c,t',h1,h2,h3,h4⟩:=hg.blk hb' hc;exact⟨c,t',(il _ _ _ _ _ (fun e'=>e (hg.inj ⟨b',hb',dj hc⟩ ⟨b,hb,dj hn⟩ e'))).trans h1,h2,h3,fun j h h'=>(h4 j h h').mono hg he⟩;rintro i i' ⟨b1,hp,hq⟩ ⟨b2,hr,hs⟩ h;exact hg.inj (hd hp hq) (hd hr hs) h;refine hg.tokE he.toFr0 fun k hk=>have:=hg.tlt (k:=k) hk;?_
 simp only[Ctx.store];rw[(eg _ _ _ _).2.2.2];exact this;rintro k ⟨i,⟨b',hb',hc⟩,hk⟩ hT;exact hg.apart ⟨i,hd hb' hc,hk⟩ hT;intro id' b' hb' hh hc;rcases ha hb' with⟨rfl,rfl⟩|⟨e,hb'⟩;have:=hg.tight hb hh hn
 show C.sz id'=(C.ρ id').2+(bg b.cs o vs).length;rw[d8 ho];exact this;exact hg.tight hb' hh hc
end
def ao(P:Program)(t:Nat):Option Nat:=(P.info? t).map (·.size)
def bj(P:Program)(t:Nat):Option Value:=(P.info? t).bind (·.zero)
theorem Bn{P:Program}{t n b o:Nat}{w:World}{x:Value}(hs:ao P t=some n)(hn:x.cells.size=n)(h1:∀v∈x.cells.toList,v.oneCell'=true)
 (hc:∀j,j<n->(w.cell? ⟨b,o+j,none⟩).isSome=true)(hf:∀j,j<n->w.frozen? ⟨b,o+j,none⟩=false):
 (Instr.storeAt t (.pointer (some ⟨b,o,none⟩)) x).run P w=.ok () (w.setCells b o x.cells.toList):=by
 unfold ao at hs
 cases hi:P.info? t with
 |none=>rw[hi]at hs;cases hs
 |some inf=>
  rw[hi]at hs
  simp only[ahn,agv]at hs
  have:=run_storeCells_cells (P:=P) b o x.cells.toList 0 w (fun j hj=>by simpa using hc j (by simp at hj;omega)) (fun j hj=>by simpa using hf j (by simp at hj;omega)) h1
  simp only[Nat.add_zero]at this
  simp[Instr.storeAt,Instr.sureAddr,storeVar,sizeOf,typeInfo,hi,hs,hn,this]
section
variable{P:Program}{τ:Nat->AV}{η:bi}{d:Option Tmp}{ty:TypeId}{pos:String}{af:Array Edge}{g:Option (Nat×Bool)}
theorem LOp.store{t n:Nat}{x y:Operand}{id ver o:Nat}{b:Blk}(hs:ao P t=some n)(hx:aev τ x=.ptr id ver o)(hb:η id=some b)(hv:b.ver=ver)(hn:b.nilp=false)
 (hk:(aev τ y).known=true)(hl:(aev τ y).cells.length=n)(h1:(aev τ y).cells.all AV.one=true)(hc:o+n<=b.cs.length):
 LOp P ⟨d,.store t x y,ty,pos,af,g⟩ τ η [id] [(id,some {b with cs:=bg b.cs o (aev τ y).cells})] (.v undef):=by
 intro C a hg hf hh hnew K Q hK
 have hb':C.η id=some b:=(hh id (by simp)).trans hb
 have e1:=hf x (by simp[Op.operands])
 rw[hx]at e1
 have e2:=e1.ptr_inv hb' hv
 obtain⟨e3,e4⟩:=(hf y (by simp[Op.operands])).cells hk
 generalize ho:a.eval y=yv at e3 e4
 obtain⟨c,t',g1,g2,g3,g4⟩:=hg.blk hb' hn
 have ha:∀j,j<n->(C.w.cell? ⟨(C.ρ id).1,(C.ρ id).2+o+j,none⟩).isSome=true:=by intro j hj;have:(C.ρ id).2+o+j<c.size:=(by omega);simp[World.cell?,g1,this]
 have hd:∀v∈yv.cells.toList,v.oneCell'=true:=by intro v hm;obtain⟨i,hi,rfl⟩:=ahd hm;have hp:i<yv.cells.size:=(by simpa using hi);have:=(e4 i (by omega) hp).one (List.all_eq_true.1 h1 _ (ags _));simpa using this
 unfold Oper.wp
 simp only[execOp,e2,ho,Sem.run_bind,Bn hs (by omega) hd ha (fun j _=>by simp[World.frozen?,g1]),ahb,ahc]
 have he:yv.cells.toList.length=(aev τ y).cells.length:=by simp;omega
 have:=hK undef (C.store id b o (aev τ y).cells yv.cells.toList) rfl (fun i=>by simp[Ctx.store];rintro rfl;exact hg.used hb') (lu hg hb' hn (by omega) he (fun i h h'=>by have:=e4 i h (by simpa using h');simpa using this))
  (lg hg hb' hn) (VR.v _ _)
 exact this
theorem vm(t:TypeId)(x:Value)(w:World):(newVar t x).run P w=.ok ⟨w.heap.size,0,none⟩ (w.alloc (.cells x.cells t)):=by rfl
theorem LOp.new_of{o:Oper}(u:Nat){v:AV}{t:Nat}(hk:v.known=true)
 (h:∀(C:Ctx) (a:Act),Good C->(∀x∈o.op.operands,VR C (aev τ x) (a.eval x))->∃x,VR C v x/\(execOp a.eval o).run P C.w=.ok (.value (.pointer (some ⟨C.w.heap.size,0,none⟩))) (C.w.alloc (.cells x.cells t))):
 LOp P o τ η [] [(u,some ⟨0,v.cells,0,false⟩)] (.ptr u 0 0):=by
 intro C a hg hb _ ha K Q hK
 have hu:¬C.U u:=ha (u,some ⟨0,v.cells,0,false⟩) (by simp) (by simp)
 obtain⟨x,hv,hr⟩:=h C a hg hb
 obtain⟨e1,e2⟩:=hv.cells hk
 unfold Oper.wp
 rw[hr]
 refine hK _ (C.alloc u x.cells t ⟨0,v.cells,0,false⟩) rfl (fun i=>by simp[Ctx.alloc]) (c8 hg hu rfl (Nat.le_of_eq e1) e2) (dg hg hu rfl) ?_
 have h3:(C.alloc u x.cells t ⟨0,v.cells,0,false⟩).ρ u=(C.w.heap.size,0):=by simp[Ctx.alloc]
 have:=VR.ptr (C:=C.alloc u x.cells t ⟨0,v.cells,0,false⟩) (id:=u) (ver:=0) (off:=0) (b:=⟨0,v.cells,0,false⟩) (ak _ _ _) rfl rfl
 rw[h3]at this
 exact this
theorem LOp.box(u:Nat){t:Nat}{x:Operand}(hk:(aev τ x).known=true):LOp P ⟨d,.box t x,ty,pos,af,g⟩ τ η [] [(u,some ⟨0,(aev τ x).cells,0,false⟩)] (.ptr u 0 0):=
 .new_of (t:=t) u hk fun C a hg ha=>⟨a.eval x,ha x (by simp[Op.operands]),by simp[execOp,Instr.box,vm]⟩
theorem LOp.alloc(u:Nat){t:Nat}{z:Value}(hz:bj P t=some z):LOp P ⟨d,.alloc t,ty,pos,af,g⟩ τ η [] [(u,some ⟨0,(AV.v z).cells,0,false⟩)] (.ptr u 0 0):=
 .new_of (t:=t) u rfl fun C a hg hxs=>⟨z,VR.v C z,by
  unfold bj at hz
  cases hi:P.info? t with
  |none=>rw[hi]at hz;cases hz
  |some inf=>
   rw[hi]at hz
   simp only[aho]at hz
   simp[execOp,Instr.alloc,zeroValue,typeInfo,hi,hz,vm]⟩
def mt(P:Program)(t:Nat):Option (List (Nat×Nat)):=match P.underlying t with
 |some (.struct fs)=>fs.toList.mapM fun f=>(P.info? f.type).map fun i=>(f.offset,i.size)
 |some (.array n e)=>(P.info? e).map fun i=>(List.range n).map fun k=>(k*i.size,i.size)
 |_=>none
def Cg(pl:List (Nat×Nat)):List AV->List (Nat×AV)->Option (List AV)
 |cells,[]=>some cells
 |cells,(i,v)::r=>match pl[i]? with
  |none=>none
  |some (off,size)=>bif v.known&&Nat.beq v.cells.length size&&Nat.ble (off+size) cells.length then Cg pl (bg cells off v.cells) r else none
theorem sw:∀(xs:List Value) (cs:Array Value) (o k:Nat),(xs.zipIdx k).foldl (fun cs (p:Value×Nat)=>cs.setIfInBounds (o+p.2) p.1) cs=setR cs (o+k) xs
 |[],_,_,_=>rfl
 |v::r,cs,o,k=>by simp only[List.zipIdx_cons,List.foldl_cons];rw[sw r _ o (k+1)];rfl
theorem VR.setR{C:Ctx}{cs vs:List AV}{ds:Array Value}{xs:List Value}{o:Nat}(h1:cs.length=ds.size)(h2:∀i (h:i<cs.length) (h':i<ds.size),VR C cs[i] ds[i])
 (h3:vs.length=xs.length)(h4:∀i (h:i<vs.length) (h':i<xs.length),VR C vs[i] xs[i])(ho:o+vs.length<=cs.length):
 (bg cs o vs).length=(setR ds o xs).size/\∀i (h:i<(bg cs o vs).length) (h':i<(Go.Proofs.YtbhhmbchdponjaaGreatDoor.setR ds o xs).size),VR C (bg cs o vs)[i] (Go.Proofs.YtbhhmbchdponjaaGreatDoor.setR ds o xs)[i]:=by
 refine⟨by rw[d8 ho,j9];exact h1,fun i h h'=>?_⟩
 have hi:i<cs.length:=by rw[d8 ho]at h;exact h
 by_cases hin:o<=i/\i<o+vs.length
 ·obtain⟨k,rfl⟩:∃k,i=o+k:=⟨i-o,by omega⟩
  have hk:k<vs.length:=by omega
  have e1:(bg cs o vs)[o+k]? =vs[k]?:=by
   simp only[bg]
   rw[List.getElem?_append_left (by simp;omega),List.getElem?_append_right (by simp;omega)]
   congr 1
   simp;omega
  have e2:=zc xs ds o k (by omega) (by omega)
  rw[agt h,agt hk]at e1
  rw[Array.getElem?_eq_getElem h',agt (by omega)]at e2
  rw[Option.some.inj e1,Option.some.inj e2]
  exact h4 k hk (by omega)
 ·have e1:(bg cs o vs)[i]? =cs[i]?:=by
   simp only[bg]
   by_cases ha:i<o
   ·rw[List.getElem?_append_left (by simp;omega),List.getElem?_append_left (by simp;omega),List.getElem?_take_of_lt ha]
   ·rw[List.getElem?_append_right (by simp;omega),List.getElem?_drop]
    congr 1
    simp;omega
  have e2:=qy xs ds o i (by omega)
  rw[agt h,agt hi]at e1
  rw[Array.getElem?_eq_getElem h',Array.getElem?_eq_getElem (by omega)]at e2
  rw[Option.some.inj e1,Option.some.inj e2]
  exact h2 i hi (by omega)
theorem o6{C:Ctx}{pl:List (Nat×Nat)}{place:Nat->Option (Nat×Nat)}(hp:∀i q,pl[i]? =some q->place i=some q):∀(ps:List (Nat×AV)) (xs:List (Nat×Value)) (cs:List AV) (ds:Array Value) (out:List AV),
 ps.map (·.1)=xs.map (·.1)->(∀i (h:i<ps.length) (h':i<xs.length),VR C ps[i].2 xs[i].2)->cs.length=ds.size->(∀i (h:i<cs.length) (h':i<ds.size),VR C cs[i] ds[i])->Cg pl cs ps=some out->
 ∃es,Instr.fill place ds xs=some es/\out.length=es.size/\∀i (h:i<out.length) (h':i<es.size),VR C out[i] es[i]
 |[],[],cs,ds,out,_,_,h1,h2,h=>by
  simp only[Cg,agv]at h
  subst h
  exact⟨ds,rfl,h1,h2⟩
 |[],x::r,_,_,_,h,_,_,_,_=>by simp at h
 |p::r,[],_,_,_,h,_,_,_,_=>by simp at h
 |(i,v)::r,(j,x)::r',cs,ds,out,hm,hv,h1,h2,h=>by
  simp only[ahg,List.cons.injEq]at hm
  obtain⟨rfl,hm⟩:=hm
  simp only[Cg]at h
  cases ha:pl[i]? with
  |none=>rw[ha]at h;cases h
  |some q=>
   obtain⟨off,size⟩:=q
   rw[ha]at h
   simp only at h
   cases hc:(v.known&&Nat.beq v.cells.length size&&Nat.ble (off+size) cs.length)with
   |false=>rw[hc]at h;cases h
   |true=>
    rw[hc]at h
    simp only[cond_true]at h
    simp only[ahq]at hc
    obtain⟨⟨hk,hl⟩,hb⟩:=hc
    have hl':=agu hl
    have hle':=ag9 hb
    obtain⟨e1,e2⟩:=(hv 0 (by simp) (by simp)).cells hk
    simp only[List.getElem_cons_zero]at e1 e2
    obtain⟨f1,f2⟩:=VR.setR (o:=off) h1 h2 (xs:=x.cells.toList) (vs:=v.cells) (by simp;omega) (fun i h h'=>by have:=e2 i h (by simpa using h');simpa using this) (by omega)
    obtain⟨es,g1,g2,g3⟩:=o6 hp r r' _ _ out hm (fun i h h'=>by have:=hv (i+1) (by simpa using h) (by simpa using h');simpa using this) f1 f2 h
    refine⟨es,?_,g2,g3⟩
    simp only[Instr.fill,hp i _ ha]
    rw[ag0 (by simp;omega)]
    have h5:=sw x.cells.toList ds off 0
    simp only[Nat.add_zero]at h5
    rw[<-g1]
    congr 1
    rw[<-h5,<-Array.foldl_toList]
    simp only[Array.toList_zipIdx]
end
section
variable{P:Program}{τ:Nat->AV}{η:bi}{d:Option Tmp}{ty:TypeId}{pos:String}{af:Array Edge}{g:Option (Nat×Bool)}
def l0(τ:Nat->AV)(parts:Array (Nat×Operand)):List (Nat×AV):=parts.toList.map fun p=>(p.1,aev τ p.2)
theorem Bt{C:Ctx}{a:Act}{parts:Array (Nat×Operand)}(h:∀p∈parts.toList,VR C (aev τ p.2) (a.eval p.2)):
 (l0 τ parts).map (·.1)=(parts.toList.map fun p=>(p.1,a.eval p.2)).map (·.1)/\∀i (h:i<(l0 τ parts).length) (h':i<(parts.toList.map fun p=>(p.1,a.eval p.2)).length),VR C (l0 τ parts)[i].2 (parts.toList.map fun p=>(p.1,a.eval p.2))[i].2:=by
 refine⟨by simp[l0,Function.comp_def],fun i hi hi'=>?_⟩
 simp only[l0,List.getElem_map]
 exact h _ (ags _)
theorem LOp.build{t:Nat}{parts:Array (Nat×Operand)}{z:Value}{pl:List (Nat×Nat)}{out:List AV}(hz:bj P t=some z)(hp:mt P t=some pl)(ho:Cg pl (AV.v z).cells (l0 τ parts)=some out):
 LOp P ⟨d,.build t parts,ty,pos,af,g⟩ τ η [] [] (.agg out):=
 .look [] fun C a hg hc _=>by
  obtain⟨e1,e2⟩:=Bt (τ:=τ) (C:=C) (a:=a) (parts:=parts) (fun p hp=>hc p.2 (by simp[Op.operands];exact⟨_,by simpa using hp⟩))
  obtain⟨z1,z2⟩:=(VR.v C z).cells rfl
  have hb:∃es,P.built t (parts.map fun(i,x)=>(i,a.eval x)).toList=some es/\out.length=es.size/\∀i (h:i<out.length) (h':i<es.size),VR C out[i] es[i]:=by
   unfold mt at hp
   unfold bj at hz
   unfold Program.built
   cases hi:P.info? t with
   |none=>rw[hi]at hz;cases hz
   |some inf=>
    rw[hi]at hz
    simp only[aho]at hz
    cases hu:P.underlying t with
    |none=>rw[hu]at hp;cases hp
    |some dd=>
     rw[hu]at hp
     cases dd<;>try(simp at hp;done)
     case struct fs=>
      simp only at hp ⊢
      rw[hz,hp]
      simp only
      obtain⟨es,g1,g2,g3⟩:=o6 (C:=C) (pl:=pl) (place:=fun x=>pl.toArray[x]?) (fun i q h=>by simpa using h) _ (parts.toList.map fun p=>(p.1,a.eval p.2)) _ z.cells out e1 e2 z1 z2 ho
      exact⟨es,by simpa[Array.toList_map]using g1,g2,g3⟩
     case array n e=>
      simp only at hp ⊢
      cases ha:P.info? e with
      |none=>rw[ha]at hp;cases hp
      |some ie=>
       rw[ha]at hp
       simp only[ahn,agv]at hp
       rw[hz]
       simp only
       obtain⟨es,g1,g2,g3⟩:=o6 (C:=C) (pl:=pl) (place:=fun i=>some (i*ie.size,ie.size)) (fun i q h=>by
        subst hp
        simp only[List.getElem?_map]at h
        cases hr:(List.range n)[i]? with
        |none=>rw[hr]at h;cases h
        |some k=>
         rw[hr]at h
         simp only[ahn,agv]at h
         obtain⟨_,rfl⟩:=ahl.1 hr
         simp only[List.getElem_range]at h
         rw[h]) _ (parts.toList.map fun p=>(p.1,a.eval p.2)) _ z.cells out e1 e2 z1 z2 ho
       exact⟨es,by simpa[Array.toList_map]using g1,g2,g3⟩
  obtain⟨es,g1,g2,g3⟩:=hb
  refine⟨.agg es,?_,.agg g2 g3⟩
  simp only[execOp,Sem.run_bind,run_build C.w t _ es g1,ahb,ahc]
def b5(z:Value)(n:Nat):List AV:=(List.range n).map fun i=>.v (z.cells[i%z.cells.size]!)
def si(len s:Nat):List (Nat×Nat):=(List.range len).map fun k=>(k*s,s)
theorem Cf:∀(xs:List (Nat×Value)) (ds fs:Array Value) (pl:Nat->Option (Nat×Nat)),Instr.fill pl ds xs=some fs->fs.size=ds.size
 |[],ds,fs,pl,h=>by simp only[Instr.fill,agv]at h;rw[h]
 |(i,v)::r,ds,fs,pl,h=>by
  simp only[Instr.fill]at h
  cases hp:pl i with
  |none=>rw[hp]at h;cases h
  |some q=>
   obtain⟨off,size⟩:=q
   rw[hp]at h
   simp only at h
   split at h
   ·cases h
   ·have:=Cf r _ _ _ h
    rw[this,<-Array.foldl_toList,Array.toList_zipIdx]
    have h5:=sw v.cells.toList ds off 0
    exact(congrArg Array.size h5).trans (j9 _ _ _)
theorem LOp.buildSlice(u:Nat){t e len s:Nat}{parts:Array (Nat×Operand)}{z:Value}{out:List AV}(he:P.underlying t=some (.slice e))(hs:ao P e=some s)(hz:bj P e=some z)(hl:Nat.ble (len*s) 16777216=true)(hf:Nat.ble len 16777216=true)(hd:Nat.beq (len*s) 0=false)
 (ho:Cg (si len s) (b5 z (len*s)) (l0 τ parts)=some out):LOp P ⟨d,.buildSlice t len parts,ty,pos,af,g⟩ τ η [] [(u,some ⟨TV,out,s,false⟩)] (.sl u TV 0 len):=by
 intro C a hg hh _ hb K Q hK
 have hu:¬C.U u:=hb (u,some ⟨TV,out,s,false⟩) (by simp) (by simp)
 obtain⟨e1,e2⟩:=Bt (τ:=τ) (C:=C) (a:=a) (parts:=parts) (fun p hp=>hh p.2 (by simp[Op.operands];exact⟨_,by simpa using hp⟩))
 have hl':=ag9 hl
 have hl2':=ag9 hf
 unfold ao at hs
 unfold bj at hz
 cases hi:P.info? e with
 |none=>rw[hi]at hz;cases hz
 |some inf=>
  rw[hi]at hz hs
  simp only[aho]at hz
  simp only[ahn,agv]at hs
  subst hs
  let base:Array Value:=(Array.range (len*inf.size)).map fun i=>z.cells[i%z.cells.size]!
  have z1:(b5 z (len*inf.size)).length=base.size:=by simp[b5,base]
  have z2:∀i (h:i<(b5 z (len*inf.size)).length) (h':i<base.size),VR C (b5 z (len*inf.size))[i] base[i]:=fun i h h'=>by
   simp only[b5,List.getElem_map,List.getElem_range,base,Array.getElem_map,Array.getElem_range];exact VR.v C _
  obtain⟨es,g1,g2,g3⟩:=o6 (C:=C) (pl:=si len inf.size) (place:=fun i=>some (i*inf.size,inf.size)) (fun i q h=>by
   simp only[si,List.getElem?_map]at h
   cases hr:(List.range len)[i]? with
   |none=>rw[hr]at h;cases h
   |some k=>
    rw[hr]at h
    simp only[ahn,agv]at h
    obtain⟨_,rfl⟩:=ahl.1 hr
    simp only[List.getElem_range]at h
    rw[h]) _ (parts.toList.map fun p=>(p.1,a.eval p.2)) _ base out e1 e2 z1 z2 ho
  have gsz:es.size=len*inf.size:=by
   rw[Cf _ _ _ _ g1];simp[base]
  have ha:(parts.map fun(i,x)=>(i,a.eval x)).toList=parts.toList.map fun p=>(p.1,a.eval p.2):=by simp[Array.toList_map]
  have hc:(execOp a.eval ⟨d,.buildSlice t len parts,ty,pos,af,g⟩).run P C.w=.ok (.value (.slice (some ⟨C.w.heap.size,0,none⟩) len len)) (C.w.alloc (.cells es e)):=by
   have h0:¬(len*inf.size=0):=fun e=>by rw[e]at hd;cases hd
   simp only[execOp,Instr.buildSlice,Sem.run_bind,run_underlying he,ahb,sizeOf,typeInfo,run_program,hi,ahc]
   rw[ag0 (by omega)]
   simp only[h0,if_false,zeroValue,typeInfo,Sem.run_bind,run_program,hi,ahc,ahb,hz]
   have:Instr.fill (fun i=>some (i*inf.size,inf.size)) ((Array.range (len*inf.size)).map fun i=>z.cells[i%z.cells.size]!) (parts.map fun(i,x)=>(i,a.eval x)).toList=some es:=by rw[ha];exact g1
   simp only[this]
   rfl
  unfold Oper.wp
  rw[hc]
  refine hK _ (C.alloc u es e ⟨TV,out,inf.size,false⟩) rfl (fun i=>by simp[Ctx.alloc]) (c8 hg hu rfl (Nat.le_of_eq g2) g3 (fun _=>g2.symm)) (dg hg hu rfl) ?_
  have h3:(C.alloc u es e ⟨TV,out,inf.size,false⟩).ρ u=(C.w.heap.size,0):=by simp[Ctx.alloc]
  have h4:(C.alloc u es e ⟨TV,out,inf.size,false⟩).sz u=es.size:=by simp[Ctx.alloc]
  have:=VR.sl (C:=C.alloc u es e ⟨TV,out,inf.size,false⟩) (id:=u) (ver:=TV) (off:=0) (len:=len) (cap:=len) (b:=⟨TV,out,inf.size,false⟩) (ak _ _ _) rfl rfl (ag7 _) (by unfold maxLen;omega) (by omega)
   (by rw[h3,h4,gsz];simp)
  rw[h3]at this
  exact this
theorem bo(u:Nat){t e s:Nat}(he:P.underlying t=some (.slice e))(hs:ao P e=some s):LOp P ⟨d,.buildSlice t 0 #[],ty,pos,af,g⟩ τ η [] [(u,some ⟨0,[],s,false⟩)] (.sl u 0 0 0):=by
 intro C a hg hxs _ ha K Q hK
 have hu:¬C.U u:=ha (u,some ⟨0,[],s,false⟩) (by simp) (by simp)
 unfold ao at hs
 cases hi:P.info? e with
 |none=>rw[hi]at hs;cases hs
 |some inf=>
  have hb:(execOp a.eval ⟨d,.buildSlice t 0 #[],ty,pos,af,g⟩).run P C.w=.ok (.value (.slice (some ⟨C.w.heap.size,0,none⟩) 0 0)) (C.w.alloc (.cells #[] e)):=by
   simp[execOp,Instr.buildSlice,run_underlying he,sizeOf,typeInfo,hi,Instr.fill,newRow]
   congr 2
   exact Array.eq_empty_of_size_eq_zero (by simp)
  unfold Oper.wp
  rw[hb]
  refine hK _ (C.alloc u #[] e ⟨0,[],s,false⟩) rfl (fun i=>by simp[Ctx.alloc]) (c8 hg hu rfl (ag7 _) (fun j h=>by simp at h)) (dg hg hu rfl) ?_
  exact VR.slz (C:=C.alloc u #[] e ⟨0,[],s,false⟩) (id:=u) (ver:=0) (off:=0) (b:=⟨0,[],s,false⟩) (ak _ _ _) rfl rfl
theorem vn{t e s:Nat}{k:IntKind}{j len cap b o:Nat}{w:World}(he:P.underlying t=some (.slice e))(hs:ao P e=some s)(hj:j<len):
 (Instr.indexAt t (.slice (some ⟨b,o,none⟩) len cap) (.int k (Int.ofNat j))).run P w=.ok (.pointer (some ⟨b,o+j*s,none⟩)) w:=by
 unfold ao at hs
 cases hi:P.info? e with
 |none=>rw[hi]at hs;cases hs
 |some inf=>
  rw[hi]at hs
  simp only[ahn,agv]at hs
  subst hs
  have h0:(0:Int)<=Int.ofNat j/\Int.ofNat j<(len:Int):=⟨Int.natCast_nonneg j,by show(j:Int)<len;omega⟩
  simp[Instr.indexAt,asIntOf,run_underlying he,hj,sizeOf,typeInfo,hi,Addr.add_mid]
theorem lI{α:Type}{t e n:Nat}{x i:Operand}{k:IntKind}{f:α->List AV}{l:List α}{j:Nat}(he:P.underlying t=some (.slice e))(hs:ao P e=some n)(hx:aev τ x=.tree n (l.map f))(hi:aev τ i=.v (.int k (Int.ofNat j)))(hj:j<l.length):
 LOp P ⟨d,.indexAddr t x i,ty,pos,af,g⟩ τ η [] [] (.tp (f l[j]) 0):=
 .look [] fun C a hg hf _=>by
  have h1:=hf x (by simp[Op.operands])
  have h2:=hf i (by simp[Op.operands])
  rw[hx]at h1
  rw[hi]at h2
  have h3:=h2.v_inv
  have h4:=h1.tree_inv
  generalize hh:a.eval x=xv at h4
  generalize ha:l.map f=xs at h4
  have hc:xs.length=l.length:=by rw[<-ha];simp
  cases h4 with
  |tree0 h=>simp at hc;omega
  |tree cell hT c1 c2 c3 c4 c5 c6=>
   rename_i b off cap
   have hb:j<xs.length:=by omega
   have hd:xs[j]=f l[j]:=by subst ha;simp
   refine⟨.pointer (some ⟨b,off+j*n,none⟩),?_,?_⟩
   ·simp only[execOp,hh,h3,Sem.run_bind,vn he hs hb,ahb,ahc]
   ·rw[<-hd]
    have:=TR.tp (T:=C.T) (w:=C.w) (cs:=xs[j]) (b:=b) (off:=off+j*n) (o:=0) (fun q=>cell j q) hT (fun q hq=>c5 j q hb (by rw[<-c4 j hb];exact hq)) (fun q hq=>c6 j hb q hq)
    rw[Nat.add_zero]at this
    exact .imm this
theorem mg{t e n:Nat}{x i:Operand}{k:IntKind}{id ver off len j:Nat}{b:Blk}(he:P.underlying t=some (.slice e))(hs:ao P e=some n)(hx:aev τ x=.sl id ver off len)(hi:aev τ i=.v (.int k (Int.ofNat j)))(hj:j<len)
 (hb:η id=some b)(hv:b.ver=ver)(hn:b.nilp=false)(hz:b.esz=n):LOp P ⟨d,.indexAddr t x i,ty,pos,af,g⟩ τ η [id] [] (.ptr id ver (off+j*n)):=
 .look [id] fun C a hg ha hc=>by have hb':C.η id=some b:=(hc id (by simp)).trans hb;have h1:=ha x (by simp[Op.operands]);have h2:=ha i (by simp[Op.operands]);rw[hx]at h1;rw[hi]at h2;have h3:=h2.v_inv;obtain⟨ad,cap,e1,e2,e3,e4,e5⟩:=h1.sl_inv hb' hv hn;rcases e5 with⟨e5,_⟩|⟨rfl,e5⟩;omega;refine⟨.pointer (some ⟨(C.ρ id).1,(C.ρ id).2+(off+j*n),none⟩),?_,.ptr hb' hv hn⟩;simp only[execOp,e1,h3,Sem.run_bind,vn he hs hj,ahb,ahc,Nat.add_assoc]
theorem lT{α:Type}{t e n:Nat}{x:Operand}{f:α->List AV}{l:List α}{ats:Array TypeId}(ha:ats[0]? =some t)(he:P.underlying t=some (.slice e))(hx:aev τ x=.tree n (l.map f)):
 LOp P ⟨d,.call {callee:=.builtin .len,args:=#[x],argTypes:=ats},ty,pos,af,g⟩ τ η [] [] (.v (.int .i64 (l.length:Int))):=
 .look [] fun C a hg hf _=>by
  have h1:=hf x (by simp[Op.operands,Call.operands])
  rw[hx]at h1
  have h4:=h1.tree_inv
  generalize hd:a.eval x=xv at h4
  generalize hc:l.map f=xs at h4
  have hb:xs.length=l.length:=by rw[<-hc];simp
  refine⟨_,?_,VR.v C _⟩
  cases h4 with
  |tree0 h=>simp at hb;simp[execOp,hd,resolve,invoke,builtin,Builtin.len_,ha,run_underlying he,goInt,<-hb]
  |tree cell hT c1 c2 c3 c4 c5 c6=>simp[execOp,hd,resolve,invoke,builtin,Builtin.len_,ha,run_underlying he,goInt,hb]
theorem cd{t e:Nat}{x:Operand}{id ver off len:Nat}{b:Blk}{ats:Array TypeId}(ha:ats[0]? =some t)(he:P.underlying t=some (.slice e))(hx:aev τ x=.sl id ver off len)(hb:η id=some b)(hv:b.ver=ver):
 LOp P ⟨d,.call {callee:=.builtin .len,args:=#[x],argTypes:=ats},ty,pos,af,g⟩ τ η [id] [] (.v (.int .i64 (len:Int))):=
 .look [id] fun C a hg hf hh=>by
  have hb':C.η id=some b:=(hh id (by simp)).trans hb;have h1:=hf x (by simp[Op.operands,Call.operands])
  rw[hx]at h1;refine⟨_,?_,VR.v C _⟩;cases hn:b.nilp with
  |false=>
   obtain⟨ad,cap,e1,_⟩:=h1.sl_inv hb' hv hn
   simp[execOp,e1,resolve,invoke,builtin,Builtin.len_,ha,run_underlying he,goInt]
  |true=>
   generalize hi:a.eval x=xv at h1
   cases h1 with
   |imm h=>cases h
   |sl hc _ hd=>rw[hb']at hc;cases hc;rw[hn]at hd;cases hd
   |slz hc _ hd=>rw[hb']at hc;cases hc;rw[hn]at hd;cases hd
   |slnil=>simp[execOp,hi,resolve,invoke,builtin,Builtin.len_,ha,run_underlying he,goInt]
   |stales _ _ hs=>have:=hs b hb';omega
end
mutual
def AV.pureB:AV->Bool
 | .v _=>true
 | .tree _ _=>true
 | .tp _ _=>true
 | .unk=>true
 | .ptr _ _ _=>false
 | .mp _ _=>false
 | .it _ _=>false
 | .sl _ _ _ _=>false
 | .agg cs=>k8 cs
 | .tup cs=>k8 cs
 | .clo _ cs=>k8 cs
def k8:List AV->Bool
 | []=>true
 |a :: r=>a.pureB&&k8 r
end
mutual
def AV.lowB(u:Nat):AV->Bool
 | .v _=>true
 | .tree _ _=>true
 | .tp _ _=>true
 | .unk=>true
 | .ptr id _ _=>sp u id
 | .mp id _=>sp u id
 | .it id _=>sp u id
 | .sl id _ _ _=>sp u id
 | .agg cs=>qh u cs
 | .tup cs=>qh u cs
 | .clo _ cs=>qh u cs
def qh(u:Nat):List AV->Bool
 | []=>true
 |a :: r=>a.lowB u&&qh u r
end
theorem oz:∀{cs:List AV} (_:k8 cs=true) (i:Nat) (h:i<cs.length),cs[i].pureB=true
 |a::r,h,0,_=>by simp only[k8,ahq]at h;exact h.1
 |a::r,h,i+1,hi=>by simp only[k8,ahq]at h;exact oz h.2 i (by simpa using hi)
theorem abx{u:Nat}{cs:List AV}:qh u cs=true↔∀a∈cs,a.lowB u=true:=by
 induction cs with
 |nil=>simp[qh]
 |cons a r ih=>simp[qh,ih]
theorem zs{u:Nat}{cs:List AV}(h:qh u cs=true)(i:Nat)(hi:i<cs.length):cs[i].lowB u=true:=abx.1 h _ (ags _)
theorem VR.pure{C:Ctx}{a:AV}{x:Value}(h:VR C a x)(hp:a.pureB=true):TR C.T C.w a x:=by
 induction h with
 |imm h=>exact h
 |agg hl _ ih=>exact .agg hl (fun i h h'=>ih i h h' (oz (by simpa[AV.pureB]using hp) i h))
 |tup hl _ ih=>exact .tup hl (fun i h h'=>ih i h h' (oz (by simpa[AV.pureB]using hp) i h))
 |clo hl _ ih=>exact .clo hl (fun i h h'=>ih i h h' (oz (by simpa[AV.pureB]using hp) i h))
 |_=>simp[AV.pureB]at hp
def TRs(T:Nat->Prop)(w:World)(as:List AV)(vs:Array Value):Prop:=as.length=vs.size/\∀i (h:i<as.length) (h':i<vs.size),TR T w as[i] vs[i]
def Rn(T:Nat->Prop)(w:World)(ret:AV)(e:Ending)(w':World):Prop:=
 ∃x T',e=.returned x/\TR T' w' ret x/\(∀b,T b->T' b)/\(∀b,T' b->T b\/w.heap.size<=b)/\(∀b,T' b->b<w'.heap.size)/\Below w.heap.size w w'
def b8(P:Program)(f:FuncId)(args:List AV)(ret:AV):Prop:=
 ∀(T:Nat->Prop) (w:World) (vals:Array Value),TRs T w args vals->TOk T w->Calls P f vals w (Rn T w ret)
def bw(P:Program)(f:Nat):Bool:=match P.funcs[f]? with
 |some fn=>fn.body.isSome&&!(fn.name== "runtime.NumGoroutine")
 |none=>false
theorem eh{P:Program}{f:Nat}(h:bw P f=true)(args:Array Value)(w:World):(callFunc f args).run P w=.ok (.enter f args) w:=by
 unfold bw at h
 cases hf:P.funcs[f]? with
 |none=>rw[hf]at h;cases h
 |some fn=>
  rw[hf]at h
  simp only[ahq,Bool.not_eq_true',beq_eq_false_iff_ne]at h
  obtain⟨h1,h2⟩:=h
  cases hb:fn.body with
  |none=>rw[hb]at h1;cases h1
  |some c=>simp[callFunc,hf,h2,hb]
section
variable{P:Program}{τ:Nat->AV}{η:bi}{d:Option Tmp}{ty:TypeId}{pos:String}{af:Array Edge}{g:Option (Nat×Bool)}
def Ctx.after(C:Ctx)(T':Nat->Prop)(w':World):Ctx:={C with T:=T',w:=w'}
theorem cw{C:Ctx}(hg:Good C){k:Nat}(h:C.mine k):k<C.w.heap.size:=by obtain⟨id,hl,rfl⟩:=h;exact hg.lt hl
theorem ke{C:Ctx}(hg:Good C){T':Nat->Prop}{w':World}(hb:Below C.w.heap.size C.w w')(h1:∀b,C.T b->T' b)(h2:∀b,T' b->C.T b\/C.w.heap.size<=b):Ev C (C.after T' w') where
 os:=hb.os
 tape:=hb.tape
 output:=hb.output
 size:=hb.size
 keep:=fun k hk _=>hb.block k hk
 mine:=fun k hk=>.inl hk
 T:=h1
 Tnew:=fun k hk=>(h2 k hk).imp id .inr
 U:=fun _ h=>h
 old:=fun id b' _ hb'=>⟨b',hb',ag7 _,fun _=>⟨rfl,rfl,rfl,rfl⟩⟩
theorem qb{C:Ctx}(hg:Good C){T':Nat->Prop}{w':World}(hb:Below C.w.heap.size C.w w')(h1:∀b,C.T b->T' b)(h2:∀b,T' b->C.T b\/C.w.heap.size<=b)(h3:∀b,T' b->b<w'.heap.size):Good (C.after T' w') where
 used:=hg.used
 obj:=fun{id b} hb' hk=>by obtain⟨o,h,ho⟩:=hg.obj hb' hk;exact⟨o,(hb.block _ (Array.getElem?_eq_some_iff.1 h).1).trans h,ho.mono hg (ke hg hb h1 h2)⟩
 blk:=fun{id b} hb' hn=>by obtain⟨c,t',g1,g2,g3,g4⟩:=hg.blk hb' hn;exact⟨c,t',(hb.block _ (Array.getElem?_eq_some_iff.1 g1).1).trans g1,g2,g3,fun j h h'=>(g4 j h h').mono hg (ke hg hb h1 h2)⟩
 inj:=hg.inj
 tight:=hg.tight
 tok:=hg.tokE (ke hg hb h1 h2).toFr0 h3
 apart:=fun{k} hk hT=>by rcases h2 k hT with h|h;exact hg.apart hk h;have:=cw hg hk;omega
theorem Q4{C:Ctx}{a:Act}{xs:Array Operand}(h:∀x∈xs,VR C (aev τ x) (a.eval x))(hp:k8 (xs.toList.map (aev τ))=true):TRs C.T C.w (xs.toList.map (aev τ)) (xs.map a.eval):=by refine⟨by simp,fun i hi hi'=>?_⟩;have hx:=oz hp i hi;simp only[List.getElem_map,Array.getElem_toList,Array.getElem_map]at hx ⊢;exact(h _ (Array.getElem_mem _)).pure hx
theorem LOp.of_call{o:Oper}{f:FuncId}{args:List AV}{ret:AV}{fp:List Nat}(hc:b8 P f args ret)
 (h:∀(C:Ctx) (a:Act),Good C->(∀x∈o.op.operands,VR C (aev τ x) (a.eval x))->(∀id∈fp,C.η id=η id)->∃vals,TRs C.T C.w args vals/\(execOp a.eval o).run P C.w=.ok (.enter f vals) C.w):
 LOp P o τ η fp [] ret:=by
 intro C a hg ha hd _ K Q hK
 obtain⟨vals,h1,h2⟩:=h C a hg ha hd
 unfold Oper.wp
 rw[h2]
 refine Calls.mono (hc C.T C.w vals h1 hg.tok) ?_
 rintro e w' ⟨x,T',rfl,hx,t1,t2,t3,hb⟩
 exact hK x (C.after T' w') rfl (fun id=>by simp[Ctx.after]) (qb hg hb t1 t2 t3) (ke hg hb t1 t2) (.imm hx)
theorem LOp.call{f:FuncId}{xs:Array Operand}{ats:Array TypeId}{ret:AV}(hb:bw P f=true)(hp:k8 (xs.toList.map (aev τ))=true)(hc:b8 P f (xs.toList.map (aev τ)) ret):
 LOp P ⟨d,.call {callee:=.value (.func f),args:=xs,argTypes:=ats},ty,pos,af,g⟩ τ η [] [] ret:=
 .of_call hc fun C a hg ha _=>⟨xs.map a.eval,Q4 (fun x hx=>ha x (by simp[Op.operands,Call.operands];exact .inr (by simpa using hx))) hp,by have:execOp a.eval ⟨d,.call {callee:=.value (.func f),args:=xs,argTypes:=ats},ty,pos,af,g⟩=callFunc f (#[]++xs.map a.eval++#[]):=rfl;rw[this,eh hb];simp⟩
def Ctx.mineOf(C:Ctx)(fp:List Nat)(k:Nat):Prop:=∃id∈fp,C.live id/\(C.ρ id).1=k
theorem bh{C:Ctx}{fp:List Nat}{k:Nat}(h:C.mineOf fp k):C.mine k:=by obtain⟨id,_,h1,h2⟩:=h;exact⟨id,h1,h2⟩
def FzP(fp:List Nat)(η:bi)(a r:AV):Prop:=∀C:Ctx,Good C->(∀id∈fp,C.η id=η id)->∀x,VR C a x->TR (fun b=>C.T b\/C.mineOf fp b) C.w r x
theorem FzP.pure{fp:List Nat}{η:bi}{a:AV}(h:a.pureB=true):FzP fp η a a:=fun C hg _ x hx=>(hx.pure h).mono (fun b hb=>.inl hb) (fun _ _=>rfl)
theorem FzP.mono{fp fp':List Nat}{η:bi}{a r:AV}(h:FzP fp η a r)(hs:∀i∈fp,i∈fp'):FzP fp' η a r:=fun C hg hη x hx=>(h C hg (fun id ha=>hη id (hs id ha)) x hx).mono (fun b hb=>hb.imp (fun h=>h) (fun⟨i,h1,h2⟩=>⟨i,hs i h1,h2⟩)) (fun _ _=>rfl)
theorem FzP.nil{fp:List Nat}{η:bi}{n:Nat}:FzP fp η (.v (.slice none 0 0)) (.tree n []):=fun C hg _ x hx=>by rw[hx.v_inv];exact .tree0 (by unfold maxLen;omega)
theorem FzP.agg{fp:List Nat}{η:bi}{cs ds:List AV}(hl:cs.length=ds.length)(h:∀i (h:i<cs.length) (h':i<ds.length),FzP fp η cs[i] ds[i]):FzP fp η (.agg cs) (.agg ds):=fun C hg hη x hx=>by obtain⟨vs,rfl,h1,h2⟩:=hx.agg_inv;exact .agg (by omega) (fun i hi ha=>h i (by omega) hi C hg hη _ (h2 i (by omega) ha))
theorem FzP.sl{fp:List Nat}{η:bi}{id ver off len:Nat}{b:Blk}{rows:List (List AV)}(he:id∈fp)(hb:η id=some b)(hv:b.ver=ver)(hn:b.nilp=false)(hl:rows.length=len)(hd:∀k (h:k<rows.length),rows[k].length=b.esz)
 (hc:∀k (h:k<rows.length) j (h':j<rows[k].length),∃c,b.cs[off+k*b.esz+j]? =some c/\FzP fp η c rows[k][j]):FzP fp η (.sl id ver off len) (.tree b.esz rows):=fun C hg hη x hx=>by
 have hb':C.η id=some b:=(hη id he).trans hb
 obtain⟨ad,cap,rfl,h1,h2,h3,h4⟩:=hx.sl_inv hb' hv hn
 subst hl
 by_cases h0:rows=[]
 ·subst h0;exact .tree0 h2
 have hpos:0<rows.length:=List.length_pos_iff.2 h0
 rcases h4 with⟨h4,_⟩|⟨rfl,h4⟩
 ·omega
 have ha:∀k j,k<rows.length->j<b.esz->∃y,C.w.cell? ⟨(C.ρ id).1,(C.ρ id).2+off+k*b.esz+j,none⟩=some y/\∀(hk:k<rows.length) (hj:j<rows[k].length),TR (fun b=>C.T b\/C.mineOf fp b) C.w rows[k][j] y:=by intro k j hk hj;obtain⟨c,g1,g2⟩:=hc k hk j (by rw[hd k hk];exact hj);obtain⟨hm,ho⟩:=ahl.1 g1;obtain⟨y,hy,hf⟩:=hg.cell hb' hn hm;refine⟨y,by rw[<-hy];congr 2;omega,fun hk' hj'=>?_⟩;rw[ho]at hf;exact g2 C hg hη y hf
 let cell:Nat->Nat->Value:=fun k j=>if h:k<rows.length/\j<b.esz then Classical.choose (ha k j h.1 h.2)else undef
 have hi:∀k j (hk:k<rows.length) (hj:j<b.esz),C.w.cell? ⟨(C.ρ id).1,(C.ρ id).2+off+k*b.esz+j,none⟩=some (cell k j)/\∀(hk:k<rows.length) (hj:j<rows[k].length),TR (fun b=>C.T b\/C.mineOf fp b) C.w rows[k][j] (cell k j):=by intro k j hk hj;have hh:k<rows.length/\j<b.esz:=⟨hk,hj⟩;have e:cell k j=Classical.choose (ha k j hk hj):=dif_pos hh;rw[e];exact Classical.choose_spec (ha k j hk hj)
 exact .tree cell (.inr ⟨id,he,⟨b,hb',dj hn⟩,rfl⟩) h1 h2 h3 hd (fun k j hk hj=>(hi k j hk hj).1) (fun k hk j hj=>(hi k j hk (by rw[<-hd k hk];exact hj)).2 hk hj)
theorem LOp.of_callB{o:Oper}{f:FuncId}{args:List AV}{y:Value}{fp:List Nat}(hc:b8 P f args (.v y))
 (h:∀(C:Ctx) (a:Act),Good C->(∀x∈o.op.operands,VR C (aev τ x) (a.eval x))->(∀id∈fp,C.η id=η id)->∃vals,TRs (fun b=>C.T b\/C.mine b) C.w args vals/\(execOp a.eval o).run P C.w=.ok (.enter f vals) C.w):
 LOp P o τ η fp [] (.v y):=by
 intro C a hg ha hd _ K Q hK
 obtain⟨vals,h1,h2⟩:=h C a hg ha hd
 unfold Oper.wp
 rw[h2]
 refine Calls.mono (hc (fun b=>C.T b\/C.mine b) C.w vals h1 (hg.tokT (fun _ h=>.inl h) (fun b hb=>hb.elim (fun h=>hg.tlt h) (fun h=>cw hg h)))) ?_
 rintro e w' ⟨x,T',rfl,hx,t1,t2,t3,hb⟩
 have hT:∀b,C.T b->b<w'.heap.size:=fun b hb'=>Nat.lt_of_lt_of_le (hg.tlt hb') hb.size
 have:=hx.v_inv
 subst this
 exact hK x (C.after C.T w') rfl (fun id=>by simp[Ctx.after]) (qb hg hb (fun _ h=>h) (fun _ h=>.inl h) hT) (ke hg hb (fun _ h=>h) (fun _ h=>.inl h)) (VR.v _ _)
theorem xa{f:FuncId}{xs:Array Operand}{ats:Array TypeId}{y:Value}{args:List AV}(fp:List Nat)(hb:bw P f=true)(hl:xs.size=args.length)(hf:∀i (h:i<xs.size) (h':i<args.length),FzP fp η (aev τ xs[i]) args[i])(hc:b8 P f args (.v y)):
 LOp P ⟨d,.call {callee:=.value (.func f),args:=xs,argTypes:=ats},ty,pos,af,g⟩ τ η fp [] (.v y):=
 .of_callB hc fun C a hg ha hη=>⟨xs.map a.eval,⟨by simp;omega,fun i h h'=>by
  simp only[Array.getElem_map]
  have h'':i<xs.size:=by simpa using h'
  exact(hf i h'' h C hg hη _ (ha _ (by simp[Op.operands,Call.operands]))).mono (fun b hb=>hb.imp (fun h=>h) bh) (fun _ _=>rfl)⟩,by
  have:execOp a.eval ⟨d,.call {callee:=.value (.func f),args:=xs,argTypes:=ats},ty,pos,af,g⟩=callFunc f (#[]++xs.map a.eval++#[]):=rfl
  rw[this,eh hb]
  simp⟩
end
def cq(args:List AV):Nat->AV:=fun t=>args.getD t (.v undef)
def nb:bi:=fun _=>none
def Ng(P:Program)(N:Nat)(fn:Func)(s:St)(ret:AV):Prop:=
 ∀C a,SRel N C s a->∃x,(results fn a.tmps).run P C.w=.ok x C.w/\TR (fun b=>C.T b\/C.mine b) C.w ret x
theorem pB{P:Program}{f:FuncId}{fn:Func}{c:Code}{N:Nat}{args:List AV}{ret:AV}(hf:P.funcs[f]? =some fn)(hb:fn.body=some c)(hN:fn.ntmps=N)(hl:args.length<=N)
 (h:AWP P N c (fun e s'=>(e=.normal\/e=.ret)/\Ng P N fn s' ret) ⟨cq args,nb,0⟩):b8 P f args ret:=by
 intro T w vals ⟨hlen,hv⟩ hT
 let C:Ctx:=⟨fun _=>(0,0),fun _=>0,nb,fun _=>False,T,w⟩
 have hh:∀k,¬C.mine k:=by rintro k ⟨_,⟨_,h,_⟩,_⟩;cases h
 have hg:Good C:={used:=fun h=>(by cases h),obj:=fun h=>(by cases h),blk:=fun h=>(by cases h),inj:=fun h _=>(by obtain⟨_,h,_⟩:=h;cases h),tok:=hT,apart:=fun h _=>hh _ h,tight:=fun h=>(by cases h)}
 have hr:SRel N C ⟨cq args,nb,0⟩ {tmps:=vals++Array.replicate (fn.ntmps-vals.size) undef,defers:=[]}:=by refine⟨hg,rfl,fun id h=>h.elim,rfl,by simp;omega,fun t=>?_⟩;simp only[Act.eval,cq];by_cases ht:t<args.length;have h1:args.getD t (.v undef)=args[t]:=(by simp[List.getD,ht]);have h2:(vals++Array.replicate (fn.ntmps-vals.size) undef).getD t undef=vals[t]'(by omega):=(by rw[Array.getD_eq_getD_getElem?,Array.getElem?_append_left (by omega)];simp[show t<vals.size by omega]);rw[h1,h2];exact .imm (hv t ht (by omega));have h1:args.getD t (.v undef)=.v undef:=(by simp[List.getD,List.getElem?_eq_none (Nat.le_of_not_lt ht)]);have h2:(vals++Array.replicate (fn.ntmps-vals.size) undef).getD t undef=undef:=(by rw[Array.getD_eq_getD_getElem?,Array.getElem?_append_right (by omega)];rw[Array.getElem?_replicate];split<;>rfl);rw[h1,h2];exact VR.v _ _
 refine calls_of_wp hf hb (Code.wp_mono ?_ (h C _ hr))
 rintro e a' w' ⟨s',C',⟨he,ho⟩,rfl,hd,ha⟩
 obtain⟨x,h1,h2⟩:=ho C' a' hd
 have hc:Rn T w ret (.returned x) C'.w:=by refine⟨x,fun b=>C'.T b\/C'.mine b,rfl,h2,fun b hb=>.inl (ha.T b hb),?_,?_,⟨ha.os,ha.tape,ha.output,ha.size,fun k hk=>ha.keep k hk (hh k)⟩⟩;rintro b (hb|hb);rcases ha.Tnew b hb with h|h|h;exact .inl h;exact absurd h (hh b);exact .inr h;rcases ha.mine b hb with h|h;exact absurd h (hh b);exact .inr h;rintro b (hb|hb);exact hd.good.tlt hb;exact cw hd.good hb
 rcases he with rfl|rfl
 ·exact⟨hd.defers,x,h1,hc⟩
 ·exact⟨hd.defers,x,h1,hc⟩
theorem Ng.tmp{P:Program}{N:Nat}{fn:Func}{s:St}{ret:AV}{t:Nat}(hr:fn.results=#[.tmp t])(h:∃fp,FzP fp s.η (s.τ t) ret):Ng P N fn s ret:=by intro C a hs;obtain⟨fp,hf⟩:=h;refine⟨a.tmps.getD t undef,?_,(hf C hs.good (fun id _=>by rw[hs.η]) _ (hs.τ t)).mono (fun b hb=>hb.imp (fun h=>h) bh) (fun _ _=>rfl)⟩;simp[results,hr]
theorem Ng.cell{P:Program}{N:Nat}{fn:Func}{s:St}{ret:AV}{t ty n id ver:Nat}{b:Blk}(hr:fn.results=#[.cell t ty])(ht:ej P ty=some (some n))(hx:s.τ t=.ptr id ver 0)(hb:s.η id=some b)(hv:b.ver=ver)(hn:b.nilp=false)(hl:b.cs.length=n)
 (h:∃fp,FzP fp s.η (.agg b.cs) ret):Ng P N fn s ret:=by
 intro C a hs
 obtain⟨fp,hf⟩:=h
 have hb':C.η id=some b:=by rw[hs.η];exact hb
 have h1:=hs.τ t
 rw[hx]at h1
 have h2:=h1.ptr_inv hb' hv
 simp only[Act.eval]at h2
 obtain⟨fcell,hg⟩:=ef (n:=n) (p:=fun j y=>C.w.cell? ⟨(C.ρ id).1,(C.ρ id).2+j,none⟩=some y/\VR C (b.cs.getD j .unk) y) (fun j hj=>by
  obtain⟨y,hy,hk⟩:=hs.good.cell hb' hn (j:=j) (by omega)
  refine⟨y,hy,?_⟩
  have:b.cs.getD j .unk=b.cs[j]'(by omega):=by simp[List.getD,show j<b.cs.length by omega]
  rw[this];exact hk)
 have hd:((List.range n).map fcell).length=n:=by simp
 have hc:=mm (P:=P) ht (b:=(C.ρ id).1) (o:=(C.ρ id).2) (w:=C.w) hd (fun j v hj=>by
  obtain⟨hm,he⟩:=ahl.1 hj
  simp only[List.getElem_map,List.getElem_range]at he
  subst he
  exact(hg j (by simpa using hm)).1)
 refine⟨.agg ((List.range n).map fcell).toArray,?_,(hf C hs.good (fun id _=>by rw[hs.η]) _ (.agg (by simp;omega) (fun i hi hi'=>?_))).mono (fun b hb=>hb.imp (fun h=>h) bh) (fun _ _=>rfl)⟩
 ·have hh:(loadVar ty ⟨(C.ρ id).1,(C.ρ id).2+0,none⟩).run P C.w=.ok (.agg ((List.range n).map fcell).toArray) C.w:=by
   have:=hc
   simp only[Instr.loadAt,Instr.sureAddr,Sem.run_bind,ahc,ahb]at this
   rw[Nat.add_zero];exact this
  have ha:(results fn a.tmps).run P C.w=((asAddr (a.tmps.getD t undef)).run P C.w).andThen fun ad w₁=>(loadVar ty ad).run P w₁:=by
   simp only[results,hr]
   simp[Sem.run_bind,Result.andThen]
  rw[ha,h2]
  simp only[asAddr,ahc,ahb,hh]
 ·have ho:i<n:=by omega
  simp only[List.getElem_toArray,List.getElem_map,List.getElem_range]
  have:=(hg i ho).2
  simpa[List.getD,show i<b.cs.length by omega]using this
def fL:List (Nat×AV)->Nat->AV
 |[]=>fun _=>.unk
 |p::r=>fun t=>bif Nat.beq t p.1 then p.2 else fL r t
def hLz:List (Nat×Blk)->bi
 |[]=>fun _=>none
 |p::r=>fun id=>bif Nat.beq id p.1 then some p.2 else hLz r id
def Il(τ:Nat->AV)(u:Nat):List (Nat×AV)->Prop
 |[]=>True
 |p::r=>τ p.1=p.2/\p.2.lowB u=true/\Il τ u r
def Ik(η:bi)(u:Nat):List (Nat×Blk)->Prop
 |[]=>True
 |p::r=>η p.1=some p.2/\sp u p.1=true/\qh u p.2.cs=true/\Ik η u r
structure Canon(s s1:St):Prop where
 τ:∀t,s1.τ t=.unk\/(s1.τ t=s.τ t/\(s.τ t).lowB s1.u=true)
 η:∀id b,s1.η id=some b->s.η id=some b/\(id<s1.u\/TOP<=id)/\qh s1.u b.cs=true
theorem Il.at{τ:Nat->AV}{u:Nat}:∀{l:List (Nat×AV)} (_:Il τ u l) (t:Nat),fL l t=.unk\/(fL l t=τ t/\(τ t).lowB u=true)
 |[],_,_=>.inl rfl
 |p::r,⟨h1,h2,h3⟩,t=>by
  cases hb:Nat.beq t p.1 with
  |true=>
   have e:=agu hb
   right
   have e1:fL (p::r) t=p.2:=by simp[fL,hb]
   rw[e1,e,h1];exact⟨rfl,h2⟩
  |false=>
   have e1:fL (p::r) t=fL r t:=by simp[fL,hb]
   rw[e1];exact Il.at h3 t
theorem Ik.at{η:bi}{u:Nat}:∀{l:List (Nat×Blk)} (_:Ik η u l) (id:Nat) (b:Blk),hLz l id=some b->η id=some b/\(id<u\/TOP<=id)/\qh u b.cs=true
 |[],_,_,_,h=>by cases h
 |p::r,⟨h1,h2,h3,h4⟩,id,b,h=>by
  cases hb:Nat.beq id p.1 with
  |true=>
   have e:=agu hb
   have e1:hLz (p::r) id=some p.2:=by simp[hLz,hb]
   rw[e1]at h
   cases h
   rw[e]
   exact⟨h1,Zn.1 h2,h3⟩
  |false=>
   have e1:hLz (p::r) id=hLz r id:=by simp[hLz,hb]
   rw[e1]at h
   exact Ik.at h4 id b h
theorem cO{s:St}{fl:List (Nat×AV)}{hl:List (Nat×Blk)}{u:Nat}(h1:Il s.τ u fl)(h2:Ik s.η u hl):Canon s ⟨fL fl,hLz hl,u⟩:=⟨h1.at,h2.at⟩
theorem VR.canon{C C':Ctx}{u:Nat}(hρ:C'.ρ=C.ρ)(hf:C'.sz=C.sz)(hT:C'.T=C.T)(hw:C'.w=C.w)(hU:∀id,C.U id->(id<u\/TOP<=id)->C'.U id)(hη:∀id b,C'.η id=some b->C.η id=some b)(ha:∀{id b},C.η id=some b->C.U id){a:AV}{x:Value}(h:VR C a x)(hl:a.lowB u=true):VR C' a x:=by
 have st:∀{id ver:Nat},(∀b,C.η id=some b->ver<b.ver)->∀b,C'.η id=some b->ver<b.ver:=fun h b hb=>h b (hη _ b hb)
 have keep:∀{id:Nat} {b:Blk},C.η id=some b->C'.η id=some b\/C'.η id=none:=by
  intro id b hb
  cases h':C'.η id with
  |none=>exact .inr rfl
  |some b'=>have:=hη id b' h';rw[hb]at this;exact .inl this.symm
 induction h with
 |imm h=>exact .imm (by rw[hT,hw];exact h)
 |ptr hb he hn=>
  have hc:=Zn.1 (by simpa only[AV.lowB]using hl)
  rcases keep hb with h'|h'
  ·rw[<-hρ];exact .ptr h' he hn
  ·exact .stalep rfl (hU _ (ha hb) hc) (fun b hb'=>by rw[h']at hb';cases hb')
 |sl hb he hn h1 h2 h3 h4=>
  have hc:=Zn.1 (by simpa only[AV.lowB]using hl)
  rcases keep hb with h'|h'
  ·rw[<-hρ];exact .sl h' he hn h1 h2 h3 (by rw[hρ,hf];exact h4)
  ·exact .stales rfl (hU _ (ha hb) hc) (fun b hb'=>by rw[h']at hb';cases hb')
 |slz hb he hn=>
  have hc:=Zn.1 (by simpa only[AV.lowB]using hl)
  rcases keep hb with h'|h'
  ·exact .slz h' he hn
  ·exact .stales rfl (hU _ (ha hb) hc) (fun b hb'=>by rw[h']at hb';cases hb')
 |mp hb he hn=>
  have hc:=Zn.1 (by simpa only[AV.lowB]using hl)
  rcases keep hb with h'|h'
  ·rw[<-hρ];exact .mp h' he hn
  ·exact .stalem rfl (hU _ (ha hb) hc) (fun b hb'=>by rw[h']at hb';cases hb')
 |it hb he hn=>
  have hc:=Zn.1 (by simpa only[AV.lowB]using hl)
  rcases keep hb with h'|h'
  ·rw[<-hρ];exact .it h' he hn
  ·exact .stalei rfl (hU _ (ha hb) hc) (fun b hb'=>by rw[h']at hb';cases hb')
 |stalem h1 hu hs=>
  have hc:=Zn.1 (by simpa only[AV.lowB]using hl)
  exact .stalem h1 (hU _ hu hc) (st hs)
 |stalei h1 hu hs=>
  have hc:=Zn.1 (by simpa only[AV.lowB]using hl)
  exact .stalei h1 (hU _ hu hc) (st hs)
 |slnil hb he hn=>
  have hc:=Zn.1 (by simpa only[AV.lowB]using hl)
  rcases keep hb with h'|h'
  ·exact .slnil h' he hn
  ·exact .stales rfl (hU _ (ha hb) hc) (fun b hb'=>by rw[h']at hb';cases hb')
 |stalep h1 hu hs=>
  have hc:=Zn.1 (by simpa only[AV.lowB]using hl)
  exact .stalep h1 (hU _ hu hc) (st hs)
 |stales h1 hu hs=>
  have hc:=Zn.1 (by simpa only[AV.lowB]using hl)
  exact .stales h1 (hU _ hu hc) (st hs)
 |agg hd _ ih=>exact .agg hd (fun i h h'=>ih i h h' (zs (by simpa[AV.lowB]using hl) i h))
 |tup hd _ ih=>exact .tup hd (fun i h h'=>ih i h h' (zs (by simpa[AV.lowB]using hl) i h))
 |clo hd _ ih=>exact .clo hd (fun i h h'=>ih i h h' (zs (by simpa[AV.lowB]using hl) i h))
theorem ObjR.canon{C C':Ctx}{u:Nat}(hρ:C'.ρ=C.ρ)(hc:C'.sz=C.sz)(hT:C'.T=C.T)(hw:C'.w=C.w)(hU:∀id,C.U id->(id<u\/TOP<=id)->C'.U id)(hη:∀id b,C'.η id=some b->C.η id=some b)(ha:∀{id b},C.η id=some b->C.U id){cs:List AV}{o:Obj}(h:ObjR C cs o)(hl:qh u cs=true):ObjR C' cs o:=by
 cases h with
 |map hb hi=>
  refine .map hb (fun i h1 h2=>⟨(hi i h1 h2).1,(hi i h1 h2).2.1.canon hρ hc hT hw hU hη ha ?_,(hi i h1 h2).2.2⟩)
  rename_i es entries clock
  have:=abx.1 hl (.agg [.v es[i].1,es[i].2.1,.v (.int .i64 (Int.ofNat es[i].2.2))]) (by
   unfold ki
   exact List.mem_cons_of_mem _ (List.mem_cons_of_mem _ (ahh.2 ⟨es[i],ags _,rfl⟩)))
  simp only[AV.lowB,qh,ahq]at this
  exact this.2.1
 |siter=>exact .siter
 |miter0=>exact .miter0
 |miter hv=>
  refine .miter (hv.canon hρ hc hT hw hU hη ha ?_)
  exact abx.1 hl _ (by unfold jf;simp)
theorem Canon.rel{N:Nat}{C:Ctx}{s s1:St}{a:Act}(h:Canon s s1)(hr:SRel N C s a):∃C',C'.w=C.w/\SRel N C' s1 a/\Fr C C':=by
 let C':Ctx:={C with η:=s1.η,U:=fun id=>C.U id/\(id<s1.u\/TOP<=id)};have hη:∀id b,C'.η id=some b->C.η id=some b:=fun id b hb=>by rw[hr.η];exact(h.η id b hb).1
 have ha:∀{id},C'.live id->C.live id:=fun⟨b,hb,hn⟩=>⟨b,hη _ b hb,hn⟩;have hc:∀{k},C'.mine k->C.mine k:=fun⟨id,hl,hk⟩=>⟨id,ha hl,hk⟩
 have he:∀{a:AV} {x:Value},VR C a x->a.lowB s1.u=true->VR C' a x:=fun hv hl=>VR.canon (C:=C) (C':=C') (u:=s1.u) rfl rfl rfl rfl (fun id hu hd=>⟨hu,hd⟩) hη hr.good.used hv hl;refine⟨C',rfl,⟨⟨by intro id b hb;exact⟨hr.good.used (hη id b hb),(h.η id b hb).2.1⟩,by intro id b hb hn;obtain⟨o,h1,h2⟩:=hr.good.obj (hη id b hb) hn;exact⟨o,h1,ObjR.canon (C:=C) (C':=C') (u:=s1.u) rfl rfl rfl rfl (fun id hu hd=>⟨hu,hd⟩) hη hr.good.used h2 (h.η id b hb).2.2⟩,by intro id b hb hn;obtain⟨c,t',g1,g2,g3,g4⟩:=hr.good.blk (hη id b hb) hn;exact⟨c,t',g1,g2,g3,fun j hj hf=>he (g4 j hj hf) (zs (h.η id b hb).2.2 j hj)⟩,by intro id id' h1 h2 h3;exact hr.good.inj (ha h1) (ha h2) h3,hr.good.tok,by intro k hk hT;exact hr.good.apart (hc hk) hT,fun{id b} hb hv hn=>hr.good.tight (hη id b hb) hv hn⟩,rfl,fun id hg=>hg.2,hr.defers,hr.size,fun t=>?_⟩,⟨⟨rfl,rfl,rfl,ag7 _,fun _ _ _=>rfl,fun k hk=>.inl (hc hk),fun _ h=>h,fun _ h=>.inl h⟩,fun id ht hu=>⟨⟨hu,.inr ht⟩,fun b' hb=>⟨b',hη id b' hb,ag7 _,fun _=>⟨rfl,rfl,rfl,rfl⟩⟩⟩⟩⟩;rcases h.τ t with h1|⟨h1,h2⟩;rw[h1];exact VR.unk _ _;rw[h1];exact he (hr.τ t) h2
section
variable{P:Program}{N:Nat}{Q:Exit->St->Prop}{s:St}
theorem AWP.canon{c:Code}{s1:St}(h:Canon s s1)(hc:AWP P N c Q s1):AWP P N c Q s:=by intro C a hr;obtain⟨C',hw,ha,hf⟩:=h.rel hr;have:=hc C' a ha;rw[hw]at this;refine Code.wp_mono ?_ this;rintro e a' w' ⟨s',C'',hq,hb,hr'',hd⟩;exact⟨s',C'',hq,hb,hr'',hf.trans hd⟩
end
structure Rec where
 fp:List Nat
 δ:List (Nat×Option Blk)
 v:AV
 u:Nat
def Bf(o:Oper)(r:Rec)(s:St):St:=⟨kj s.τ o.dst r.v,s.η.put r.δ,r.u⟩
def Xu(P:Program)(N:Nat)(ops:Array Oper)(o:Oper)(r:Rec)(s:St):Prop:=
 jh N ops o=true/\s.u<=r.u/\((m8 ops s.τ o=some true/\LOp P o s.τ s.η r.fp r.δ r.v/\zn r.fp r.δ s.u r.u=true)\/(m8 ops s.τ o=some false/\r.v=.v undef/\r.δ=[]/\r.fp=[]))
inductive Seq(P:Program)(N:Nat)(ops:Array Oper):List Oper->St->List Rec->St->Prop where
 |nil {s:St}:Seq P N ops [] s [] s
 |cons {o:Oper} {l:List Oper} {s s':St} {r:Rec} {rs:List Rec}:Xu P N ops o r s->Seq P N ops l (Bf o r s) rs s'->Seq P N ops (o :: l) s (r :: rs) s'
theorem Seq.op{P:Program}{N:Nat}{ops:Array Oper}{o:Oper}{l:List Oper}{s s':St}{rs:List Rec}{fp:List Nat}{δ:List (Nat×Option Blk)}{v:AV}(u':Nat)(hL:LOp P o s.τ s.η fp δ v)(hw:m8 ops s.τ o=some true)(hd:jh N ops o=true)
 (hu:Nat.ble s.u u'=true)(hn:zn fp δ s.u u'=true)(h:Seq P N ops l ⟨kj s.τ o.dst v,s.η.put δ,u'⟩ rs s'):Seq P N ops (o::l) s (⟨fp,δ,v,u'⟩::rs) s':=
 .cons ⟨hd,ag9 hu,.inl ⟨hw,hL,hn⟩⟩ h
theorem Seq.skip{P:Program}{N:Nat}{ops:Array Oper}{o:Oper}{l:List Oper}{s s':St}{rs:List Rec}(hw:m8 ops s.τ o=some false)(hd:jh N ops o=true)
 (h:Seq P N ops l ⟨kj s.τ o.dst (.v undef),s.η,s.u⟩ rs s'):Seq P N ops (o::l) s (⟨[],[],.v undef,s.u⟩::rs) s':=
 .cons ⟨hd,ag7 _,.inr ⟨hw,rfl,rfl,rfl⟩⟩ h
def uc:List Oper->List Rec->Nat->St->St
 |o::l,r::rs,k+1,s=>uc l rs k (Bf o r s)
 |_,_,_,s=>s
theorem n4(l:List Oper)(rs:List Rec)(s:St):uc l rs 0 s=s:=by cases l<;>cases rs<;>rfl
theorem vr(o:Oper)(l:List Oper)(r:Rec)(rs:List Rec)(k:Nat)(s:St):uc (o::l) (r::rs) (k+1) s=uc l rs k (Bf o r s):=rfl
theorem vq(l:List Oper):∀(rs:List Rec) (k:Nat) (s:St) (o:Oper) (r:Rec),l[k]? =some o->rs[k]? =some r->uc l rs (k+1) s=Bf o r (uc l rs k s):=by
 induction l with
 |nil=>intro rs k s o r h1;simp at h1
 |cons o' l ih=>
  intro rs k s o r h1 h2
  cases rs with
  |nil=>simp at h2
  |cons r' rs=>
   cases k with
   |zero=>
    simp only[List.getElem?_cons_zero,agv]at h1 h2
    rw[vr,n4,n4,h1,h2]
   |succ k=>
    rw[vr,vr]
    exact ih rs k _ o r (by simpa using h1) (by simpa using h2)
theorem Seq.facts{P:Program}{N:Nat}{ops:Array Oper}{l:List Oper}{s s':St}{rs:List Rec}(h:Seq P N ops l s rs s'):
 rs.length=l.length/\s'=uc l rs l.length s/\∀(k:Nat) (o:Oper) (r:Rec),l[k]? =some o->rs[k]? =some r->Xu P N ops o r (uc l rs k s):=by
 induction h with
 |nil=>exact⟨rfl,rfl,fun k o r h=>by simp at h⟩
 |cons hf _ ih=>
  obtain⟨h1,h2,h3⟩:=ih
  refine⟨by simp[h1],h2,fun k o r ho hr=>?_⟩
  cases k with
  |zero=>
   simp at ho hr
   subst ho;subst hr
   rw[n4];exact hf
  |succ k=>exact h3 k o r (by simpa using ho) (by simpa using hr)
def bv(o:Oper):List Nat:=(o.after.toList.filter (Region.binds .any ·)).map (·.on)
inductive Anc(ops:Array Oper):Nat->Nat->Prop where
 |on {k i:Nat} {o:Oper}:ops[k]? =some o->i∈bv o->Anc ops k i
 |up {k j i:Nat} {o:Oper}:ops[k]? =some o->j∈bv o->Anc ops j i->Anc ops k i
def oa(ms:List Nat):List Nat->Nat
 |[]=>0
 |i::r=>Nat.lor (Nat.lor (2^i) (ms.getD i 0)) (oa ms r)
def uf:List Oper->List Nat->List Nat
 |[],ms=>ms
 |o::l,ms=>uf l (ms++[oa ms (bv o)])
theorem yg{ms:List Nat}:∀{l:List Nat} {i:Nat},(oa ms l).testBit i=true->∃j∈l,i=j\/(ms.getD j 0).testBit i=true
 |[],i,h=>by simp[oa]at h
 |j::r,i,h=>by have h':((2^j|||ms.getD j 0)|||oa ms r).testBit i=true:=h;rw[Nat.testBit_or,Nat.testBit_or,Nat.testBit_two_pow]at h';simp only[Bool.or_eq_true,decide_eq_true_eq]at h';rcases h' with(h1|h1)|h1;exact⟨j,by simp,.inl h1.symm⟩;exact⟨j,by simp,.inr h1⟩;obtain⟨q,hq,h2⟩:=yg h1;exact⟨q,by simp[hq],h2⟩
theorem n9{ops:Array Oper}:∀(l:List Oper) (ms:List Nat),(∀j (o:Oper),l[j]? =some o->ops[ms.length+j]? =some o)->(∀k i,(ms.getD k 0).testBit i=true->Anc ops k i)->∀k i,((uf l ms).getD k 0).testBit i=true->Anc ops k i
 |[],_,_,h=>h
 |o::l,ms,hl,h=>by have ho:ops[ms.length]? =some o:=(by simpa using hl 0 o rfl);refine n9 l (ms++[oa ms (bv o)]) (fun j o' hj=>by have:=hl (j+1) o' (by simpa using hj);simp only[agw,ahe,ahf];rw[show ms.length+(0+1)+j=ms.length+(j+1)by omega];exact this) (fun k i hk=>?_);by_cases e:k<ms.length;have:(ms++[oa ms (bv o)]).getD k 0=ms.getD k 0:=(by simp[List.getD,List.getElem?_append_left e]);rw[this]at hk;exact h k i hk;by_cases e2:k=ms.length;subst e2;have:(ms++[oa ms (bv o)]).getD ms.length 0=oa ms (bv o):=(by simp[List.getD]);rw[this]at hk;obtain⟨j,hj,rfl|h2⟩:=yg hk;exact .on ho hj;exact .up ho hj (h j i h2);have:(ms++[oa ms (bv o)]).getD k 0=0:=(by simp[List.getD,List.getElem?_eq_none (show(ms++[oa ms (bv o)]).length<=k by simp;omega)]);rw[this]at hk;simp at hk
def Hn(a b:List Nat):Bool:=a.all fun x=>!b.contains x
def M5(ops:Array Oper)(oi ok:Oper)(ri rk:Rec):Bool:=
 Oper.apart ops oi ok&&Hn (ri.δ.map (·.1)) rk.fp&&Hn (rk.δ.map (·.1)) ri.fp&&Hn (ri.δ.map (·.1)) (rk.δ.map (·.1))
def pw(ops:Array Oper)(rs:List Rec):Bool:=
 (List.range ops.size).all fun k=>match ops[k]?,rs[k]? with
  |some ok,some rk=>(bv ok).all (fun i=>Nat.ble (i+1) k)&&(match ok.op with|.select _ _=>false|_=>true)&&
   (List.range k).all fun i=>((uf ops.toList []).getD k 0).testBit i||(match ops[i]?,rs[i]? with|some oi,some ri=>M5 ops oi ok ri rk|_,_=>false)
  |_,_=>false
section
variable(ops:List Oper)(rs:List Rec)
def Da(k:Nat):Option Tmp:=(ops[k]?).bind (·.dst)
def vK(k:Nat):AV:=((rs[k]?).map (·.v)).getD .unk
def δK(k:Nat):List (Nat×Option Blk):=((rs[k]?).map (·.δ)).getD []
def jg:List (Nat×Option Blk)->Nat->Option (Option Blk)
 |[],_=>none
 |p::r,id=>match jg r id with
  |some b=>some b
  |none=>if p.1=id then some p.2 else none
theorem F8:∀(δ:List (Nat×Option Blk)) (η:bi) (id:Nat),η.put δ id=(match jg δ id with|some b=>b|none=>η id)
 |[],_,_=>rfl
 |p::r,η,id=>by
  rw[bi.put,F8 r]
  simp only[jg]
  cases h:jg r id with
  |some b=>rfl
  |none=>
   simp only
   by_cases e:p.1=id
   ·subst e;simp[ak]
   ·rw[am _ _ (fun h=>e h.symm)];simp[e]
theorem l8:∀(δ:List (Nat×Option Blk)) (id:Nat),(jg δ id).isSome=true↔id∈δ.map (·.1)
 |[],id=>by simp[jg]
 |p::r,id=>by
  simp only[jg,ahg,ahi]
  have ih:=l8 r id
  cases h:jg r id with
  |some b=>rw[h]at ih;simp only[Option.isSome_some,true_iff]at ih ⊢;exact .inr ih
  |none=>
   rw[h]at ih
   simp only[Option.isSome_none,Bool.false_eq_true,false_iff]at ih
   by_cases e:p.1=id
   ·simp[e]
   ·have e':¬id=p.1:=fun h=>e h.symm
    simp only[e,if_false,Option.isSome_none,Bool.false_eq_true,e',false_or,false_iff]
    exact ih
def ul(s0:St)(S:Nat->Bool):Nat->Nat->AV
 |0,t=>s0.τ t
 |m+1,t=>if S m=true/\Da ops m=some t then vK rs m else ul s0 S m t
def hval(s0:St)(S:Nat->Bool):Nat->bi
 |0,id=>s0.η id
 |m+1,id=>match(if S m then jg (δK rs m) id else none)with
  |some b=>b
  |none=>hval s0 S m id
variable{ops rs}
theorem nu{s0:St}:∀(k:Nat),k<=ops.length->rs.length=ops.length->(uc ops rs k s0).τ=ul ops rs s0 (fun _=>true) k/\(uc ops rs k s0).η=hval rs s0 (fun _=>true) k
 |0,_,_=>by rw[n4];exact⟨rfl,rfl⟩
 |k+1,hk,hl=>by
  obtain⟨h1,h2⟩:=nu (s0:=s0) k (by omega) hl
  have ho:ops[k]? =some (ops[k]'(by omega)):=agt (by omega)
  have hr:rs[k]? =some (rs[k]'(by omega)):=agt (by omega)
  rw[vq ops rs k s0 _ _ ho hr]
  constructor
  ·funext t
   have hd:Da ops k=(ops[k]'(by omega)).dst:=by simp[Da,ho]
   have hv:vK rs k=(rs[k]'(by omega)).v:=by simp[vK,hr]
   simp only[Bf,ul,hd,hv,true_and]
   rw[h1]
   cases hdd:(ops[k]'(by omega)).dst with
   |none=>simp[kj]
   |some d=>
    simp only[kj,upd,agv]
    by_cases e:d=t
    ·subst e;simp
    ·have:Nat.beq t d=false:=by
      cases hb:Nat.beq t d with
      |false=>rfl
      |true=>exact absurd (agu hb).symm e
     simp[this,e]
  ·funext id
   have hd:δK rs k=(rs[k]'(by omega)).δ:=by simp[δK,hr]
   simp only[Bf,hval,hd,if_true]
   rw[F8,h2]
theorem se{s0:St}{S:Nat->Bool}{t k:Nat}:∀m,(∀j,k<=j->j<k+m->¬(S j=true/\Da ops j=some t))->ul ops rs s0 S (k+m) t=ul ops rs s0 S k t
 |0,_=>rfl
 |m+1,h=>by show(if S (k+m)=true/\Da ops (k+m)=some t then vK rs (k+m)else ul ops rs s0 S (k+m) t)=_;rw[ag0 (h (k+m) (by omega) (by omega)),se m (fun j h1 h2=>h j h1 (by omega))]
theorem qv{s0:St}{S S':Nat->Bool}{t:Nat}:∀k,(∀j,j<k->Da ops j=some t->S j=S' j)->ul ops rs s0 S k t=ul ops rs s0 S' k t
 |0,_=>rfl
 |k+1,h=>by simp only[ul];rw[qv k (fun j hj=>h j (by omega))];by_cases e:Da ops k=some t;rw[h k (by omega) e];simp[e]
theorem su{s0:St}{S:Nat->Bool}{id k:Nat}:∀m,(∀j,k<=j->j<k+m->¬(S j=true/\id∈(δK rs j).map (·.1)))->hval rs s0 S (k+m) id=hval rs s0 S k id
 |0,_=>rfl
 |m+1,h=>by
  have h1:=h (k+m) (by omega) (by omega)
  show(match(if S (k+m)then jg (δK rs (k+m)) id else none)with|some b=>b|none=>hval rs s0 S (k+m) id)=_
  have:(if S (k+m)then jg (δK rs (k+m)) id else none)=none:=by
   cases hS:S (k+m)with
   |false=>rfl
   |true=>
    simp only[if_true]
    cases hl:jg (δK rs (k+m)) id with
    |none=>rfl
    |some b=>exact absurd ⟨hS,(l8 _ _).1 (by rw[hl];rfl)⟩ h1
  rw[this]
  exact su m (fun j h1 h2=>h j h1 (by omega))
theorem rg{s0:St}{S S':Nat->Bool}{id:Nat}:∀k,(∀j,j<k->id∈(δK rs j).map (·.1)->S j=S' j)->hval rs s0 S k id=hval rs s0 S' k id
 |0,_=>rfl
 |k+1,h=>by
  simp only[hval]
  rw[rg k (fun j hj=>h j (by omega))]
  by_cases e:id∈(δK rs k).map (·.1)
  ·rw[h k (by omega) e]
  ·have:jg (δK rs k) id=none:=by
    cases hl:jg (δK rs k) id with
    |none=>rfl
    |some b=>exact absurd ((l8 _ _).1 (by rw[hl];rfl)) e
   simp[this]
end
def ce(f:Nat->Bool)(i:Nat):Nat->Bool:=fun k=>if k=i then true else f k
theorem o9{α:Type}{p q:α->Bool}:∀{l:List α} {x:α},x∈l->p x=true->q x=false->(∀y∈l,q y=true->p y=true)->l.countP q<l.countP p
 |y::l,x,hx,hp,hq,h=>by rcases ahi.1 hx with rfl|ha;rw[List.countP_cons_of_pos hp,List.countP_cons_of_neg (by simp[hq])];have:=List.countP_mono_left (l:=l) (fun z hz hb=>h z (by simp[hz]) hb);omega;have ih:=o9 ha hp hq (fun z hz=>h z (by simp[hz]));have hy:=h y (by simp);cases hqy:q y<;>cases hpy:p y<;>simp_all<;>omega
def d6(ops:Array Oper)(S:Nat->Bool):Prop:=∀(k:Nat) (o:Oper),ops[k]? =some o->S k=true->∀i∈bv o,S i=true
theorem d6.anc{ops:Array Oper}{S:Nat->Bool}(h:d6 ops S){k i:Nat}(ha:Anc ops k i):(∀o,ops[k]? =some o->∀i∈bv o,S i=true)->S i=true:=by
 induction ha with
 |on ho hi=>exact fun hk=>hk _ ho _ hi
 |up ho hj _ ih=>exact fun hk=>ih (fun o' hb=>h _ o' hb (hk _ ho _ hj))
theorem qo{a b:List Nat}(h:Hn a b=true){x:Nat}(ha:x∈a):x∉b:=by have:=List.all_eq_true.1 h x ha;simpa using this
section
variable{P:Program}{N:Nat}{l:List Oper}{rs:List Rec}{s s':St}
structure Pair(i j:Nat)(oi oj:Oper)(ri rj:Rec)(ops:Array Oper):Prop where
 d1:∀d,oi.dst=some d->d∉oj.looksAt ops
 d2:∀d,oi.dst=some d->oj.dst≠some d
 d3:∀d,oj.dst=some d->d∉oi.looksAt ops
 h1:∀x∈ri.δ.map (·.1),x∉rj.fp
 h2:∀x∈rj.δ.map (·.1),x∉ri.fp
 h3:∀x∈ri.δ.map (·.1),x∉rj.δ.map (·.1)
theorem Pair.of{i j:Nat}{oi oj:Oper}{ri rj:Rec}{ops:Array Oper}(h:M5 ops oi oj ri rj=true):Pair i j oi oj ri rj ops:=by unfold M5 at h;simp only[ahq]at h;obtain⟨⟨⟨h1,h2⟩,h3⟩,h4⟩:=h;obtain⟨a,b,c⟩:=Oper.apart_spec h1;exact⟨a,b,c,fun x hx=>qo h2 hx,fun x hx=>qo h3 hx,fun x hx=>qo h4 hx⟩
theorem Pair.symm{i j:Nat}{oi oj:Oper}{ri rj:Rec}{ops:Array Oper}(h:Pair i j oi oj ri rj ops):Pair j i oj oi rj ri ops:=
 ⟨h.d3,fun d hd he=>h.d2 d he hd,h.d1,h.h2,h.h1,fun x hx hy=>h.h3 x hy hx⟩
theorem ym(hc:pw l.toArray rs=true){i k:Nat}(ha:i<k)(hk:k<l.length){oi ok:Oper}{ri rk:Rec}(hb:l[i]? =some oi)(hd:l[k]? =some ok)(he:rs[i]? =some ri)(hf:rs[k]? =some rk):
 Anc l.toArray k i\/Pair i k oi ok ri rk l.toArray:=by
 have h1:=List.all_eq_true.1 hc k (List.mem_range.2 (by simpa using hk))
 simp only[List.getElem?_toArray,hd,hf,ahq]at h1
 have h2:=List.all_eq_true.1 h1.2 i (List.mem_range.2 ha)
 simp only[hb,he,Bool.or_eq_true]at h2
 rcases h2 with h2|h2
 ·left;exact n9 _ _ (fun j o h=>by simpa using h) (fun k i h=>by simp at h) k i h2
 ·right;exact .of h2
theorem Qt(hc:pw l.toArray rs=true){k:Nat}(hk:k<l.length){ok:Oper}{rk:Rec}(ha:l[k]? =some ok)(hb:rs[k]? =some rk):(∀i∈bv ok,i<k)/\∀cs b,ok.op≠.select cs b:=by have h1:=List.all_eq_true.1 hc k (List.mem_range.2 (by simpa using hk));simp only[List.getElem?_toArray,ha,hb,ahq]at h1;refine⟨fun i hi=>ag9 (List.all_eq_true.1 h1.1.1 i hi),fun cs b e=>?_⟩;rw[e]at h1;simp at h1
theorem Bh(hc:pw l.toArray rs=true)(hlen:rs.length=l.length){S:Nat->Bool}(hS:d6 l.toArray S){i:Nat}(hi:i<l.length){oi:Oper}{ri:Rec}(hb:l[i]? =some oi)(hd:rs[i]? =some ri)(hl:S i=false)(ha:∀j∈bv oi,S j=true)
 {j:Nat}(hj:j<l.length)(hm:j≠i){oj:Oper}{rj:Rec}(he:l[j]? =some oj)(hf:rs[j]? =some rj):(j<i/\S j=true)\/(i<j/\S j=false)\/Pair i j oi oj ri rj l.toArray:=by
 rcases Nat.lt_or_gt_of_ne hm with hg|hh
 ·rcases ym hc hg hi he hb hf hd with h|h
  ·left
   refine⟨hg,hS.anc h (fun o ho k hk=>?_)⟩
   simp only[List.getElem?_toArray]at ho
   rw[hb]at ho
   cases ho
   exact ha k hk
  ·exact .inr (.inr h.symm)
 ·rcases ym hc hh hj hb he hd hf with h|h
  ·right;left
   refine⟨hh,?_⟩
   cases hn:S j with
   |false=>rfl
   |true=>
    have:=hS.anc h (fun o ho k hk=>hS j o ho hn k hk)
    rw[hl]at this;cases this
  ·exact .inr (.inr h)
structure InS(P:Program)(N:Nat)(l:List Oper)(rs:List Rec)(s:St)(M:Nat)(C1:Ctx)(S:Nat->Bool)(C:Ctx)(a:Act):Prop where
 rel:SRel N C ⟨ul l rs s S l.length,hval rs s S l.length,M⟩ a
 closed:d6 l.toArray S
 used:∀id,C.U id->(id<s.u\/TOP<=id)\/∃k,k<l.length/\S k=true/\id∈(δK rs k).map (·.1)
 fr:Fr C1 C
variable{ri:Rec}{oi:Oper}{i:Nat}{S:Nat->Bool}
theorem iw{k:Nat}{o:Oper}(h:l[k]? =some o):Da l k=o.dst:=by simp[Da,h]
theorem acq{k:Nat}{r:Rec}(h:rs[k]? =some r):vK rs k=r.v:=by simp[vK,h]
theorem u9{k:Nat}{r:Rec}(h:rs[k]? =some r):δK rs k=r.δ:=by simp[δK,h]
theorem Q3(hc:pw l.toArray rs=true)(hb:rs.length=l.length)(hS:d6 l.toArray S)(hi:i<l.length)(hh:l[i]? =some oi)(hk:rs[i]? =some ri)(he:S i=false)(ha:∀j∈bv oi,S j=true)
 {t:Nat}(ht:t∈oi.looksAt l.toArray):ul l rs s S l.length t=(uc l rs i s).τ t:=by
 have hf:=fun j (hj:j<l.length) (hl:j≠i)=>Bh hc hb hS hi hh hk he ha hj hl (agt hj) (agt (show j<rs.length by omega))
 rw[(nu i (by omega) hb).1]
 have e1:=se (ops:=l) (rs:=rs) (s0:=s) (S:=S) (t:=t) (k:=i) (l.length-i) (fun j h1 h2 ⟨h3,h4⟩=>by have hj:j<l.length:=(by omega);by_cases e:j=i;subst e;rw[he]at h3;cases h3;rcases hf j hj e with⟨h,_⟩|⟨_,h⟩|h;omega;rw[h]at h3;cases h3;rw[iw (agt hj)]at h4;exact h.d3 t h4 ht)
 rw[show i+(l.length-i)=l.length by omega]at e1
 rw[e1]
 refine qv i (fun j hj hd=>?_)
 have hg:j<l.length:=by omega
 rcases hf j hg (by omega)with⟨_,h⟩|⟨h,_⟩|h
 ·exact h
 ·omega
 ·rw[iw (agt hg)]at hd
  exact absurd ht (h.d3 t hd)
theorem agm(hc:pw l.toArray rs=true)(hb:rs.length=l.length)(hS:d6 l.toArray S)(hi:i<l.length)(hg:l[i]? =some oi)(hh:rs[i]? =some ri)(he:S i=false)(ha:∀j∈bv oi,S j=true)
 {id:Nat}(ht:id∈ri.fp):hval rs s S l.length id=(uc l rs i s).η id:=by
 have hf:=fun j (hj:j<l.length) (hk:j≠i)=>Bh hc hb hS hi hg hh he ha hj hk (agt hj) (agt (show j<rs.length by omega))
 rw[(nu i (by omega) hb).2]
 have e1:=su (rs:=rs) (s0:=s) (S:=S) (id:=id) (k:=i) (l.length-i) (fun j h1 h2 ⟨h3,h4⟩=>by have hj:j<l.length:=(by omega);by_cases e:j=i;subst e;rw[he]at h3;cases h3;rcases hf j hj e with⟨h,_⟩|⟨_,h⟩|h;omega;rw[h]at h3;cases h3;rw[u9 (agt (show j<rs.length by omega))]at h4;exact h.h2 id h4 ht)
 rw[show i+(l.length-i)=l.length by omega]at e1
 rw[e1]
 refine rg i (fun j hj hd=>?_)
 have hl:j<l.length:=by omega
 rcases hf j hl (by omega)with⟨_,h⟩|⟨h,_⟩|h
 ·exact h
 ·omega
 ·rw[u9 (agt (show j<rs.length by omega))]at hd
  exact absurd ht (h.h2 id hd)
theorem Vc(hc:pw l.toArray rs=true)(hf:rs.length=l.length)(hS:d6 l.toArray S)(hi:i<l.length)(hg:l[i]? =some oi)(hh:rs[i]? =some ri)(hl:S i=false)(ha:∀j∈bv oi,S j=true):
 kj (ul l rs s S l.length) oi.dst ri.v=ul l rs s (ce S i) l.length:=by
 have hm:=fun j (hj:j<l.length) (he:j≠i)=>Bh hc hf hS hi hg hh hl ha hj he (agt hj) (agt (show j<rs.length by omega))
 funext t
 by_cases hd:oi.dst=some t
 ·have e1:=se (ops:=l) (rs:=rs) (s0:=s) (S:=ce S i) (t:=t) (k:=i+1) (l.length-(i+1)) (fun j h1 h2 ⟨h3,h4⟩=>by
   have hj:j<l.length:=by omega
   have he:j≠i:=by omega
   simp only[ce,he,if_false]at h3
   rcases hm j hj he with⟨h,_⟩|⟨_,h⟩|h
   ·omega
   ·rw[h]at h3;cases h3
   ·rw[iw (agt hj)]at h4
    exact h.d2 t hd h4)
  rw[show i+1+(l.length-(i+1))=l.length by omega]at e1
  rw[e1]
  have e2:ul l rs s (ce S i) (i+1) t=ri.v:=by
   simp only[ul,iw hg,acq hh,ce,if_true,hd,and_self]
  rw[e2,hd]
  simp[kj,upd]
 ·have e1:kj (ul l rs s S l.length) oi.dst ri.v t=ul l rs s S l.length t:=by
   cases hn:oi.dst with
   |none=>rfl
   |some d=>
    rw[hn]at hd
    have:Nat.beq t d=false:=by
     cases hb:Nat.beq t d with
     |false=>rfl
     |true=>exact absurd (by rw[agu hb]) hd
    simp[kj,upd,this]
  rw[e1]
  refine qv _ (fun j hj hk=>?_)
  by_cases e:j=i
  ·subst e;rw[iw hg]at hk;exact absurd hk hd
  ·simp[ce,e]
theorem Vd(hc:pw l.toArray rs=true)(he:rs.length=l.length)(hS:d6 l.toArray S)(hi:i<l.length)(hh:l[i]? =some oi)(hf:rs[i]? =some ri)(hk:S i=false)(ha:∀j∈bv oi,S j=true):
 (hval rs s S l.length).put ri.δ=hval rs s (ce S i) l.length:=by
 have hm:=fun j (hj:j<l.length) (hb:j≠i)=>Bh hc he hS hi hh hf hk ha hj hb (agt hj) (agt (show j<rs.length by omega))
 funext id
 rw[F8]
 by_cases hd:id∈ri.δ.map (·.1)
 ·have e1:=su (rs:=rs) (s0:=s) (S:=ce S i) (id:=id) (k:=i+1) (l.length-(i+1)) (fun j h1 h2 ⟨h3,h4⟩=>by
   have hj:j<l.length:=by omega
   have hb:j≠i:=by omega
   simp only[ce,hb,if_false]at h3
   rcases hm j hj hb with⟨h,_⟩|⟨_,h⟩|h
   ·omega
   ·rw[h]at h3;cases h3
   ·rw[u9 (agt (show j<rs.length by omega))]at h4
    exact h.h3 id hd h4)
  rw[show i+1+(l.length-(i+1))=l.length by omega]at e1
  rw[e1]
  simp only[hval,u9 hf,ce,if_true]
  have:=(l8 ri.δ id).2 hd
  cases hl:jg ri.δ id with
  |none=>rw[hl]at this;cases this
  |some b=>rfl
 ·have e1:jg ri.δ id=none:=by
   cases hl:jg ri.δ id with
   |none=>rfl
   |some b=>exact absurd ((l8 _ _).1 (by rw[hl];rfl)) hd
  rw[e1]
  refine rg _ (fun j hj hg=>?_)
  by_cases e:j=i
  ·subst e;rw[u9 hf]at hg;exact absurd hg hd
  ·simp[ce,e]
theorem Sd{Q:Prop}(hf:∀(k:Nat) (o:Oper) (r:Rec),l[k]? =some o->rs[k]? =some r->Xu P N l.toArray o r (uc l rs k s))(ha:rs.length=l.length):∀m k,k+m<=l.length->(uc l rs k s).u<=(uc l rs (k+m) s).u
 |0,_,_=>ag7 _
 |m+1,k,h=>by have ih:=Sd (Q:=Q) hf ha m k (by omega);have ho:l[k+m]? =some (l[k+m]'(by omega)):=agt (by omega);have hr:rs[k+m]? =some (rs[k+m]'(by omega)):=agt (by omega);have e:uc l rs (k+(m+1)) s=Bf (l[k+m]'(by omega)) (rs[k+m]'(by omega)) (uc l rs (k+m) s):=vq l rs (k+m) s _ _ ho hr;rw[e];have:=(hf _ _ _ ho hr).2.1;show _<=(rs[k+m]'(by omega)).u;omega
end
section
variable{P:Program}{N:Nat}{l:List Oper}{rs:List Rec}{s s':St}{Q:Exit->St->Prop}
theorem kp{C:Ctx}(hg:Good C):Good {C with w:=C.w.drew}/\Ev C {C with w:=C.w.drew}:=by have he:Ev C {C with w:=C.w.drew}:=⟨⟨rfl,rfl,rfl,ag7 _,fun _ _ _=>rfl,fun _ h=>.inl h,fun _ h=>h,fun _ h=>.inl h⟩,fun _ h=>h,fun id b' _ hb=>⟨b',hb,ag7 _,fun _=>⟨rfl,rfl,rfl,rfl⟩⟩⟩;refine⟨⟨hg.used,fun{id b} hb hk=>by obtain⟨o,h1,h2⟩:=hg.obj hb hk;exact⟨o,h1,h2.mono hg he⟩,fun{id b} hb hn=>?_,hg.inj,hg.tokE he.toFr0 (fun k hk=>hg.tlt hk),hg.apart,hg.tight⟩,he⟩;obtain⟨c,t',g1,g2,g3,g4⟩:=hg.blk hb hn;exact⟨c,t',g1,g2,g3,fun j h h'=>(g4 j h h').mono hg he⟩
theorem ku{ops:Array Oper}{τ τ':Nat->AV}{o:Oper}(h:∀t∈o.looksAt ops,τ t=τ' t):m8 ops τ o=m8 ops τ' o:=by
 unfold m8
 cases hg:o.guard with
 |none=>rfl
 |some p=>
  obtain⟨j,b⟩:=p
  simp only
  cases hj:(ops[j]?).bind (·.dst)with
  |none=>rfl
  |some d=>
   have hm:d∈o.looksAt ops:=by
    unfold Oper.looksAt
    rw[hg]
    simp[hj]
   simp only[h d hm]
theorem wy{ops:Array Oper}{τ τ':Nat->AV}{o:Oper}(h:∀t∈o.looksAt ops,τ t=τ' t){x:Operand}(hx:x∈o.op.operands):aev τ x=aev τ' x:=by
 cases x with
 |tmp t=>exact h t (by
  unfold Oper.looksAt
  refine List.mem_append_left _ (List.mem_filterMap.2 ⟨.tmp t,by simpa using hx,rfl⟩))
 |_=>rfl
theorem AWP.regionD{id:Nat}(hm:P.follows .mixedOrders=true)(gl:Seq P N l.toArray l s rs s')(hc:pw l.toArray rs=true)(h:Q .normal s'):AWP P N (.region id l.toArray true) Q s:=by
 obtain⟨hh,g4,g0⟩:=gl.facts
 intro C0 a0 g5
 obtain⟨gu,gc⟩:=kp g5.good
 generalize gm:({C0 with w:=C0.w.drew}:Ctx)=C1 at gu gc
 have hy:∀k k',k<=k'->k'<=l.length->(uc l rs k s).u<=(uc l rs k' s).u:=fun k k' h1 h2=>by
  have:=Sd (Q:=True) g0 hh (k'-k) k (by omega)
  rwa [show k+(k'-k)=k' by omega]at this
 have gz:(uc l rs 0 s).u=s.u:=by rw[n4]
 have hM:s'.u=(uc l rs l.length s).u:=by rw[g4]
 have gn:∀k,k<l.length->l[k]? =some (l[k]!)/\rs[k]? =some (rs.getD k ⟨[],[],.unk,0⟩):=fun k hk=>by
  have:k<rs.length:=by omega
  constructor
  ·simp[hk]
  ·simp[List.getD,this]
 -- what an operation writes has small numbers
 have hδ:∀k o r,k<l.length->l[k]? =some o->rs[k]? =some r->∀id∈r.δ.map (·.1),id<(uc l rs (k+1) s).u\/TOP<=id:=by
  intro k o r hk ho hr id hq
  have hs:(uc l rs (k+1) s).u=r.u:=by rw[vq l rs k s o r ho hr];rfl
  rw[hs]
  obtain⟨_,hle,⟨_,_,hn⟩|⟨_,_,hd,_⟩⟩:=g0 k o r ho hr
  ·obtain⟨p,hp,rfl⟩:=ahh.1 hq
   have h1:=List.all_eq_true.1 hn p hp
   simp only[Bool.or_eq_true,ahq]at h1
   rcases h1 with⟨_,h1⟩|⟨⟨_,h1⟩,_⟩
   ·have:=Zn.1 h1;omega
   ·exact .inl (ag9 h1)
  ·rw[hd]at hq;simp at hq
 -- the end
 have gd:∀(li:Array Bool) (C:Ctx) (a:Act),li.size=l.length->InS P N l rs s s'.u C1 (fun k=>li.getD k false) C a->Region.ready .any l.toArray li=[]->
  ∃s'' C',Q .normal s''/\C'.w=C.w/\SRel N C' s'' a/\Fr C0 C':=by
  intro li C a hl ha hr
  have ge:∀k,k<l.length->li.getD k false=true:=by
   intro k
   induction k using Nat.strongRecOn with
   |ind k ih=>
    intro hk
    cases f0:li.getD k false with
    |true=>rfl
    |false=>
     exfalso
     obtain⟨ho,gf⟩:=gn k hk
     have:k∈Region.ready .any l.toArray li:=by
      rw[mem_ready]
      have go:k<li.size:=by omega
      refine⟨by simpa[Array.getD,go]using f0,l[k]!,by simpa using ho,fun e he hb=>?_⟩
      have gp:e.on∈bv (l[k]!):=ahh.2 ⟨e,List.mem_filter.2 ⟨by simpa using he,hb⟩,rfl⟩
      have gq:=(Qt hc hk ho gf).1 e.on gp
      exact ih e.on gq (by omega)
     rw[hr]at this
     simp at this
  have e1:ul l rs s (fun k=>li.getD k false) l.length=s'.τ:=by
   rw[g4,(nu l.length (ag7 _) hh).1]
   funext t
   exact qv _ (fun j hj _=>ge j hj)
  have e2:hval rs s (fun k=>li.getD k false) l.length=s'.η:=by
   rw[g4,(nu l.length (ag7 _) hh).2]
   funext id
   exact rg _ (fun j hj _=>ge j hj)
  have hf:=ha.rel
  rw[e1,e2]at hf
  exact⟨s',C,h,rfl,hf,gc.toFr.trans ha.fr⟩
 have key:∀(fuel:Nat) (li:Array Bool) (C:Ctx) (a:Act),li.size=l.length->(List.range l.length).countP (fun k=>!li.getD k false)<=fuel->InS P N l rs s s'.u C1 (fun k=>li.getD k false) C a->
  wpAny P .any l.toArray (fun e a' w'=>∃s'' C',Q e s''/\C'.w=w'/\SRel N C' s'' a'/\Fr C0 C') fuel li a C.w:=by
  intro fuel
  induction fuel with
  |zero=>
   intro li C a hl gg ha
   have hr:Region.ready .any l.toArray li=[]:=by
    rw[List.eq_nil_iff_forall_not_mem]
    intro k hk
    rw[mem_ready]at hk
    obtain⟨h1,o,ho,_⟩:=hk
    have go:k<l.length:=by have:=(Array.getElem?_eq_some_iff.1 ho).1;simpa using this
    have:=List.countP_eq_zero.1 (Nat.le_zero.1 gg) k (List.mem_range.2 go)
    have gr:k<li.size:=by omega
    simp[Array.getD,gr]at this h1
    rw[this]at h1;cases h1
   exact⟨hr,gd li C a hl ha hr⟩
  |succ fuel ih=>
   intro li C a hl gg ha
   refine⟨gd li C a hl ha,fun i hi=>?_⟩
   rw[mem_ready]at hi
   obtain⟨h1,oi,ho,gh⟩:=hi
   have g2:i<l.length:=by have:=(Array.getElem?_eq_some_iff.1 ho).1;simpa using this
   have gi:i<li.size:=by omega
   have g6:li.getD i false=false:=by simpa[Array.getD,gi]using h1
   have g7:l[i]? =some oi:=by simpa using ho
   obtain⟨_,g3⟩:=gn i g2
   generalize rs.getD i ⟨[],[],.unk,0⟩=ri at g3
   have hg:∀j∈bv oi,li.getD j false=true:=by
    intro j hj
    obtain⟨e,he,rfl⟩:=ahh.1 hj
    obtain⟨gc,f1⟩:=List.mem_filter.1 he
    exact gh e (by simpa using gc) f1
   have g8:(fun k=>(li.setIfInBounds i true).getD k false)=ce (fun k=>li.getD k false) i:=by
    funext k
    unfold ce
    by_cases e:k=i
    ·subst e;simp[Array.getD,gi]
    ·rw[ag0 e];exact getD_set_ne false (fun h=>e h.symm)
   have g1:(List.range l.length).countP (fun k=>!(li.setIfInBounds i true).getD k false)<=fuel:=by
    have gq:(List.range l.length).countP (fun k=>!(li.setIfInBounds i true).getD k false)<(List.range l.length).countP (fun k=>!li.getD k false):=by
     have e1:∀k,(li.setIfInBounds i true).getD k false=ce (fun k=>li.getD k false) i k:=fun k=>congrFun g8 k
     simp only[e1]
     refine o9 (List.mem_range.2 g2) (by simp[g6]) (by simp[ce]) (fun k hk=>?_)
     simp only[ce]
     split<;>simp
    omega
   have hu:∀t∈oi.looksAt l.toArray,ul l rs s (fun k=>li.getD k false) l.length t=(uc l rs i s).τ t:=fun t ht=>Q3 hc hh ha.closed g2 g7 g3 g6 hg ht
   have hz:d6 l.toArray (ce (fun k=>li.getD k false) i):=by
    intro k o hk hs j hj
    unfold ce at hs ⊢
    by_cases e:j=i
    ·simp[e]
    ·rw[ag0 e]
     by_cases e1:k=i
     ·subst e1
      rw[ho]at hk
      cases hk
      exact hg j hj
     ·rw[ag0 e1]at hs
      exact ha.closed k o hk hs j hj
   obtain⟨gk,hule,gj⟩:=g0 i oi ri g7 g3
   have hτ:=Vc (s:=s) hc hh ha.closed g2 g7 g3 g6 hg
   have hη:=Vd (s:=s) hc hh ha.closed g2 g7 g3 g6 hg
   unfold wpOp
   simp only[ho]
   rcases gj with⟨hw,hL,hn⟩|⟨hw,hv,hδ0,hfp0⟩
   ·rw[nr (s:=⟨ul l rs s (fun k=>li.getD k false) l.length,hval rs s (fun k=>li.getD k false) l.length,s'.u⟩) ((ku hu).trans hw) ha.rel (jh.guard gk)]
    simp only[if_true]
    left
    refine hL C a ha.rel.good (fun x hx=>?_) (fun id hq=>?_) (fun p hp f2 hU=>?_) _ _ fun x C' hη' gv f3 gw f4=>?_
    ·rw[<-wy hu hx];exact ha.rel.eval x
    ·rw[ha.rel.η];exact agm hc hh ha.closed g2 g7 g3 g6 hg hq
    ·have h2:=List.all_eq_true.1 hn p hp
     simp only[Bool.or_eq_true,ahq,List.contains_iff_mem]at h2
     have hlow:(uc l rs i s).u<=p.1/\p.1<TOP:=by
      rcases h2 with⟨h2,_⟩|⟨⟨h2,_⟩,h2t⟩
      ·exact absurd h2 f2
      ·exact⟨ag9 h2,ag9 h2t⟩
     have h0i:=hy 0 i (by omega) (by omega)
     rcases ha.used _ hU with h3|⟨k,hk,gb,g9⟩
     ·omega
     ·by_cases e:k=i
      ·subst e;rw[g6]at gb;cases gb
      ·obtain⟨gx,gf⟩:=gn k hk
       rw[u9 gf]at g9
       rcases Bh hc hh ha.closed g2 g7 g3 g6 hg hk e gx gf with⟨gq,_⟩|⟨_,h4⟩|h4
       ·have:=hδ k _ _ hk gx gf p.1 g9
        have:=hy (k+1) i (by omega) (by omega)
        omega
       ·rw[h4]at gb;cases gb
       ·exact h4.h3 p.1 (List.mem_map_of_mem hp) g9
    ·have gs:∀id,C'.U id->id<s'.u\/TOP<=id:=by
      intro id hq
      rcases(gv id).1 hq with h2|h2
      ·exact ha.rel.u id h2
      ·have:=hδ i oi ri g2 g7 g3 id h2
       have:=hy (i+1) l.length (by omega) (by omega)
       omega
     have hf:=ha.rel.put gw f3 gs (jh.dst gk) f4
     rw[hη',ha.rel.η]at hf
     simp only at hf
     rw[hτ,hη]at hf
     refine ih _ C' _ (by simpa using hl) g1 ?_
     rw[g8]
     refine⟨hf,hz,fun id hq=>?_,ha.fr.trans gw.toFr⟩
     rcases(gv id).1 hq with h2|h2
     ·rcases ha.used id h2 with h3|⟨k,hk,gb,gt⟩
      ·exact .inl h3
      ·exact .inr ⟨k,hk,by simp only[ce];split<;>simp_all,gt⟩
     ·exact .inr ⟨i,g2,by simp[ce],by rw[u9 g3];exact h2⟩
   ·rw[nr (s:=⟨ul l rs s (fun k=>li.getD k false) l.length,hval rs s (fun k=>li.getD k false) l.length,s'.u⟩) ((ku hu).trans hw) ha.rel (jh.guard gk)]
    simp only[Bool.false_eq_true,if_false]
    have hf:=ha.rel.put (Ev.refl C) ha.rel.good ha.rel.u (jh.dst gk) (VR.v C undef)
    rw[ha.rel.η]at hf
    simp only at hf
    rw[<-hv,hτ]at hf
    have hη2:hval rs s (fun k=>li.getD k false) l.length=hval rs s (ce (fun k=>li.getD k false) i) l.length:=by rw[<-hη,hδ0];rfl
    rw[hη2]at hf
    refine ih _ C _ (by simpa using hl) g1 ?_
    rw[g8]
    refine⟨hf,hz,fun id hq=>?_,ha.fr⟩
    rcases ha.used id hq with h3|⟨k,hk,gb,gt⟩
    ·exact .inl h3
    ·exact .inr ⟨k,hk,by simp only[ce];split<;>simp_all,gt⟩
 refine wp_region_any hm ?_
 have e0:(fun k=>(Array.replicate l.toArray.size false).getD k false)=fun _=>false:=by
  funext k;simp[Array.getD]
 have ga:InS P N l rs s s'.u C1 (fun _=>false) C1 a0:=by
  have e1:ul l rs s (fun _=>false) l.length=s.τ:=by
   have:∀m,ul l rs s (fun _=>false) m=s.τ:=by
    intro m
    induction m with
    |zero=>rfl
    |succ m ih=>funext t;simp[ul,ih]
   exact this _
  have e2:hval rs s (fun _=>false) l.length=s.η:=by
   have:∀m,hval rs s (fun _=>false) m=s.η:=by
    intro m
    induction m with
    |zero=>rfl
    |succ m ih=>funext t;simp[hval,ih]
   exact this _
  have h0n:=hy 0 l.length (by omega) (ag7 _)
  have gy:∀id,C1.U id->id<s.u\/TOP<=id:=by subst gm;exact g5.u
  refine⟨?_,fun k o _ hk=>(by cases hk),fun id hq=>.inl (gy id hq),Fr.refl _⟩
  rw[e1,e2]
  refine⟨gu,?_,fun id hq=>?_,g5.defers,g5.size,fun t=>(g5.τ t).mono g5.good gc⟩
  ·subst gm;exact g5.η
  ·have:=gy id hq
   show id<s'.u\/TOP<=id
   rw[gz]at h0n
   omega
 have:=key l.toArray.size (Array.replicate l.toArray.size false) C1 a0 (by simp) (by
  have:=List.countP_le_length (p:=fun k=>!(Array.replicate l.toArray.size false).getD k false) (l:=List.range l.length)
  simpa using this) (by rw[e0];exact ga)
 have hw:C1.w={C0.w with drawn:=C0.w.drawn+1}:=by subst gm;rfl
 rw[hw]at this
 exact this
end
theorem Il.nil{τ:Nat->AV}{u:Nat}:Il τ u []:=trivial
theorem Il.cons{τ:Nat->AV}{u t:Nat}{a:AV}{r:List (Nat×AV)}(h1:τ t=a)(h2:a.lowB u=true)(h3:Il τ u r):Il τ u ((t,a)::r):=⟨h1,h2,h3⟩
theorem Ik.nil{η:bi}{u:Nat}:Ik η u []:=trivial
theorem Ik.cons{η:bi}{u id:Nat}{b:Blk}{r:List (Nat×Blk)}(h1:η id=some b)(h2:sp u id=true)(h3:qh u b.cs=true)(h4:Ik η u r):Ik η u ((id,b)::r):=⟨h1,h2,h3,h4⟩
section
variable{P:Program}{τ:Nat->AV}{η:bi}{d:Option Tmp}{ty:TypeId}{pos:String}{af:Array Edge}{g:Option (Nat×Bool)}{N:Nat}{Q:Exit->St->Prop}{s:St}
theorem lJ{t t':Nat}{x y:Operand}{m n:Int}(hx:aev τ x=.v (.int .i64 m))(hy:aev τ y=.v (.int .i64 n))(h1:-9223372036854775808<=m+n)(h2:m+n<=9223372036854775807):
 LOp P ⟨d,.binOp .add t x y t',ty,pos,af,g⟩ τ η [] [] (.v (.int .i64 (m+n))):=
 .look [] fun C a _ ha _=>by have e1:=ha x (by simp[Op.operands]);have e2:=ha y (by simp[Op.operands]);rw[hx]at e1;rw[hy]at e2;refine⟨.int .i64 (m+n),?_,VR.v C _⟩;rw[<-IntWalk.i64_in (m+n) ⟨h1,h2⟩];simp only[execOp,e1.v_inv,e2.v_inv];rfl
theorem u4{t t':Nat}{x y:Operand}{m n:Int}(hx:aev τ x=.v (.int .i64 m))(hy:aev τ y=.v (.int .i64 n))(h1:-9223372036854775808<=m-n)(h2:m-n<=9223372036854775807):
 LOp P ⟨d,.binOp .sub t x y t',ty,pos,af,g⟩ τ η [] [] (.v (.int .i64 (m-n))):=
 .look [] fun C a _ ha _=>by have e1:=ha x (by simp[Op.operands]);have e2:=ha y (by simp[Op.operands]);rw[hx]at e1;rw[hy]at e2;refine⟨.int .i64 (m-n),?_,VR.v C _⟩;rw[<-IntWalk.i64_in (m-n) ⟨h1,h2⟩];simp only[execOp,e1.v_inv,e2.v_inv];rfl
theorem Om{τ:Nat->AV}{t:Nat}{a:AV}(h:τ t=a):upd τ t a=τ:=by grind[upd,Nat.beq,agu]
section
variable{ops:Array Oper}{l:List Oper}{K:St->Prop}{u:Nat}{op:Op}{rs:List Rec}{s':St}
theorem oL{d:Nat}{fp:List Nat}{v:AV}(hL:LOp P ⟨some d,op,ty,pos,af,g⟩ τ η fp [] v)(hw:m8 ops τ ⟨some d,op,ty,pos,af,g⟩=some true)(hd:jh N ops ⟨some d,op,ty,pos,af,g⟩=true)
 (h:A3 P N ops l K ⟨upd τ d v,η,u⟩):A3 P N ops (⟨some d,op,ty,pos,af,g⟩::l) K ⟨τ,η,u⟩:=
 A3.op (s:=⟨τ,η,u⟩) u hL hw hd (by simp[Nat.ble_eq]) rfl h
theorem Bx{u:Nat}{b:Option Blk}(h:Nat.ble (u+1) TOP=true):zn [] [(u,b)] u (u+1)=true:=by simp[zn,h]
theorem Kn{u u':Nat}(h:(Nat.beq u' (u+1)&&Nat.ble u' TOP)=true):u'=u+1/\Nat.ble (u+1) TOP=true:=by grind[agu]
theorem Ko{id u:Nat}{b:Option Blk}(h:sp u id=true):zn [id] [(id,b)] u u=true:=by simp[zn,h]
theorem oW{d:Nat}{v:AV}{b:Option Blk}(hL:LOp P ⟨some d,op,ty,pos,af,g⟩ τ η [] [(u,b)] v)(hw:m8 ops τ ⟨some d,op,ty,pos,af,g⟩=some true)(hd:jh N ops ⟨some d,op,ty,pos,af,g⟩=true)(u':Nat)(hu:(Nat.beq u' (u+1)&&Nat.ble u' TOP)=true)
 (h:A3 P N ops l K ⟨upd τ d v,η.set u b,u'⟩):A3 P N ops (⟨some d,op,ty,pos,af,g⟩::l) K ⟨τ,η,u⟩:=by
 obtain⟨rfl,ht⟩:=Kn hu
 exact A3.op (s:=⟨τ,η,u⟩) (u+1) hL hw hd (by simp[Nat.ble_eq]) (Bx ht) h
def Xl(P:Program)(N:Nat)(ops:Array Oper)(l:List Oper)(K:List Rec->St->Prop)(s:St):Prop:=∃rs s',Seq P N ops l s rs s'/\K rs s'
end
def Be:Nat->List AV->Option (List AV)
 |0,_=>some []
 |n+1,a::l=>match Be n l with
  |some r=>some (a::r)
  |none=>none
 |_+1,[]=>none
def cy:Nat->Nat->List AV->Option (List AV)
 |0,n,l=>Be n l
 |o+1,n,_::l=>cy o n l
 |_+1,_,[]=>none
theorem Fp:∀(n:Nat) (l r:List AV),Be n l=some r->n<=l.length/\r=l.take n
 |0,_,r,h=>by simp only[Be,agv]at h;subst h;simp
 |n+1,a::l,r,h=>by
  simp only[Be]at h
  cases hh:Be n l with
  |none=>rw[hh]at h;cases h
  |some q=>
   rw[hh]at h
   simp only[agv]at h
   obtain⟨h1,h2⟩:=Fp n l q hh
   subst h;subst h2
   exact⟨by simp;omega,rfl⟩
 |_+1,[],_,h=>by cases h
theorem dy:∀(o n:Nat) (l r:List AV),cy o n l=some r->o+n<=l.length/\r=(l.drop o).take n
 |0,n,l,r,h=>by obtain⟨h1,h2⟩:=Fp n l r h;exact⟨by omega,by simpa using h2⟩
 |o+1,n,a::l,r,h=>by obtain⟨h1,h2⟩:=dy o n l r h;exact⟨by simp;omega,by simpa using h2⟩
 |_+1,_,[],_,h=>by cases h
def Xx:List AV->List AV->Option (List AV)
 |cs,[]=>some cs
 |_::cs,v::vs=>match Xx cs vs with
  |some r=>some (v::r)
  |none=>none
 |[],_::_=>none
def ue:Nat->List AV->List AV->Option (List AV)
 |0,cs,vs=>Xx cs vs
 |o+1,c::cs,vs=>match ue o cs vs with
  |some r=>some (c::r)
  |none=>none
 |_+1,[],_=>none
theorem Kc:∀(cs vs r:List AV),Xx cs vs=some r->vs.length<=cs.length/\r=vs++cs.drop vs.length
 |cs,[],r,h=>by simp only[Xx,agv]at h;subst h;simp
 |c::cs,v::vs,r,h=>by
  simp only[Xx]at h
  cases hh:Xx cs vs with
  |none=>rw[hh]at h;cases h
  |some q=>
   rw[hh]at h
   simp only[agv]at h
   obtain⟨h1,h2⟩:=Kc cs vs q hh
   subst h;subst h2
   exact⟨by simp;omega,rfl⟩
 |[],_::_,_,h=>by cases h
theorem q7:∀(o:Nat) (cs vs r:List AV),ue o cs vs=some r->o+vs.length<=cs.length/\r=bg cs o vs
 |0,cs,vs,r,h=>by obtain⟨h1,h2⟩:=Kc cs vs r h;exact⟨by omega,by simpa[bg]using h2⟩
 |o+1,c::cs,vs,r,h=>by
  simp only[ue]at h
  cases hh:ue o cs vs with
  |none=>rw[hh]at h;cases h
  |some q=>
   rw[hh]at h
   simp only[agv]at h
   obtain⟨h1,h2⟩:=q7 o cs vs q hh
   subst h;subst h2
   refine⟨by simp;omega,?_⟩
   simp only[bg,List.take_succ_cons,List.cons_append]
   congr 2
   rw[show o+1+vs.length=o+vs.length+1 by omega];rfl
 |_+1,[],_,_,h=>by cases h
def ji:AV->Option (List AV)
 |.agg cs=>some cs
 |.v (.agg cs)=>some (cs.toList.map .v)
 |.unk=>none
 |.v x=>some [.v x]
 |.ptr a b c=>some [.ptr a b c]
 |.sl a b c d=>some [.sl a b c d]
 |.tree n xs=>some [.tree n xs]
 |.tp cs o=>some [.tp cs o]
 |.clo f cs=>some [.clo f cs]
 |.tup cs=>some [.tup cs]
 |.mp a b=>some [.mp a b]
 |.it a b=>some [.it a b]
theorem oh{a:AV}{cs:List AV}(h:ji a=some cs):a.known=true/\a.cells=cs:=by
 cases a with
 |v x=>cases x<;>simp[ji,AV.known,AV.cells]at h ⊢<;>exact h
 |unk=>cases h
 |_=>simp[ji,AV.known,AV.cells]at h ⊢;exact h
theorem Ez{d:Option Tmp}{c x y:Operand}{t:Bool}{a:AV}(hc:aev τ c=.v (.bool t))(ht:t=true)(hx:aev τ x=a):LOp P ⟨d,.pick c x y,ty,pos,af,g⟩ τ η [] [] a:=by grind[LOp.pick]
theorem Fa{d:Option Tmp}{c x y:Operand}{t:Bool}{a:AV}(hc:aev τ c=.v (.bool t))(ht:t=false)(hx:aev τ y=a):LOp P ⟨d,.pick c x y,ty,pos,af,g⟩ τ η [] [] a:=by grind[LOp.pick]
theorem Fb{t n:Nat}{x:Operand}{id ver o:Nat}{b:Blk}{ds:List AV}(ht:ej P t=some (some n))(hx:aev τ x=.ptr id ver o)(hb:η id=some b)(hv:b.ver=ver)(hn:b.nilp=false)(hc:cy o n b.cs=some ds):
 LOp P ⟨d,.load t x,ty,pos,af,g⟩ τ η [id] [] (.agg ds):=by
 obtain⟨h1,h2⟩:=dy _ _ _ _ hc
 subst h2
 exact w9 ht hx hb hv hn h1
theorem Av{t n:Nat}{x:Operand}{cs:List AV}{o:Nat}{ds:List AV}(ht:ej P t=some (some n))(hx:aev τ x=.tp cs o)(hc:cy o n cs=some ds):LOp P ⟨d,.load t x,ty,pos,af,g⟩ τ η [] [] (.agg ds):=by obtain⟨h1,h2⟩:=dy _ _ _ _ hc;subst h2;exact Iz ht hx h1
theorem LOp.st{t n:Nat}{x y:Operand}{id ver o w:Nat}{np:Bool}{cs vs ds:List AV}{ez:Nat}(hs:ao P t=some n)(hx:aev τ x=.ptr id ver o)(hb:η id=some ⟨w,cs,ez,np⟩)(hv:w=ver)(hn:np=false)
 (hk:ji (aev τ y)=some vs)(hl:vs.length=n)(h1:vs.all AV.one=true)(hc:ue o cs vs=some ds):
 LOp P ⟨d,.store t x y,ty,pos,af,g⟩ τ η [id] [(id,some ⟨w,ds,ez,np⟩)] (.v undef):=by
 obtain⟨k1,k2⟩:=oh hk
 obtain⟨k3,k4⟩:=q7 _ _ _ _ hc
 subst k4;subst k2
 exact LOp.store (b:=⟨w,cs,ez,np⟩) hs hx hb hv hn k1 hl h1 (by simp only;omega)
theorem Ue{u t:Nat}{x:Operand}{vs:List AV}(hk:ji (aev τ x)=some vs):LOp P ⟨d,.box t x,ty,pos,af,g⟩ τ η [] [(u,some ⟨0,vs,0,false⟩)] (.ptr u 0 0):=by obtain⟨k1,k2⟩:=oh hk;subst k2;exact LOp.box u k1
theorem Uf{u t:Nat}{z:Value}{vs:List AV}(hz:bj P t=some z)(hk:ji (.v z)=some vs):LOp P ⟨d,.alloc t,ty,pos,af,g⟩ τ η [] [(u,some ⟨0,vs,0,false⟩)] (.ptr u 0 0):=by obtain⟨k1,k2⟩:=oh hk;subst k2;exact LOp.alloc u hz
def Af(pl:List (Nat×Nat)):List AV->List (Nat×AV)->Option (List AV)
 |cells,[]=>some cells
 |cells,(i,v)::r=>match pl[i]? with
  |none=>none
  |some (off,size)=>match ji v with
   |none=>none
   |some vs=>bif Nat.beq vs.length size then(match ue off cells vs with
    |some ds=>Af pl ds r
    |none=>none)else none
theorem Ae{pl:List (Nat×Nat)}:∀(ps:List (Nat×AV)) (cells out:List AV),Af pl cells ps=some out->Cg pl cells ps=some out
 |[],_,_,h=>h
 |(i,v)::r,cells,out,h=>by
  simp only[Af]at h
  simp only[Cg]
  cases hp:pl[i]? with
  |none=>rw[hp]at h;cases h
  |some q=>
   obtain⟨off,size⟩:=q
   rw[hp]at h
   simp only at h ⊢
   cases hc:ji v with
   |none=>rw[hc]at h;cases h
   |some vs=>
    rw[hc]at h
    simp only at h
    cases hb:Nat.beq vs.length size with
    |false=>rw[hb]at h;cases h
    |true=>
     rw[hb]at h
     simp only[cond_true]at h
     cases hd:ue off cells vs with
     |none=>rw[hd]at h;cases h
     |some ds=>
      rw[hd]at h
      simp only at h
      obtain⟨k1,k2⟩:=oh hc
      obtain⟨k3,k4⟩:=q7 _ _ _ _ hd
      have e:=agu hb
      subst k4;subst k2
      rw[k1,hb,Nat.ble_eq_true_of_le (show off+size<=cells.length by omega)]
      exact Ae r _ _ h
theorem Nr{t:Nat}{parts:Array (Nat×Operand)}{z:Value}{pl:List (Nat×Nat)}{cs out:List AV}(hz:bj P t=some z)(hp:mt P t=some pl)(hc:ji (.v z)=some cs)(ho:Af pl cs (l0 τ parts)=some out):
 LOp P ⟨d,.build t parts,ty,pos,af,g⟩ τ η [] [] (.agg out):=by
 obtain⟨k1,k2⟩:=oh hc
 subst k2
 exact LOp.build hz hp (Ae _ _ _ ho)
theorem cj{u t e len s:Nat}{parts:Array (Nat×Operand)}{z:Value}{out:List AV}(he:P.underlying t=some (.slice e))(hs:ao P e=some s)(hz:bj P e=some z)(hl:Nat.ble (len*s) 16777216=true)(ha:Nat.ble len 16777216=true)(hb:Nat.beq (len*s) 0=false)
 (ho:Af (si len s) (b5 z (len*s)) (l0 τ parts)=some out):LOp P ⟨d,.buildSlice t len parts,ty,pos,af,g⟩ τ η [] [(u,some ⟨TV,out,s,false⟩)] (.sl u TV 0 len):=
 LOp.buildSlice u he hs hz hl ha hb (Ae _ _ _ ho)
theorem oV{fn:Func}{a ret:AV}{t:Nat}(hr:fn.results=#[.tmp t])(h:s.τ t=a)(hp:a.pureB=true)(he:a=ret):Ng P N fn s ret:=by subst he;exact Ng.tmp hr ⟨[],by rw[h];exact FzP.pure hp⟩
end
end Go.Proofs.YtbhhmbchdponjaaGreatDoor
