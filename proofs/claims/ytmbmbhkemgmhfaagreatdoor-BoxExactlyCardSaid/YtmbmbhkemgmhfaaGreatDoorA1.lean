/- Texts of the claim. -/
import Derived.WalkKit
import Derived.Below
import Derived.Lib.Hide
import Derived.Laws.AppendOwn
import Derived.Orders
import Derived.Deep.MidRow
import Derived.Laws.Append
import Derived.Laws.Tables
import Derived.IntWalk
namespace Go.Proofs.YtmbmbhkemgmhfaaGreatDoor
universe u v
theorem agt{α : Type u}{l : List α}{n : Nat}(h : n<l.length) : l[n] ∈ l :=List.getElem_mem h
theorem agu{α : Type u}{l : List α}{i : Nat}(h : i<l.length) : l[i]? =some l[i] :=List.getElem?_eq_getElem h
theorem agv{n m : Nat}(h : Nat.beq n m=true) : n=m :=Nat.eq_of_beq_eq_true h
theorem agw{α : Type u}(a b : α) : (some a=some b)=(a=b) :=Option.some.injEq a b
theorem agx{α : Type u}{as bs : List α} : (as ++bs).length=as.length+bs.length :=List.length_append
theorem agy{α : Type u}{a b : α} : a ∈ [b] ↔ a=b :=List.mem_singleton
theorem agz{α : Type u}{a : α}{s t : List α} : a ∈ s ++t ↔ a ∈ s \/a ∈ t :=List.mem_append
theorem ag0{α : Type u}{β : Type v}{as : List α}(f : α -> β) : (as.map f).length=as.length :=List.length_map f
theorem ag1{c : Prop}{h : Decidable c}(n : ¬c){α : Sort u}{t e : α} : (if c then t else e)=e :=if_neg n
theorem ag2{c : Prop}{h : Decidable c}(n : c){α : Sort u}{t e : α} : (if c then t else e)=t :=if_pos n
theorem ag3{p : Prop}[Decidable p] : decide p=false -> ¬p :=of_decide_eq_false
theorem ag4{p : Prop}[Decidable p] : decide p=true -> p :=of_decide_eq_true
theorem ag5{α : Type u}{i : Nat}{l : List α}(h : i<l.length) : l.take (i+1)=l.take i ++[l[i]] :=List.take_succ_eq_append_getElem h
theorem ag6(n : Nat) : 0 <=n :=Nat.zero_le n
theorem ag7(n : Nat) : ¬n<0 :=Nat.not_lt_zero n
theorem ag8(n : Nat) : n <=n :=Nat.le_refl n
theorem ag9{m n : Nat} : m<n+1 ↔ m<n \/m=n :=Nat.lt_succ_iff_lt_or_eq
theorem aha{n m : Nat}(h : Nat.ble n m=true) : n <=m :=Nat.le_of_ble_eq_true h
theorem ahb{n m k : Nat}(h : n <=m)(g : m <=k) : n <=k :=Nat.le_trans h g
theorem ahc{α β : Type}(a : α)(w : World)(f : α -> World -> Result β) : (Result.ok a w).andThen f=f a w :=Result.andThen_ok a w f
theorem ahd{α : Type}(P : Program)(w : World)(a : α) : (pure a : Sem α).run P w= .ok a w :=Sem.run_pure P w a
theorem ahe{α : Type u}{a : α}{l : List α}(h : a ∈ l) : ∃i,∃h : i<l.length,l[i]=a :=List.getElem_of_mem h
theorem ahf{α : Type u}{a : α}{l : List α} : (a :: l).length=l.length+1 :=rfl
theorem ahg{α : Type u} : ([] : List α).length=0 :=rfl
theorem ahh{α : Type u}{β : Type v}{f : α -> β}{a : α}{l : List α} : (a :: l).map f=f a :: l.map f :=rfl
theorem ahi{α : Type u}{β : Type v}{f : α -> β}{a b : List α} : (a ++b).map f=a.map f ++b.map f :=List.map_append
theorem ahj{α : Type u}{β : Type v}{b : β}{f : α -> β}{l : List α} : b ∈ l.map f ↔ ∃a,a ∈ l /\ f a=b :=List.mem_map
theorem ahk{α : Type u}{a b : α}{l : List α} : a ∈ b :: l ↔ a=b \/a ∈ l :=List.mem_cons
theorem ahl{α : Type u}{i : Nat}{l : List α}(h : l.length <=i) : l.take i=l :=List.take_of_length_le h
theorem ahm{α : Type u}{l : List α}(h : l.length=0) : l=[] :=List.eq_nil_of_length_eq_zero h
theorem ahn{α : Type u}{i : Nat}{a : α}{l : List α} : l[i]? =some a ↔ ∃h : i<l.length,l[i]=a :=List.getElem?_eq_some_iff
theorem aho{α : Type u}{i : Nat}{l : List α}(h : i<l.length) : l.drop i=l[i] :: l.drop (i+1) :=List.drop_eq_getElem_cons h
theorem ahp{α : Type u}{β : Type v}(a : α)(f : α -> β) : (some a).map f=some (f a) :=rfl
theorem ahq{α : Type u}{β : Type v}(a : α)(f : α -> Option β) : (some a).bind f=f a :=rfl
theorem ahr : false ≠ true :=Bool.false_ne_true
theorem ahs(a b : Bool) : ((a && b)=true)=(a=true /\ b=true) :=Bool.and_eq_true a b
theorem aht{p : Prop}[Decidable p] : (decide p=true)=p :=decide_eq_true_eq
def tabs:List (Nat×List Value):=[(1,[.int .u64 1,.int .u64 10,.int .u64 100,.int .u64 1000,.int .u64 10000,.int .u64 100000,.int .u64 1000000,.int .u64 10000000,.int .u64 100000000,.int .u64 1000000000,.int .u64 10000000000,.int .u64 100000000000,.int .u64 1000000000000,.int .u64 10000000000000,.int .u64 100000000000000,.int .u64 1000000000000000,.int .u64 10000000000000000,.int .u64 100000000000000000,.int .u64 1000000000000000000,.int .u64 10000000000000000000])]
set_option linter.unusedVariables false
set_option linter.unusedSimpArgs false
open Go.RowKit
inductive AV where
 |v (x:Value)
 |ptr (id ver off:Nat)
 |sl (id ver off len:Nat)
 |tree (n:Nat) (xs:List (List AV))
 |tp (cs:List AV) (off:Nat)
 |clo (f:FuncId) (caps:List AV)
 |agg (cs:List AV)
 |tup (vs:List AV)
 |unk
 |mp (id ver:Nat)
 |it (id ver:Nat)
instance:Inhabited AV:=⟨.unk⟩
inductive TR(T:Nat->Prop)(w:World):AV->Value->Prop where
 |v (x:Value):TR T w (.v x) x
 |unk (x:Value):TR T w .unk x
 |agg {cs:List AV} {vs:Array Value}:cs.length=vs.size->(∀i (h:i<cs.length) (h':i<vs.size),TR T w cs[i] vs[i])->TR T w (.agg cs) (.agg vs)
 |tup {cs:List AV} {vs:Array Value}:cs.length=vs.size->(∀i (h:i<cs.length) (h':i<vs.size),TR T w cs[i] vs[i])->TR T w (.tup cs) (.tuple vs)
 |clo {f:FuncId} {cs:List AV} {vs:Array Value}:cs.length=vs.size->(∀i (h:i<cs.length) (h':i<vs.size),TR T w cs[i] vs[i])->TR T w (.clo f cs) (.func (.func f) #[] vs)
 |tree {n:Nat} {xs:List (List AV)} {b off cap:Nat} (cell:Nat->Nat->Value):T b->xs.length<=cap->cap<=maxLen->xs.length<=140737488355328->(∀k (h:k<xs.length),xs[k].length=n) ->
  (∀k j,k<xs.length->j<n->w.cell? ⟨b,off+k*n+j,none⟩=some (cell k j))->(∀k (h:k<xs.length) j (h':j<xs[k].length),TR T w xs[k][j] (cell k j)) ->
  TR T w (.tree n xs) (.slice (some ⟨b,off,none⟩) xs.length cap)
 |tree0 {n:Nat} {a:Option Addr} {cap:Nat}:cap<=maxLen->TR T w (.tree n []) (.slice a 0 cap)
 |tp {cs:List AV} {b off o:Nat} (cell:Nat->Value):T b->(∀j,j<cs.length->w.cell? ⟨b,off+j,none⟩=some (cell j))->(∀j (h:j<cs.length),TR T w cs[j] (cell j))->TR T w (.tp cs o) (.pointer (some ⟨b,off+o,none⟩))
theorem TR.mono{T T':Nat->Prop}{w w':World}(hT:∀b,T b->T' b)(hw:∀b,T b->w'.heap[b]? =w.heap[b]?){a:AV}{x:Value}(h:TR T w a x):TR T' w' a x:=by
 induction h with
 |v x=>exact .v x
 |unk x=>exact .unk x
 |agg hl _ ih=>exact .agg hl ih
 |tup hl _ ih=>exact .tup hl ih
 |clo hl _ ih=>exact .clo hl ih
 |tree cell hb h1 h2 h3 h4 h5 _ ih=>exact .tree cell (hT _ hb) h1 h2 h3 h4 (fun k j hk hj=>by rw[World.cell?_of_block (w:=w) (hw _ hb)];exact h5 k j hk hj) ih
 |tree0 h=>exact .tree0 h
 |tp cell hb h1 _ ih=>exact .tp cell (hT _ hb) (fun j hj=>by rw[World.cell?_of_block (w:=w) (hw _ hb)];exact h1 j hj) ih
def GOK(T:Nat->Prop)(w:World):Prop:=∀p∈tabs,T p.1/\(∀j (h:j<p.2.length),w.cell? ⟨p.1,j,none⟩=some p.2[j])/\w.cell? ⟨p.1,p.2.length,none⟩=none
theorem GOK.mono{T T':Nat->Prop}{w w':World}(h:GOK T w)(hT:∀b,T b->T' b)(hw:∀b,T b->w'.heap[b]? =w.heap[b]?):GOK T' w':=
 fun p hp=>⟨hT _ (h p hp).1,fun j hj=>by rw[World.cell?_of_block (w:=w) (hw _ (h p hp).1)];exact(h p hp).2.1 j hj,by rw[World.cell?_of_block (w:=w) (hw _ (h p hp).1)];exact(h p hp).2.2⟩
structure TOk(T:Nat->Prop)(w:World):Prop where
 lt:∀b,T b->b<w.heap.size
 glob:GOK T w
instance{T:Nat->Prop}{w:World}:CoeFun (TOk T w) (fun _=>∀b,T b->b<w.heap.size):=⟨TOk.lt⟩
structure Blk where
 ver:Nat
 cs:List AV
 esz:Nat
 nilp:Bool
def Blk.kind(b:Blk):Nat:=match b.nilp,b.cs with
 |false,_=>0
 |true,[]=>1
 |true,_::_=>2
theorem dj{b:Blk}(h:b.nilp=false):b.kind=0:=by unfold Blk.kind;rw[h]
theorem di{b:Blk}(h:b.nilp=false):b.kind≠1:=by rw[dj h];decide
theorem uw{b:Blk}(h:b.kind=0):b.nilp=false:=by
 cases hn:b.nilp with
 |false=>rfl
 |true=>unfold Blk.kind at h;rw[hn]at h;cases hc:b.cs<;>rw[hc]at h<;>cases h
theorem R8{b:Blk}(h:b.kind=1):b.nilp=true/\b.cs=[]:=by
 cases hn:b.nilp with
 |false=>rw[dj hn]at h;cases h
 |true=>unfold Blk.kind at h;rw[hn]at h;cases hc:b.cs<;>rw[hc]at h<;>first|exact⟨rfl,rfl⟩|cases h
theorem H1{b:Blk}(h:b.kind=2):b.nilp=true/\b.cs≠[]:=by
 cases hn:b.nilp with
 |false=>rw[dj hn]at h;cases h
 |true=>unfold Blk.kind at h;rw[hn]at h;cases hc:b.cs<;>rw[hc]at h<;>first|(cases h;done)|exact⟨rfl,by simp⟩
theorem Blk.k_cases(b:Blk):b.kind=0\/b.kind=1\/b.kind=2:=by
 unfold Blk.kind
 cases b.nilp<;>cases b.cs<;>simp
abbrev bf:=Nat->Option Blk
structure Ctx where
 ρ:Nat->Nat×Nat
 sz:Nat->Nat
 η:bf
 U:Nat->Prop
 T:Nat->Prop
 w:World
inductive VR(C:Ctx):AV->Value->Prop where
 |imm {a:AV} {x:Value}:TR C.T C.w a x->VR C a x
 |ptr {id ver off:Nat} {b:Blk}:C.η id=some b->b.ver=ver->b.nilp=false->VR C (.ptr id ver off) (.pointer (some ⟨(C.ρ id).1,(C.ρ id).2+off,none⟩))
 |sl {id ver off len cap:Nat} {b:Blk}:C.η id=some b->b.ver=ver->b.nilp=false->len<=cap->cap<=maxLen->len<=140737488355328->(C.ρ id).2+off+cap*b.esz<=C.sz id ->
  VR C (.sl id ver off len) (.slice (some ⟨(C.ρ id).1,(C.ρ id).2+off,none⟩) len cap)
 |slz {id ver off:Nat} {b:Blk} {ad:Addr}:C.η id=some b->b.ver=ver->b.nilp=false->VR C (.sl id ver off 0) (.slice (some ad) 0 0)
 |slnil {id ver:Nat} {b:Blk}:C.η id=some b->b.ver=ver->b.kind=1->VR C (.sl id ver 0 0) (.slice none 0 0)
 |mp {id ver:Nat} {b:Blk}:C.η id=some b->b.ver=ver->b.kind=2->VR C (.mp id ver) (.map (some (C.ρ id).1))
 |it {id ver:Nat} {b:Blk}:C.η id=some b->b.ver=ver->b.kind=2->VR C (.it id ver) (.pointer (some ⟨(C.ρ id).1,0,none⟩))
 |stalem {id ver:Nat} {x:Value}:x.oneCell'=true->C.U id->(∀b,C.η id=some b->ver<b.ver)->VR C (.mp id ver) x
 |stalei {id ver:Nat} {x:Value}:x.oneCell'=true->C.U id->(∀b,C.η id=some b->ver<b.ver)->VR C (.it id ver) x
 |stalep {id ver off:Nat} {x:Value}:x.oneCell'=true->C.U id->(∀b,C.η id=some b->ver<b.ver)->VR C (.ptr id ver off) x
 |stales {id ver off len:Nat} {x:Value}:x.oneCell'=true->C.U id->(∀b,C.η id=some b->ver<b.ver)->VR C (.sl id ver off len) x
 |agg {cs:List AV} {vs:Array Value}:cs.length=vs.size->(∀i (h:i<cs.length) (h':i<vs.size),VR C cs[i] vs[i])->VR C (.agg cs) (.agg vs)
 |tup {cs:List AV} {vs:Array Value}:cs.length=vs.size->(∀i (h:i<cs.length) (h':i<vs.size),VR C cs[i] vs[i])->VR C (.tup cs) (.tuple vs)
 |clo {f:FuncId} {cs:List AV} {vs:Array Value}:cs.length=vs.size->(∀i (h:i<cs.length) (h':i<vs.size),VR C cs[i] vs[i])->VR C (.clo f cs) (.func (.func f) #[] vs)
def Ctx.live(C:Ctx)(id:Nat):Prop:=∃b,C.η id=some b/\b.kind≠1
def Ctx.mine(C:Ctx)(k:Nat):Prop:=∃id,C.live id/\(C.ρ id).1=k
def i7(clock:Nat)(es:List (Value×AV×Nat)):List AV:=.v (.int .i64 0)::.v (.int .i64 (Int.ofNat clock))::es.map fun e=>.agg [.v e.1,e.2.1,.v (.int .i64 (Int.ofNat e.2.2))]
def k8(s:ByteArray)(pos:Nat):List AV:=[.v (.int .i64 1),.v (.string s),.v (.int .i64 (Int.ofNat pos))]
def i6(m:AV)(since:Nat)(seen:List Nat)(last:Nat):List AV:=.v (.int .i64 2)::m::.v (.int .i64 (Int.ofNat since))::.v (.int .i64 (Int.ofNat last))::seen.map fun n=>.v (.int .i64 (Int.ofNat n))
inductive ObjR(C:Ctx):List AV->Obj->Prop where
 |map {es:List (Value×AV×Nat)} {entries:Array MapEntry} {clock:Nat}:es.length=entries.size->(∀i (h:i<es.length) (h':i<entries.size),entries[i].key=es[i].1/\VR C es[i].2.1 entries[i].val/\entries[i].born=es[i].2.2)->ObjR C (i7 clock es) (.map entries clock)
 |siter {s:ByteArray} {pos:Nat}:ObjR C (k8 s pos) (.stringIter s pos)
 |miter0 {since last:Nat} {seen:List Nat}:ObjR C (i6 (.v (.map none)) since seen last) (.mapIter none since seen.toArray last)
 |miter {a:AV} {m since last:Nat} {seen:List Nat}:VR C a (.map (some m))->ObjR C (i6 a since seen last) (.mapIter (some m) since seen.toArray last)
def TV:Nat:=1125899906842624
structure Good(C:Ctx):Prop where
 used:∀{id b},C.η id=some b->C.U id
 obj:∀{id b},C.η id=some b->b.kind=2->∃o,C.w.heap[(C.ρ id).1]? =some o/\ObjR C b.cs o
 blk:∀{id b},C.η id=some b->b.nilp=false->∃cells t,C.w.heap[(C.ρ id).1]? =some (.cells cells t (0,0))/\cells.size=C.sz id/\(C.ρ id).2+b.cs.length<=cells.size /\
  ∀j (h:j<b.cs.length) (h':(C.ρ id).2+j<cells.size),VR C b.cs[j] cells[(C.ρ id).2+j]
 inj:∀{id id'},C.live id->C.live id'->(C.ρ id).1=(C.ρ id').1->id=id'
 tok:TOk C.T C.w
 apart:∀{k},C.mine k->¬C.T k
 tight:∀{id b},C.η id=some b->b.ver=TV->b.nilp=false->C.sz id=(C.ρ id).2+b.cs.length
theorem Good.tlt{C:Ctx}(hg:Good C){k:Nat}(h:C.T k):k<C.w.heap.size:=hg.tok.lt k h
theorem Good.tokT{C:Ctx}(hg:Good C){T':Nat->Prop}(h:∀b,C.T b->T' b)(h0:∀k,T' k->k<C.w.heap.size):TOk T' C.w:=⟨h0,hg.tok.glob.mono h (fun _ _=>rfl)⟩
def TOP:Nat:=1000000
structure Fr0(C C':Ctx):Prop where
 os:C'.w.os=C.w.os
 tape:C'.w.tape=C.w.tape
 output:C'.w.output=C.w.output
 size:C.w.heap.size<=C'.w.heap.size
 keep:∀k,k<C.w.heap.size->¬C.mine k->C'.w.heap[k]? =C.w.heap[k]?
 mine:∀k,C'.mine k->C.mine k\/C.w.heap.size<=k
 T:∀k,C.T k->C'.T k
 Tnew:∀k,C'.T k->C.T k\/C.mine k\/C.w.heap.size<=k
def Pin(C C':Ctx):Prop:=∀id,TOP<=id->C.U id->C'.U id/\∀b',C'.η id=some b'->∃b,C.η id=some b/\b.ver<=b'.ver/\(b.ver=b'.ver->C'.ρ id=C.ρ id/\C'.sz id=C.sz id/\b'.kind=b.kind/\b'.esz=b.esz)
theorem Good.tokE{C C':Ctx}(hg:Good C)(h:Fr0 C C')(h0:∀k,C'.T k->k<C'.w.heap.size):TOk C'.T C'.w:=
 ⟨h0,hg.tok.glob.mono h.T (fun k hk=>h.keep k (hg.tlt hk) (fun hm=>hg.apart hm hk))⟩
structure Fr(C C':Ctx):Prop extends Fr0 C C' where
 pin:Pin C C'
structure Ev(C C':Ctx):Prop extends Fr0 C C' where
 U:∀id,C.U id->C'.U id
 old:∀id b',C.U id->C'.η id=some b'->∃b,C.η id=some b/\b.ver<=b'.ver/\(b.ver=b'.ver->C'.ρ id=C.ρ id/\C'.sz id=C.sz id/\b'.kind=b.kind/\b'.esz=b.esz)
theorem VR.mono{C C':Ctx}(hg:Good C)(h:Ev C C'){a:AV}{x:Value}(hv:VR C a x):VR C' a x:=by
 have dead:∀{id ver:Nat} {b:Blk},C.η id=some b->b.ver=ver->(∀b',C'.η id=some b'->ver<b'.ver)\/∃b',C'.η id=some b'/\b'.ver=ver/\C'.ρ id=C.ρ id/\C'.sz id=C.sz id/\b'.kind=b.kind/\b'.esz=b.esz:=by
  intro id ver b hb hv
  cases hb':C'.η id with
  |none=>exact .inl (fun b' h=>by cases h)
  |some b'=>
   obtain⟨b0,h0,h5,h6⟩:=h.old id b' (hg.used hb) hb'
   rw[hb]at h0
   cases h0
   by_cases e:b.ver=b'.ver
   ·obtain⟨e1,e2,e3,e4⟩:=h6 e
    exact .inr ⟨b',rfl,by omega,e1,e2,e3,e4⟩
   ·exact .inl (fun b'' h''=>by cases h'';omega)
 have stale:∀{id ver:Nat},C.U id->(∀b,C.η id=some b->ver<b.ver)->∀b',C'.η id=some b'->ver<b'.ver:=by
  intro id ver hu hs b' hb'
  obtain⟨b,hb,h5,_⟩:=h.old id b' hu hb'
  have:=hs b hb
  omega
 induction hv with
 |imm ht=>exact .imm (ht.mono h.T (fun k hk=>h.keep k (hg.tlt hk) (fun hm=>hg.apart hm hk)))
 |ptr hb he hn=>
  rcases dead hb he with hd|⟨b',hb',e0,e1,e2,e3,e4⟩
  ·exact .stalep rfl (h.U _ (hg.used hb)) hd
  ·rw[<-e1];exact .ptr hb' e0 (uw (e3.trans (dj hn)))
 |sl hb he hn h1 h2 h3 h4=>
  rcases dead hb he with hd|⟨b',hb',e0,e1,e2,e3,e4⟩
  ·exact .stales rfl (h.U _ (hg.used hb)) hd
  ·rw[<-e1];exact .sl hb' e0 (uw (e3.trans (dj hn))) h1 h2 h3 (by rw[e1,e2,e4];exact h4)
 |slz hb he hn=>
  rcases dead hb he with hd|⟨b',hb',e0,e1,e2,e3,e4⟩
  ·exact .stales rfl (h.U _ (hg.used hb)) hd
  ·exact .slz hb' e0 (uw (e3.trans (dj hn)))
 |slnil hb he hn=>
  rcases dead hb he with hd|⟨b',hb',e0,e1,e2,e3,e4⟩
  ·exact .stales rfl (h.U _ (hg.used hb)) hd
  ·exact .slnil hb' e0 (e3.trans hn)
 |mp hb he hn=>
  rcases dead hb he with hd|⟨b',hb',e0,e1,e2,e3,e4⟩
  ·exact .stalem rfl (h.U _ (hg.used hb)) hd
  ·rw[<-e1];exact .mp hb' e0 (e3.trans hn)
 |it hb he hn=>
  rcases dead hb he with hd|⟨b',hb',e0,e1,e2,e3,e4⟩
  ·exact .stalei rfl (h.U _ (hg.used hb)) hd
  ·rw[<-e1];exact .it hb' e0 (e3.trans hn)
 |stalep h1 hu hs=>exact .stalep h1 (h.U _ hu) (stale hu hs)
 |stalem h1 hu hs=>exact .stalem h1 (h.U _ hu) (stale hu hs)
 |stalei h1 hu hs=>exact .stalei h1 (h.U _ hu) (stale hu hs)
 |stales h1 hu hs=>exact .stales h1 (h.U _ hu) (stale hu hs)
 |agg hl _ ih=>exact .agg hl ih
 |tup hl _ ih=>exact .tup hl ih
 |clo hl _ ih=>exact .clo hl ih
theorem ObjR.mono{C C':Ctx}(hg:Good C)(h:Ev C C'){cs:List AV}{o:Obj}(ho:ObjR C cs o):ObjR C' cs o:=by
 cases ho with
 |map hl hi=>exact .map hl (fun i h1 h2=>⟨(hi i h1 h2).1,(hi i h1 h2).2.1.mono hg h,(hi i h1 h2).2.2⟩)
 |siter=>exact .siter
 |miter0=>exact .miter0
 |miter hv=>exact .miter (hv.mono hg h)
theorem Good.lt{C:Ctx}(hg:Good C){id:Nat}(h:C.live id):(C.ρ id).1<C.w.heap.size:=by
 obtain⟨b,hb,hk⟩:=h
 rcases b.k_cases with h0|h1|h2
 ·obtain⟨c,t,e,_⟩:=hg.blk hb (uw h0)
  exact(Array.getElem?_eq_some_iff.1 e).1
 ·exact absurd h1 hk
 ·obtain⟨o,e,_⟩:=hg.obj hb h2
  exact(Array.getElem?_eq_some_iff.1 e).1
theorem Fr0.refl(C:Ctx):Fr0 C C:=
 ⟨rfl,rfl,rfl,ag8 _,fun _ _ _=>rfl,fun _ h=>.inl h,fun _ h=>h,fun _ h=>.inl h⟩
theorem Ev.refl(C:Ctx):Ev C C:=
 ⟨Fr0.refl C,fun _ h=>h,fun id b' _ hb=>⟨b',hb,ag8 _,fun _=>⟨rfl,rfl,rfl,rfl⟩⟩⟩
theorem Ev.toFr{C C':Ctx}(h:Ev C C'):Fr C C':=⟨h.toFr0,fun id _ hu=>⟨h.U id hu,fun b' hb=>h.old id b' hu hb⟩⟩
theorem Fr.refl(C:Ctx):Fr C C:=(Ev.refl C).toFr
theorem Pin.trans{A B C:Ctx}(h:Pin A B)(k:Pin B C):Pin A C:=fun id ht hu=>by
 obtain⟨u1,o1⟩:=h id ht hu
 obtain⟨u2,o2⟩:=k id ht u1
 refine⟨u2,fun b' hb=>?_⟩
 obtain⟨b,h1,hle,h2⟩:=o2 b' hb
 obtain⟨a,ha,hle',h0⟩:=o1 b h1
 refine⟨a,ha,by omega,fun e=>?_⟩
 obtain⟨q1,q2,q3,q4⟩:=h2 (by omega)
 obtain⟨r1,r2,r3,r4⟩:=h0 (by omega)
 exact⟨q1.trans r1,q2.trans r2,q3.trans r3,q4.trans r4⟩
theorem Fr0.trans{A B C:Ctx}(h:Fr0 A B)(k:Fr0 B C):Fr0 A C where
 os:=k.os.trans h.os
 tape:=k.tape.trans h.tape
 output:=k.output.trans h.output
 size:=ahb h.size k.size
 keep:=fun i hi hm=>(k.keep i (Nat.lt_of_lt_of_le hi h.size) (fun hb=>(h.mine i hb).elim hm (fun h0=>by omega))).trans (h.keep i hi hm)
 mine:=fun i hi=>(k.mine i hi).elim (fun hb=>h.mine i hb) (fun h0=>.inr (ahb h.size h0))
 T:=fun i hi=>k.T i (h.T i hi)
 Tnew:=fun i hi=>by
  rcases k.Tnew i hi with h1|h1|h1
  ·exact h.Tnew i h1
  ·exact .inr (h.mine i h1)
  ·exact .inr (.inr (ahb h.size h1))
theorem Fr.trans{A B C:Ctx}(h:Fr A B)(k:Fr B C):Fr A C:=⟨h.toFr0.trans k.toFr0,h.pin.trans k.pin⟩
theorem Ev.trans{A B C:Ctx}(h:Ev A B)(k:Ev B C):Ev A C where
 toFr0:=h.toFr0.trans k.toFr0
 U:=fun i hi=>k.U i (h.U i hi)
 old:=fun id b'' hu hb=>by
  obtain⟨b',hb',h2,h3⟩:=k.old id b'' (h.U id hu) hb
  obtain⟨b,h4,h0,h1⟩:=h.old id b' hu hb'
  refine⟨b,h4,ahb h0 h2,fun e=>?_⟩
  obtain⟨e1,e2,e3,e4⟩:=h3 (by omega)
  obtain⟨f1,f2,f3,f4⟩:=h1 (by omega)
  exact⟨e1.trans f1,e2.trans f2,e3.trans f3,e4.trans f4⟩
def aev(τ:Nat->AV):Operand->AV
 |.tmp t=>τ t
 |.const x=>.v x
 |.global g=>.v (.pointer (some ⟨g,0,none⟩))
 |.func f=>.clo f []
def upd(τ:Nat->AV)(d:Nat)(v:AV):Nat->AV:=fun t=>bif Nat.beq t d then v else τ t
def j1(τ:Nat->AV)(d:Option Nat)(v:AV):Nat->AV:=match d with|some d=>upd τ d v|none=>τ
def bf.set(η:bf)(id:Nat)(b:Option Blk):bf:=fun i=>bif Nat.beq i id then b else η i
def bf.put(η:bf):List (Nat×Option Blk)->bf
 |[]=>η
 |p::r=>bf.put (η.set p.1 p.2) r
theorem TR.v_inv{T:Nat->Prop}{w:World}{x y:Value}(h:TR T w (.v x) y):y=x:=by cases h;rfl
theorem VR.v_inv{C:Ctx}{x y:Value}(h:VR C (.v x) y):y=x:=by
 cases h with
 |imm h=>exact h.v_inv
theorem VR.v(C:Ctx)(x:Value):VR C (.v x) x:=.imm (.v x)
theorem VR.unk(C:Ctx)(x:Value):VR C .unk x:=.imm (.unk x)
def LOp(P:Program)(o:Oper)(τ:Nat->AV)(η:bf)(fp:List Nat)(δ:List (Nat×Option Blk))(v:AV):Prop:=
 ∀(C:Ctx) (a:Act),Good C->(∀x∈o.op.operands,VR C (aev τ x) (a.eval x))->(∀id∈fp,C.η id=η id)->(∀p∈δ,p.1∉fp->¬C.U p.1)->
  ∀(K:Act->World->Prop) (Q:Exit->Act->World->Prop),
   (∀x C',C'.η=C.η.put δ->(∀id,C'.U id↔C.U id\/id∈δ.map (·.1))->Good C'->Ev C C'->VR C' v x->K (a.put o.dst x) C'.w)->o.wp P a C.w K Q
theorem LOp.look{P:Program}{o:Oper}{τ:Nat->AV}{η:bf}{v:AV}(fp:List Nat)
 (h:∀(C:Ctx) (a:Act),Good C->(∀x∈o.op.operands,VR C (aev τ x) (a.eval x))->(∀id∈fp,C.η id=η id)->∃x,(execOp a.eval o).run P C.w=.ok (.value x) C.w/\VR C v x):
 LOp P o τ η fp [] v:=by
 intro C a hg hx hf _ K Q hK
 obtain⟨x,hr,hv⟩:=h C a hg hx hf
 unfold Oper.wp
 rw[hr]
 exact hK x C rfl (fun id=>by simp) hg (Ev.refl C) hv
def AV.val:AV->Value
 |.v x=>x
 |_=>undef
def AV.isV:AV->Bool
 |.v _=>true
 |_=>false
theorem lP{P:Program}{o:Oper}{τ:Nat->AV}{η:bf}{y:Value}(hv:(o.op.operands.toList.all fun x=>(aev τ x).isV)=true)(hs:∀cs b,o.op≠.select cs b)
 (h:∀w,(execOp (fun x=>(aev τ x).val) o).run P w=.ok (.value y) w):LOp P o τ η [] [] (.v y):=
 .look [] fun C a hg hx _=>by
  refine⟨y,?_,VR.v C y⟩
  rw[<-h C.w,execOp_congr o hs]
  intro x hm
  have h1:=List.all_eq_true.1 hv x (by simpa using hm)
  have h2:=hx x hm
  cases e:aev τ x with
  |v c=>rw[e]at h2;exact h2.v_inv
  |_=>rw[e]at h1;cases h1
theorem LOp.move{P:Program}{τ:Nat->AV}{η:bf}{d:Option Tmp}{ty:TypeId}{pos:String}{af:Array Edge}{g:Option (Nat×Bool)}(x:Operand):
 LOp P ⟨d,.move x,ty,pos,af,g⟩ τ η [] [] (aev τ x):=
 .look [] fun C a _ hx _=>⟨a.eval x,rfl,hx x (by simp[Op.operands])⟩
theorem LOp.assign{P:Program}{τ:Nat->AV}{η:bf}{d:Option Tmp}{ty:TypeId}{pos:String}{af:Array Edge}{g:Option (Nat×Bool)}(x:Operand):
 LOp P ⟨d,.assign x,ty,pos,af,g⟩ τ η [] [] (aev τ x):=
 .look [] fun C a _ hx _=>⟨a.eval x,rfl,hx x (by simp[Op.operands])⟩
theorem LOp.pick{P:Program}{τ:Nat->AV}{η:bf}{d:Option Tmp}{ty:TypeId}{pos:String}{af:Array Edge}{g:Option (Nat×Bool)}{c x y:Operand}{t:Bool}(hc:aev τ c=.v (.bool t)):
 LOp P ⟨d,.pick c x y,ty,pos,af,g⟩ τ η [] [] (if t then aev τ x else aev τ y):=
 .look [] fun C a _ hx _=>by have h1:=hx c (by simp[Op.operands]);rw[hc]at h1;have h2:=h1.v_inv;refine⟨if t then a.eval x else a.eval y,by simp only[execOp,h2,asBool,Sem.run_bind,ahd,ahc],?_⟩;cases t;exact hx y (by simp[Op.operands]);exact hx x (by simp[Op.operands])
structure St where
 τ:Nat->AV
 η:bf
 u:Nat
structure SRel(N:Nat)(C:Ctx)(s:St)(a:Act):Prop where
 good:Good C
 η:C.η=s.η
 u:∀id,C.U id->id<s.u\/TOP<=id
 defers:a.defers=[]
 size:a.tmps.size=N
 τ:∀t,VR C (s.τ t) (a.eval (.tmp t))
theorem SRel.eval{N:Nat}{C:Ctx}{s:St}{a:Act}(h:SRel N C s a)(x:Operand):VR C (aev s.τ x) (a.eval x):=by
 cases x with
 |tmp t=>exact h.τ t
 |const c=>exact VR.v C c
 |global g=>exact VR.v C _
 |func f=>exact .imm (.clo (by simp) (fun i hi=>by simp at hi))
theorem SRel.put{N:Nat}{C C':Ctx}{s:St}{a:Act}(h:SRel N C s a)(he:Ev C C')(hg:Good C'){u':Nat}(hu:∀id,C'.U id->id<u'\/TOP<=id){dst:Option Tmp}(hd:∀d,dst=some d->d<N){v:AV}{x:Value}(hv:VR C' v x):
 SRel N C' ⟨j1 s.τ dst v,C'.η,u'⟩ (a.put dst x):=by
 refine⟨hg,rfl,hu,?_,?_,fun t=>?_⟩
 ·cases dst<;>simp[Act.put,h.defers]
 ·cases dst<;>simp[Act.put,h.size]
 ·cases dst with
  |none=>exact(h.τ t).mono h.good he
  |some d=>
   have h0:d<a.tmps.size:=by rw[h.size];exact hd d rfl
   by_cases e:t=d
   ·subst e
    have e1:j1 s.τ (some t) v t=v:=by simp[j1,upd,cond]
    have e2:(a.put (some t) x).eval (.tmp t)=x:=by simp[Act.eval,Act.put,h0]
    rw[e2];show VR C' (j1 s.τ (some t) v t) x;rw[e1];exact hv
   ·have e1:j1 s.τ (some d) v t=s.τ t:=by
     have:Nat.beq t d=false:=by
      cases hb:Nat.beq t d with
      |false=>rfl
      |true=>exact absurd (agv hb) e
     simp[j1,upd,cond,this]
    have e2:(a.put (some d) x).eval (.tmp t)=a.eval (.tmp t):=Act.eval_put (fun q hq=>by cases hq;simp;exact e)
    rw[e2];show VR C' (j1 s.τ (some d) v t) _;rw[e1];exact(h.τ t).mono h.good he
def AWP(P:Program)(N:Nat)(c:Code)(Q:Exit->St->Prop)(s:St):Prop:=
 ∀C a,SRel N C s a->c.wp P (fun e a' w'=>∃s' C',Q e s'/\C'.w=w'/\SRel N C' s' a'/\Fr C C') a C.w
def A7(P:Program)(N:Nat)(ops:Array Oper)(l:List Oper)(K:St->Prop)(s:St):Prop:=
 ∀C a (Q:Exit->Act->World->Prop),SRel N C s a->(∀s' C' a',K s'->SRel N C' s' a'->Fr C C'->Q .normal a' C'.w)->wpList P ops Q l a C.w
section
variable{P:Program}{N:Nat}{Q:Exit->St->Prop}{s:St}
def m3(ops:Array Oper)(τ:Nat->AV)(o:Oper):Option Bool:=
 match o.guard with
 |none=>some true
 |some (j,b)=>match(ops[j]?).bind (·.dst)with
  |none=>none
  |some d=>match τ d with
   |.v (.bool c)=>some (c==b)
   |.v (.tuple _)=>some false
   |_=>none
theorem ke{ops:Array Oper}{C:Ctx}{a:Act}{o:Oper}{b:Bool}(h:m3 ops s.τ o=some b)(hr:SRel N C s a)(hd:∀j c,o.guard=some (j,c)->∀d,(ops[j]?).bind (·.dst)=some d->d<N):
 Region.wanted o (yielded ops a.tmps)=b:=by
 unfold m3 at h
 unfold Region.wanted
 cases hg:o.guard with
 |none=>rw[hg]at h;simpa using h
 |some p=>
  obtain⟨j,c⟩:=p
  rw[hg]at h
  simp only at h ⊢
  cases hj:(ops[j]?).bind (·.dst)with
  |none=>rw[hj]at h;cases h
  |some d=>
   rw[hj]at h
   simp only at h
   have h0:=hd j c hg d hj
   rw[<-hr.size]at h0
   have h2:=hr.τ d
   cases e:s.τ d with
   |v x=>
    rw[e]at h h2
    cases x with
    |bool t=>
     have h3:=h2.v_inv
     have h4:a.tmps[d]? =some (.bool t):=by simp only[Act.eval]at h3;rw[Array.getD_eq_getD_getElem?]at h3;rw[Array.getElem?_eq_getElem h0]at h3 ⊢;simpa using h3
     simp only[yielded,hj,ahq,h4]
     simp only[agw]at h
     rw[<-h]
     cases t<;>cases c<;>rfl
    |tuple l=>
     have h3:=h2.v_inv
     have h4:a.tmps[d]? =some (.tuple l):=by simp only[Act.eval]at h3;rw[Array.getD_eq_getD_getElem?]at h3;rw[Array.getElem?_eq_getElem h0]at h3 ⊢;simpa using h3
     simp only[yielded,hj,ahq,h4]
     simp only[agw]at h
     rw[<-h]
     rfl
    |_=>simp at h
   |_=>rw[e]at h;simp at h
theorem oN{ops:Array Oper}{K:St->Prop}(h:K s):A7 P N ops [] K s:=
 fun C a Q hr hK=>hK s C a h hr (Fr.refl C)
def si(u id:Nat):Bool:=Nat.ble (id+1) u||Nat.ble TOP id
theorem aag{u id:Nat}:si u id=true↔(id<u\/TOP<=id):=by unfold si;rw[Bool.or_eq_true,Nat.ble_eq,Nat.ble_eq];rfl
def zt(fp:List Nat)(δ:List (Nat×Option Blk))(u u':Nat):Bool:=δ.all fun p=>(fp.contains p.1&&si u p.1)||(Nat.ble u p.1&&Nat.ble (p.1+1) u'&&Nat.ble (p.1+1) TOP)
def Lf:Op->Bool
 |.defer _=>false
 |_=>true
def iv(N:Nat)(ops:Array Oper)(o:Oper):Bool:=
 Lf o.op&&(match o.dst with|some d=>Nat.ble (d+1) N|none=>true)&&(match o.guard with|none=>true|some (j,_)=>match(ops[j]?).bind (·.dst)with|none=>true|some d=>Nat.ble (d+1) N)
theorem iv.dst{ops:Array Oper}{o:Oper}(h:iv N ops o=true):∀d,o.dst=some d->d<N:=by intro d hd;unfold iv at h;rw[hd]at h;simp only[ahs]at h;exact aha h.1.2
theorem iv.nd{ops:Array Oper}{o:Oper}(h:iv N ops o=true):∀c,o.op≠.defer c:=by grind[iv,Lf]
theorem iv.guard{ops:Array Oper}{o:Oper}(h:iv N ops o=true):∀j c,o.guard=some (j,c)->∀d,(ops[j]?).bind (·.dst)=some d->d<N:=by intro j c hg d hd;unfold iv at h;rw[hg]at h;simp only[hd,ahs]at h;exact aha h.2
theorem A7.op{ops:Array Oper}{K:St->Prop}{o:Oper}{l:List Oper}{fp:List Nat}{δ:List (Nat×Option Blk)}{v:AV}(u':Nat)(hL:LOp P o s.τ s.η fp δ v)(hw:m3 ops s.τ o=some true)(hd:iv N ops o=true)
 (hu:Nat.ble s.u u'=true)(hn:zt fp δ s.u u'=true)(h:A7 P N ops l K ⟨j1 s.τ o.dst v,s.η.put δ,u'⟩):A7 P N ops (o::l) K s:=by
 intro C a Q hr hK
 unfold wpList
 rw[ke hw hr (iv.guard hd)]
 simp only[if_true]
 left
 refine hL C a hr.good (fun x _=>hr.eval x) (fun id _=>by rw[hr.η]) (fun p hp h4 hU=>?_) _ _ fun x C' hη h5 hg he hv=>?_
 ·have h1:=List.all_eq_true.1 hn p hp
  simp only[Bool.or_eq_true,ahs,List.contains_iff_mem]at h1
  rcases h1 with⟨h1,_⟩|⟨⟨h1,_⟩,h3⟩
  ·exact h4 h1
  ·have:=aha h1
   have:=aha h3
   have:=hr.u _ hU
   omega
 ·have hu1:=aha hu
  have h0:∀id,C'.U id->id<u'\/TOP<=id:=by intro id h6;rcases(h5 id).1 h6 with h1|h1;have:=hr.u _ h1;omega;obtain⟨p,hp,rfl⟩:=ahj.1 h1;have h2:=List.all_eq_true.1 hn p hp;simp only[Bool.or_eq_true,ahs]at h2;rcases h2 with⟨_,h2⟩|⟨⟨_,h2⟩,_⟩;have:=aag.1 h2;omega;exact .inl (aha h2)
  have hs:=hr.put he hg h0 (iv.dst hd) hv
  rw[hη,hr.η]at hs
  exact h C' _ Q hs (fun s' C'' a' hk h7 h8=>hK s' C'' a' hk h7 (he.toFr.trans h8))
theorem A7.skip{ops:Array Oper}{K:St->Prop}{o:Oper}{l:List Oper}(hw:m3 ops s.τ o=some false)(hd:iv N ops o=true)
 (h:A7 P N ops l K ⟨j1 s.τ o.dst (.v undef),s.η,s.u⟩):A7 P N ops (o::l) K s:=by
 intro C a Q hr hK
 unfold wpList
 rw[ke hw hr (iv.guard hd)]
 simp only[Bool.false_eq_true,if_false]
 have hs:=hr.put (Ev.refl C) hr.good hr.u (iv.dst hd) (VR.v C undef)
 rw[hr.η]at hs
 exact h C _ Q hs hK
theorem wR{id:Nat}{l:List Oper}(h:A7 P N l.toArray l (fun s'=>Q .normal s') s):AWP P N (.region id l.toArray false) Q s:=by intro C a hr;exact wp_region_lit (h C a _ hr (fun s' C' a' hk h0 h1=>⟨s',C',hk,rfl,h0,h1⟩))
theorem AWP.mono{Q':Exit->St->Prop}{c:Code}(h:AWP P N c Q s)(hq:∀e s',Q e s'->Q' e s'):AWP P N c Q' s:=
 fun C a hr=>Code.wp_mono (fun e a' w' ⟨s',C',h1,h2⟩=>⟨s',C',hq _ _ h1,h2⟩) (h C a hr)
theorem wK(h:Q .normal s):AWP P N .skip Q s:=fun C a hr=>wp_skip ⟨s,C,h,rfl,hr,Fr.refl C⟩
theorem AWP.exit{id:Nat}(h:Q (.exit id) s):AWP P N (.exit id) Q s:=fun C a hr=>wp_exit ⟨s,C,h,rfl,hr,Fr.refl C⟩
theorem wT(h:Q .ret s):AWP P N .ret Q s:=fun C a hr=>wp_ret ⟨s,C,h,rfl,hr,Fr.refl C⟩
def andThen(next:St->Prop)(Q:Exit->St->Prop):Exit->St->Prop
 |.normal,s=>next s
 |e,s=>Q e s
theorem wS{x y:Code}(h:AWP P N x (andThen (AWP P N y Q) Q) s):AWP P N (.seq x y) Q s:=by
 intro C a hr
 refine wp_seq (Code.wp_mono ?_ (h C a hr))
 rintro e a' w' ⟨s',C',hq,rfl,h0,he⟩
 cases e with
 |normal=>exact Code.wp_mono (fun e a'' w'' ⟨s'',C'',h1,h2,h3,h4⟩=>⟨s'',C'',h1,h2,h3,he.trans h4⟩) (hq C' a' h0)
 |_=>exact⟨s',C',hq,rfl,h0,he⟩
theorem wC{c:Operand}{x y:Code}{t:Bool}(hc:aev s.τ c=.v (.bool t))(ht:t=true->AWP P N x Q s)(hf:t=false->AWP P N y Q s):AWP P N (.cond c x y) Q s:=by intro C a hr;have h1:=hr.eval c;rw[hc]at h1;exact wp_cond_split h1.v_inv (fun e=>ht e C a hr) (fun e=>hf e C a hr)
theorem AWP.condT{c:Operand}{x y:Code}(hc:aev s.τ c=.v (.bool true))(h:AWP P N x Q s):AWP P N (.cond c x y) Q s:=wC hc (fun _=>h) (fun e=>by cases e)
theorem AWP.condF{c:Operand}{x y:Code}(hc:aev s.τ c=.v (.bool false))(h:AWP P N y Q s):AWP P N (.cond c x y) Q s:=wC hc (fun e=>by cases e) (fun _=>h)
def t8(id:Nat)(Q:Exit->St->Prop):Exit->St->Prop
 |.exit id',s=>bif Nat.beq id' id then Q .normal s else Q (.exit id') s
 |e,s=>Q e s
theorem wB{id:Nat}{c:Code}(h:AWP P N c (t8 id Q) s):AWP P N (.block id c) Q s:=by
 intro C a hr;refine wp_block (Code.wp_mono ?_ (h C a hr));rintro e a' w' ⟨s',C',hq,h2⟩;cases e with
 |exit id'=>
  simp only[Exit.inBlock]
  simp only[t8]at hq
  by_cases e:id'=id
  ·subst e
   rw[Nat.beq_refl]at hq
   simp only[cond_true]at hq
   simp only[if_true]
   exact⟨s',C',hq,h2⟩
  ·have:Nat.beq id' id=false:=by
    cases hb:Nat.beq id' id with
    |false=>rfl
    |true=>exact absurd (agv hb) e
   rw[this]at hq
   simp only[cond_false]at hq
   simp only[e,if_false]
   exact⟨s',C',hq,h2⟩
 |_=>exact⟨s',C',hq,h2⟩
theorem O6{c:Code}{Q:Exit->Act->World->Prop}(I:Nat->Act->World->Prop)(round:∀n a w,I n a w->c.wp P (Exit.then (fun a' w'=>∃m,m<n/\I m a' w') Q) a w){n:Nat}{a:Act}{w:World}(h0:I n a w):(Code.loop c).wp P Q a w:=by
 intro b k cs
 have key:∀n a w,I n a w->∃e a' w',Q e a' w'/\Arrives P (lone (b.at a (.code c::.inLoop c::k)) cs w) b k cs e a' w':=by
  intro n;induction n using Nat.strongRecOn with
  |_ n ih=>
   intro a w hI
   obtain⟨e,a₁,w₁,hq,h1⟩:=round n a w hI b (.inLoop c::k) cs
   cases e with
   |normal=>
    obtain⟨m,h2,hI₁⟩:=hq
    obtain⟨e₂,a₂,w₂,hq₂,harr₂⟩:=ih m h2 a₁ w₁ hI₁
    exact⟨e₂,a₂,w₂,hq₂,.of_steps (Steps.trans h1 (.one step_inLoop)) harr₂⟩
   |exit id=>exact⟨_,a₁,w₁,hq,.pass (x:=.inLoop c) rfl (fun _ _=>.inl (by simp)) h1⟩
   |goto l=>exact⟨_,a₁,w₁,hq,.pass (x:=.inLoop c) rfl (fun _ _=>.inl (by simp)) h1⟩
   |ret=>exact⟨_,a₁,w₁,hq,.pass (x:=.inLoop c) rfl (fun _ _=>.inl (by simp)) h1⟩
   |panic ch=>exact⟨_,a₁,w₁,hq,.pass (x:=.inLoop c) rfl (fun _ _=>.inl (by simp)) h1⟩
   |outgrown=>exact⟨_,a₁,w₁,hq,.pass (x:=.inLoop c) rfl (fun _ _=>.inl (by simp)) h1⟩
 obtain⟨e,a',w',hq,h1⟩:=key _ a w h0;exact⟨e,a',w',hq,.of_steps (.one step_loop) h1⟩
theorem AWP.loop{c:Code}(I:Nat->St->Prop)(hI:∀n s,I n s->AWP P N c (andThen (fun s'=>∃m,m<n/\I m s') Q) s){n:Nat}(h0:I n s):AWP P N (.loop c) Q s:=by
 intro C a hr;refine O6 (fun n a w=>∃s' C',I n s'/\C'.w=w/\SRel N C' s' a/\Fr C C') ?_ ⟨s,C,h0,rfl,hr,Fr.refl C⟩;rintro n a w ⟨s',C',hi,rfl,h1,he⟩;refine Code.wp_mono ?_ (hI n s' hi C' a h1);rintro e a'' w'' ⟨s'',C'',hq,rfl,hr'',he''⟩;cases e with
 |normal=>
  obtain⟨m,hm,h2⟩:=hq
  exact⟨m,hm,s'',C'',h2,rfl,hr'',he.trans he''⟩
 |_=>exact⟨s'',C'',hq,rfl,hr'',he.trans he''⟩
end
theorem VR.ptr_inv{C:Ctx}{id ver off:Nat}{b:Blk}{x:Value}(h:VR C (.ptr id ver off) x)(hb:C.η id=some b)(hv:b.ver=ver):x=.pointer (some ⟨(C.ρ id).1,(C.ρ id).2+off,none⟩):=by
 cases h with
 |imm h=>cases h
 |ptr _ _ _=>rfl
 |stalep _ _ hs=>have:=hs b hb;omega
theorem VR.sl_inv{C:Ctx}{id ver off len:Nat}{b:Blk}{x:Value}(h:VR C (.sl id ver off len) x)(hb:C.η id=some b)(hv:b.ver=ver)(hn:b.nilp=false):
 ∃a cap,x=.slice (some a) len cap/\len<=cap/\cap<=maxLen/\len<=140737488355328/\(len=0/\cap=0\/a=⟨(C.ρ id).1,(C.ρ id).2+off,none⟩/\(C.ρ id).2+off+cap*b.esz<=C.sz id):=by
 cases h with
 |imm h=>cases h
 |sl hb' _ h0 h1 h2 h3 h4=>rw[hb]at hb';cases hb';exact⟨_,_,rfl,h1,h2,h3,.inr ⟨rfl,h4⟩⟩
 |slz=>exact⟨_,0,rfl,ag8 _,ag6 _,ag6 _,.inl ⟨rfl,rfl⟩⟩
 |slnil hb' _ h0=>rw[hb]at hb';cases hb';rw[dj hn]at h0;cases h0
 |stales _ _ hs=>have:=hs b hb;omega
theorem VR.tree_inv{C:Ctx}{n:Nat}{xs:List (List AV)}{x:Value}(h:VR C (.tree n xs) x):TR C.T C.w (.tree n xs) x:=by
 cases h with
 |imm h=>exact h
theorem VR.tp_inv{C:Ctx}{cs:List AV}{off:Nat}{x:Value}(h:VR C (.tp cs off) x):TR C.T C.w (.tp cs off) x:=by
 cases h with
 |imm h=>exact h
theorem VR.agg_inv{C:Ctx}{cs:List AV}{x:Value}(h:VR C (.agg cs) x):∃vs,x=.agg vs/\cs.length=vs.size/\∀i (h:i<cs.length) (h':i<vs.size),VR C cs[i] vs[i]:=by
 cases h with
 |imm h=>cases h with
  |agg hl hi=>exact⟨_,rfl,hl,fun i h h'=>.imm (hi i h h')⟩
 |agg hl hi=>exact⟨_,rfl,hl,hi⟩
theorem VR.tup_inv{C:Ctx}{cs:List AV}{x:Value}(h:VR C (.tup cs) x):∃vs,x=.tuple vs/\cs.length=vs.size/\∀i (h:i<cs.length) (h':i<vs.size),VR C cs[i] vs[i]:=by
 cases h with
 |imm h=>cases h with
  |tup hl hi=>exact⟨_,rfl,hl,fun i h h'=>.imm (hi i h h')⟩
 |tup hl hi=>exact⟨_,rfl,hl,hi⟩
theorem VR.clo_inv{C:Ctx}{f:FuncId}{cs:List AV}{x:Value}(h:VR C (.clo f cs) x):∃vs,x=.func (.func f) #[] vs/\cs.length=vs.size/\∀i (h:i<cs.length) (h':i<vs.size),VR C cs[i] vs[i]:=by
 cases h with
 |imm h=>cases h with
  |clo hl hi=>exact⟨_,rfl,hl,fun i h h'=>.imm (hi i h h')⟩
 |clo hl hi=>exact⟨_,rfl,hl,hi⟩
def AV.cells:AV->List AV
 |.agg cs=>cs
 |.v (.agg cs)=>cs.toList.map .v
 |a=>[a]
def AV.known:AV->Bool
 |.unk=>false
 |_=>true
def AV.one:AV->Bool
 |.v x=>x.oneCell'
 |.agg _|.tup _|.unk=>false
 |_=>true
theorem VR.one{C:Ctx}{a:AV}{x:Value}(h:VR C a x)(h1:a.one=true):x.oneCell'=true:=by
 cases h with
 |imm h=>cases h<;>first|rfl|exact h1|cases h1
 |stalep h=>exact h
 |stales h=>exact h
 |stalem h=>exact h
 |stalei h=>exact h
 |agg=>cases h1
 |tup=>cases h1
 |_=>rfl
theorem VR.cells{C:Ctx}{a:AV}{x:Value}(h:VR C a x)(hk:a.known=true):a.cells.length=x.cells.size/\∀i (h:i<a.cells.length) (h':i<x.cells.size),VR C a.cells[i] x.cells[i]:=by
 have one:∀{a:AV} {x:Value},VR C a x->a.cells=[a]->x.cells=#[x]->a.cells.length=x.cells.size/\∀i (h:i<a.cells.length) (h':i<x.cells.size),VR C a.cells[i] x.cells[i]:=by intro a x h e1 e2;refine⟨by rw[e1,e2];rfl,fun i hi h1=>?_⟩;have:i=0:=(by rw[e1]at hi;simp at hi;omega);subst this;simp only[e1,e2];exact h
 have h0:=h;cases h with
 |imm h=>cases h with
  |v x=>
   cases x with
   |agg vs=>exact⟨by simp[AV.cells,Value.cells],fun i hi h1=>by simp[AV.cells,Value.cells];exact VR.v C _⟩
   |_=>exact one h0 rfl rfl
  |unk=>cases hk
  |agg hl hi=>exact⟨hl,fun i h h'=>.imm (hi i h h')⟩
  |_=>exact one h0 rfl rfl
 |agg hl hi=>exact⟨hl,hi⟩
 |stalep h=>exact one h0 rfl (by cases x<;>first|rfl|cases h)
 |stales h=>exact one h0 rfl (by cases x<;>first|rfl|cases h)
 |stalem h=>exact one h0 rfl (by cases x<;>first|rfl|cases h)
 |stalei h=>exact one h0 rfl (by cases x<;>first|rfl|cases h)
 |_=>exact one h0 rfl rfl
def cp(P:Program)(t i:Nat):Option (Nat×Nat):=match P.underlying t with
 |some (.struct fs)=>(fs[i]?).bind fun f=>(P.info? f.type).map fun inf=>(f.offset,inf.size)
 |_=>none
theorem tc{P:Program}{t i off sz:Nat}(h:cp P t i=some (off,sz))(hz:sz≠0)(b o:Nat)(w:World):
 (Instr.fieldAt t (.pointer (some ⟨b,o,none⟩)) i).run P w=.ok (.pointer (some ⟨b,o+off,none⟩)) w:=by
 unfold cp at h
 cases hu:P.underlying t with
 |none=>rw[hu]at h;cases h
 |some d=>
  rw[hu]at h
  cases d with
  |struct fs=>
   simp only at h
   cases hf:fs[i]? with
   |none=>rw[hf]at h;cases h
   |some f=>
    rw[hf]at h
    simp only[ahq]at h
    cases hi:P.info? f.type with
    |none=>rw[hi]at h;cases h
    |some inf=>
     rw[hi]at h
     simp only[ahp,agw,Prod.mk.injEq]at h
     obtain⟨rfl,rfl⟩:=h
     simp[Instr.fieldAt,run_underlying hu,hf,Instr.sureAddr,fieldPlace,sizeOf,typeInfo,hi,hz,Addr.add_mid]
  |_=>cases h
section
variable{P:Program}{τ:Nat->AV}{η:bf}{d:Option Tmp}{ty:TypeId}{pos:String}{af:Array Edge}{g:Option (Nat×Bool)}
theorem lF{t i off sz:Nat}{x:Operand}{id ver o:Nat}{b:Blk}(hf:cp P t i=some (off,sz))(hz:Nat.beq sz 0=false)(hx:aev τ x=.ptr id ver o)(hb:η id=some b)(hv:b.ver=ver)(hn:b.nilp=false):
 LOp P ⟨d,.fieldAddr t x i,ty,pos,af,g⟩ τ η [id] [] (.ptr id ver (o+off)):=
 .look [id] fun C a hg h0 h3=>by
  have hb':C.η id=some b:=(h3 id (by simp)).trans hb;have h1:=h0 x (by simp[Op.operands])
  rw[hx]at h1;have h2:=h1.ptr_inv hb' hv
  refine⟨.pointer (some ⟨(C.ρ id).1,(C.ρ id).2+(o+off),none⟩),?_,.ptr hb' hv hn⟩;have h4:sz≠0:=fun e=>by rw[e]at hz;cases hz
  simp[execOp,h2,tc hf h4,Nat.add_assoc]
theorem lc{t i off sz:Nat}{x:Operand}{cs:List AV}{o:Nat}(hf:cp P t i=some (off,sz))(hz:Nat.beq sz 0=false)(hx:aev τ x=.tp cs o):
 LOp P ⟨d,.fieldAddr t x i,ty,pos,af,g⟩ τ η [] [] (.tp cs (o+off)):=
 .look [] fun C a hg h0 hfp=>by
  have h1:=h0 x (by simp[Op.operands]);rw[hx]at h1;have h3:sz≠0:=fun e=>by rw[e]at hz;cases hz
  have h2:=h1.tp_inv;generalize h4:a.eval x=xv at h2;cases h2 with
  |tp cell hT hc hr=>
   rename_i bb base
   refine⟨.pointer (some ⟨bb,base+(o+off),none⟩),?_,.imm (.tp cell hT hc hr)⟩
   simp[execOp,h4,tc hf h3,Nat.add_assoc]
def c9(P:Program)(t:Nat):Option (Option Nat):=match P.underlying t,P.info? t with
 |some (.struct _),some i=>some (some i.size)
 |some (.array _ _),some i=>some (some i.size)
 |some (.struct _),none=>none
 |some (.array _ _),none=>none
 |some _,_=>some none
 |none,_=>none
theorem pq{t:Nat}(h:c9 P t=some none){b o:Nat}{w:World}{x:Value}(hc:w.cell? ⟨b,o,none⟩=some x):
 (Instr.loadAt t (.pointer (some ⟨b,o,none⟩))).run P w=.ok x w:=by
 unfold c9 at h
 cases hu:P.underlying t with
 |none=>rw[hu]at h;cases hi:P.info? t<;>rw[hi]at h<;>cases h
 |some dd=>
  rw[hu]at h
  cases dd<;>first
   |(simp[Instr.loadAt,Instr.sureAddr,loadVar,isAgg,run_underlying hu,run_load,hc];done)
   |(cases hi:P.info? t<;>rw[hi]at h<;>simp at h)
theorem mh{t n:Nat}(h:c9 P t=some (some n)){b o:Nat}{w:World}{cs:List Value}(hl:cs.length=n)(hc:∀j v,cs[j]? =some v->w.cell? ⟨b,o+j,none⟩=some v):
 (Instr.loadAt t (.pointer (some ⟨b,o,none⟩))).run P w=.ok (.agg cs.toArray) w:=by
 unfold c9 at h
 cases hu:P.underlying t with
 |none=>rw[hu]at h;cases hi:P.info? t<;>rw[hi]at h<;>cases h
 |some dd=>
  rw[hu]at h
  cases dd<;>first
   |(
    cases hi:P.info? t with
    |none=>rw[hi]at h;cases h
    |some inf=>
     rw[hi]at h
     simp only[agw]at h
     exact run_loadAt_mid w b o t cs _ hc hu rfl (by rw[hi];simp;omega))
   |(cases hi:P.info? t<;>rw[hi]at h<;>simp at h)
theorem Good.cell{C:Ctx}(hg:Good C){id:Nat}{b:Blk}(hb:C.η id=some b)(hn:b.nilp=false){j:Nat}(hj:j<b.cs.length):
 ∃x,C.w.cell? ⟨(C.ρ id).1,(C.ρ id).2+j,none⟩=some x/\VR C b.cs[j] x:=by
 obtain⟨cells,t,h1,h2,h3,h4⟩:=hg.blk hb hn
 have h0:(C.ρ id).2+j<cells.size:=by omega
 exact⟨cells[(C.ρ id).2+j],by simp[World.cell?,h1,h0],h4 j hj h0⟩
theorem d7{n:Nat}{p:Nat->Value->Prop}(h:∀j,j<n->∃x,p j x):∃f:Nat->Value,∀j,j<n->p j (f j):=
 ⟨fun j=>if hj:j<n then Classical.choose (h j hj)else undef,fun j hj=>by simp only[hj,dif_pos];exact Classical.choose_spec (h j hj)⟩
theorem lD{t:Nat}{x:Operand}{id ver o:Nat}{b:Blk}{v:AV}(ht:c9 P t=some none)(hx:aev τ x=.ptr id ver o)(hb:η id=some b)(hv:b.ver=ver)(hn:b.nilp=false)(hc:b.cs[o]? =some v):
 LOp P ⟨d,.load t x,ty,pos,af,g⟩ τ η [id] [] v:=
 .look [id] fun C a hg h3 h4=>by have hb':C.η id=some b:=(h4 id (by simp)).trans hb;have h1:=h3 x (by simp[Op.operands]);rw[hx]at h1;have h2:=h1.ptr_inv hb' hv;obtain⟨h5,h6⟩:=ahn.1 hc;obtain⟨y,hy,h0⟩:=hg.cell hb' hn h5;rw[h6]at h0;refine⟨y,?_,h0⟩;simp[execOp,h2,pq ht hy]
theorem w9{t n:Nat}{x:Operand}{id ver o:Nat}{b:Blk}(ht:c9 P t=some (some n))(hx:aev τ x=.ptr id ver o)(hb:η id=some b)(hv:b.ver=ver)(hn:b.nilp=false)(hc:o+n<=b.cs.length):
 LOp P ⟨d,.load t x,ty,pos,af,g⟩ τ η [id] [] (.agg ((b.cs.drop o).take n)):=
 .look [id] fun C a hg h4 h5=>by have hb':C.η id=some b:=(h5 id (by simp)).trans hb;have h1:=h4 x (by simp[Op.operands]);rw[hx]at h1;have h2:=h1.ptr_inv hb' hv;obtain⟨f,hf⟩:=d7 (n:=n) (p:=fun j y=>C.w.cell? ⟨(C.ρ id).1,(C.ρ id).2+o+j,none⟩=some y/\VR C (b.cs.getD (o+j) .unk) y) (fun j hj=>by obtain⟨y,hy,h6⟩:=hg.cell hb' hn (j:=o+j) (by omega);refine⟨y,by rw[Nat.add_assoc];exact hy,have:b.cs.getD (o+j) .unk=b.cs[o+j]'(by omega):=(by simp[List.getD,show o+j<b.cs.length by omega]);?_⟩;rw[this];exact h6);have h0:((List.range n).map f).length=n:=(by simp);exact⟨.agg ((List.range n).map f).toArray,by simp only[execOp,h2,Sem.run_bind,mh ht h0 (fun j v hj=>by obtain⟨h7,he⟩:=ahn.1 hj;simp only[List.getElem_map,List.getElem_range]at he;subst he;exact(hf j (by simpa using h7)).1),ahc,ahd],.agg (by simp;omega) (fun i hi h3=>by have h8:i<n:=(by simp at h3;exact h3);simp only[List.getElem_toArray,List.getElem_map,List.getElem_range,List.getElem_take,List.getElem_drop];have:=(hf i h8).2;simpa[List.getD,show o+i<b.cs.length by omega]using this)⟩
theorem lE{t:Nat}{x:Operand}{cs:List AV}{o:Nat}{v:AV}(ht:c9 P t=some none)(hx:aev τ x=.tp cs o)(hc:cs[o]? =some v):
 LOp P ⟨d,.load t x,ty,pos,af,g⟩ τ η [] [] v:=
 .look [] fun C a hg h3 hfp=>by
  have h1:=h3 x (by simp[Op.operands]);rw[hx]at h1;have h2:=h1.tp_inv
  generalize h4:a.eval x=xv at h2;obtain⟨h0,h5⟩:=ahn.1 hc;cases h2 with
  |tp cell hT h6 hr=>
   refine⟨cell o,?_,?_⟩
   ·simp[execOp,h4,pq ht (h6 o h0)]
   ·have:=hr o h0
    rw[h5]at this
    exact .imm this
theorem Jf{t n:Nat}{x:Operand}{cs:List AV}{o:Nat}(ht:c9 P t=some (some n))(hx:aev τ x=.tp cs o)(hc:o+n<=cs.length):
 LOp P ⟨d,.load t x,ty,pos,af,g⟩ τ η [] [] (.agg ((cs.drop o).take n)):=
 .look [] fun C a hg h4 hfp=>by
  have h1:=h4 x (by simp[Op.operands]);rw[hx]at h1;have h2:=h1.tp_inv
  generalize h5:a.eval x=xv at h2;cases h2 with
  |tp cell hT h6 hr=>
   have h0:((List.range n).map fun j=>cell (o+j)).length=n:=by simp
   refine⟨.agg ((List.range n).map fun j=>cell (o+j)).toArray,?_,.agg (by simp;omega) (fun i hi h3=>?_)⟩
   ·simp only[execOp,h5,Sem.run_bind,mh ht h0 (fun j v hj=>by
     obtain⟨h7,he⟩:=ahn.1 hj
     simp only[List.getElem_map,List.getElem_range]at he
     subst he
     rw[Nat.add_assoc]
     exact h6 (o+j) (by simp at h7;omega)),ahc,ahd]
   ·have hin:i<n:=by simp at h3;exact h3
    simp only[List.getElem_toArray,List.getElem_map,List.getElem_range,List.getElem_take,List.getElem_drop]
    exact .imm (hr (o+i) (by omega))
end
def Ctx.alloc(C:Ctx)(u:Nat)(cells:Array Value)(t:TypeId)(b:Blk):Ctx:=
 {ρ:=fun i=>if i=u then(C.w.heap.size,0)else C.ρ i,sz:=fun i=>if i=u then cells.size else C.sz i,η:=C.η.set u (some b),U:=fun i=>C.U i\/i=u,T:=C.T,w:=C.w.alloc (.cells cells t)}
theorem am(η:bf)(id:Nat)(b:Option Blk):η.set id b id=b:=by simp[bf.set]
theorem aq(η:bf){id i:Nat}(b:Option Blk)(h:i≠id):η.set id b i=η i:=by grind[Nat.beq,agv,bf.set]
section
variable{C:Ctx}{u:Nat}{cells:Array Value}{t:TypeId}{b:Blk}
theorem df(hg:Good C)(hu:¬C.U u)(hn:b.nilp=false):Ev C (C.alloc u cells t b) where
 os:=rfl
 tape:=rfl
 output:=rfl
 size:=by simp[Ctx.alloc]
 keep:=fun k hk _=>Below.heap_alloc _ _ _ hk
 mine:=fun k ⟨id,⟨b',hb',h0⟩,hk⟩=>by by_cases e:id=u;right;subst e;simp only[Ctx.alloc,if_true]at hk;omega;left;simp only[Ctx.alloc]at hb' hk;rw[aq _ _ e]at hb';simp only[e,if_false]at hk;exact⟨id,⟨b',hb',h0⟩,hk⟩
 T:=fun _ h=>h
 Tnew:=fun _ h=>.inl h
 U:=fun _ h=>.inl h
 old:=fun id b' h1 hb'=>by have e:id≠u:=fun e=>hu (e▸h1);simp only[Ctx.alloc]at hb';rw[aq _ _ e]at hb';exact⟨b',hb',ag8 _,fun _=>⟨by simp[Ctx.alloc,e],by simp[Ctx.alloc,e],rfl,rfl⟩⟩
theorem cy(hg:Good C)(hu:¬C.U u)(hn:b.nilp=false)(hl:b.cs.length<=cells.size)(hv:∀j (h:j<b.cs.length) (h':j<cells.size),VR C b.cs[j] cells[j])(ht:b.ver=TV->cells.size=b.cs.length:=by intro e;exact absurd e (by show¬((0:Nat)=TV);decide)):Good (C.alloc u cells t b):=by
 have he:=df (C:=C) (u:=u) (cells:=cells) (t:=t) (b:=b) hg hu hn;have hne:∀{id b'},C.η id=some b'->id≠u:=fun hb e=>hu (e▸hg.used hb)
 have h0:∀{id b'},(C.alloc u cells t b).η id=some b'->(id=u/\b'=b)\/(id≠u/\C.η id=some b'):=by
  intro id b' hb';simp only[Ctx.alloc]at hb';by_cases e:id=u;subst e;rw[am]at hb';cases hb';exact .inl ⟨rfl,rfl⟩;rw[aq _ _ e]at hb';exact .inr ⟨e,hb'⟩
 have h7:∀{id b'},C.η id=some b'->b'.kind≠1->(C.ρ id).1<C.w.heap.size:=fun hb' hk=>hg.lt ⟨_,hb',hk⟩;refine⟨?_,?_,?_,?_,?_,?_,?_⟩;intro id b' hb';rcases h0 hb' with⟨rfl,rfl⟩|⟨e,hb'⟩;exact .inr rfl;exact .inl (hg.used hb');intro id b' hb' h6;rcases h0 hb' with⟨rfl,rfl⟩|⟨e,hb'⟩;rw[dj hn]at h6;cases h6;obtain⟨ob,h1,h2⟩:=hg.obj hb' h6;have e1:(C.alloc u cells t b).ρ id=C.ρ id:=by simp[Ctx.alloc,e]
 rw[e1];exact⟨ob,(Below.heap_alloc _ _ _ (h7 hb' (by rw[h6];decide))).trans h1,h2.mono hg he⟩;intro id b' hb' h6;rcases h0 hb' with⟨rfl,rfl⟩|⟨e,hb'⟩;exact⟨cells,t,by simp only[Ctx.alloc,if_true];exact heap_alloc_new C.w _,by simp[Ctx.alloc],by simp only[Ctx.alloc,if_true];omega,by intro j h h';have e0:((C.alloc id cells t b').ρ id).2+j=j:=(by simp[Ctx.alloc]);simp only[e0];exact(hv j h (by rw[e0]at h';exact h')).mono hg he⟩;obtain⟨c,t',h1,h2,h3,h4⟩:=hg.blk hb' h6;have e1:(C.alloc u cells t b).ρ id=C.ρ id:=by simp[Ctx.alloc,e]
 have e2:(C.alloc u cells t b).sz id=C.sz id:=by simp[Ctx.alloc,e]
 rw[e1,e2];exact⟨c,t',(Below.heap_alloc _ _ _ (h7 hb' (di h6))).trans h1,h2,h3,fun j h h'=>(h4 j h h').mono hg he⟩;rintro id id' ⟨b1,hf,h8⟩ ⟨b2,hh,h9⟩ h;rcases h0 hf with⟨h1,_⟩|⟨e1,ha⟩<;>rcases h0 hh with⟨h2,_⟩|⟨e2,hc⟩;exact h1.trans h2.symm;have:=h7 hc h9
 simp only[Ctx.alloc,h1,if_true,e2,if_false]at h;omega;have:=h7 ha h8
 simp only[Ctx.alloc,h2,if_true,e1,if_false]at h;omega;simp only[Ctx.alloc,e1,e2,if_false]at h;exact hg.inj ⟨b1,ha,h8⟩ ⟨b2,hc,h9⟩ h;refine hg.tokE he.toFr0 fun k hk=>have:=hg.tlt (k:=k) hk;?_
 simp[Ctx.alloc];omega;rintro k ⟨id,⟨b',hb',h6⟩,hk⟩ hT;rcases h0 hb' with⟨rfl,rfl⟩|⟨e,hb'⟩;have:=hg.tlt (k:=k) hT
 simp only[Ctx.alloc,if_true]at hk;omega;simp only[Ctx.alloc,e,if_false]at hk;exact hg.apart ⟨id,⟨b',hb',h6⟩,hk⟩ hT;intro id b' hb' hd h6;rcases h0 hb' with⟨rfl,rfl⟩|⟨e,hb'⟩;have e1:(C.alloc id cells t b').ρ id=(C.w.heap.size,0):=by simp[Ctx.alloc]
 have e2:(C.alloc id cells t b').sz id=cells.size:=by simp[Ctx.alloc]
 rw[e1,e2,ht hd];simp;have e1:(C.alloc u cells t b).ρ id=C.ρ id:=by simp[Ctx.alloc,e]
 have e2:(C.alloc u cells t b).sz id=C.sz id:=by simp[Ctx.alloc,e]
 rw[e1,e2];exact hg.tight hb' hd h6
end
def setR:Array Value->Nat->List Value->Array Value
 |cs,_,[]=>cs
 |cs,o,v::r=>setR (cs.setIfInBounds o v) (o+1) r
theorem ju:∀(xs:List Value) (cs:Array Value) (o:Nat),(setR cs o xs).size=cs.size
 |[],_,_=>rfl
 |v::r,cs,o=>by rw[setR,ju r];simp
theorem qo:∀(xs:List Value) (cs:Array Value) (o j:Nat),j<o\/o+xs.length<=j->(setR cs o xs)[j]? =cs[j]?
 |[],_,_,_,_=>rfl
 |v::r,cs,o,j,h=>by rw[setR,qo r _ (o+1) j (by simp at h;omega),Array.getElem?_setIfInBounds,ag1 (by simp at h;omega)]
theorem ze:∀(xs:List Value) (cs:Array Value) (o j:Nat),o+xs.length<=cs.size->j<xs.length->(setR cs o xs)[o+j]? =xs[j]?
 |v::r,cs,o,0,h,_=>by show(setR (cs.setIfInBounds o v) (o+1) r)[o]? =some v;rw[qo r _ (o+1) o (by omega),Array.getElem?_setIfInBounds,ag2 rfl,ag2 (by simp at h;omega)]
 |v::r,cs,o,j+1,h,hj=>by have:=ze r (cs.setIfInBounds o v) (o+1) j (by simp at h ⊢;omega) (by simpa using hj);rw[setR,show o+(j+1)=o+1+j by omega,this];rfl
theorem mg:∀(xs:List Value) (w:World) (g o:Nat) (cs:Array Value) (t:TypeId),w.heap[g]? =some (.cells cs t (0,0))->(w.setCells g o xs).heap[g]? =some (.cells (setR cs o xs) t (0,0))
 |[],_,_,_,_,_,h=>h
 |v::r,w,g,o,cs,t,h=>mg r _ g (o+1) _ t (heap_setCell_same _ _ _ _ _ _ h)
theorem ia:∀(xs:List Value) (w:World) (g o k:Nat),k≠g->(w.setCells g o xs).heap[k]? =w.heap[k]?
 |[],_,_,_,_,_=>rfl
 |v::r,w,g,o,k,h=>by rw[World.setCells,ia r _ g _ k h,heap_setCell_other _ _ _ _ h]
theorem d8:∀(xs:List Value) (w:World) (g o:Nat),(w.setCells g o xs).os=w.os/\(w.setCells g o xs).tape=w.tape/\(w.setCells g o xs).output=w.output/\(w.setCells g o xs).heap.size=w.heap.size
 |[],_,_,_=>⟨rfl,rfl,rfl,rfl⟩
 |v::r,w,g,o=>by obtain⟨h1,h2,h3,h4⟩:=d8 r (w.setCell ⟨g,o,none⟩ v) g (o+1);exact⟨h1,h2,h3,by rw[World.setCells,h4];simp[World.setCell]⟩
def bg(cs:List AV)(o:Nat)(vs:List AV):List AV:=cs.take o++vs++cs.drop (o+vs.length)
theorem dz{cs:List AV}{o:Nat}{vs:List AV}(h:o+vs.length<=cs.length):(bg cs o vs).length=cs.length:=by simp[bg];omega
def Ctx.store(C:Ctx)(id:Nat)(b:Blk)(o:Nat)(vs:List AV)(xs:List Value):Ctx:=
 {C with η:=C.η.set id (some {b with cs:=bg b.cs o vs}),w:=C.w.setCells (C.ρ id).1 ((C.ρ id).2+o) xs}
section
variable{C:Ctx}{id:Nat}{b:Blk}{o:Nat}{vs:List AV}{xs:List Value}
theorem kz(hg:Good C)(hb:C.η id=some b)(hn:b.nilp=false):Ev C (C.store id b o vs xs) where
 os:=(d8 _ _ _ _).1
 tape:=(d8 _ _ _ _).2.1
 output:=(d8 _ _ _ _).2.2.1
 size:=by simp only[Ctx.store];rw[(d8 _ _ _ _).2.2.2];exact ag8 _
 keep:=fun k _ hm=>ia _ _ _ _ _ (fun e=>hm ⟨id,⟨b,hb,di hn⟩,e.symm⟩)
 mine:=fun k ⟨id',⟨b',hb',h0⟩,hk⟩=>by left;by_cases e:id'=id;subst e;exact⟨id',⟨b,hb,di hn⟩,hk⟩;simp only[Ctx.store]at hb';rw[aq _ _ e]at hb';exact⟨id',⟨b',hb',h0⟩,hk⟩
 T:=fun _ h=>h
 Tnew:=fun _ h=>.inl h
 U:=fun _ h=>h
 old:=fun id' b' hid hb'=>by simp only[Ctx.store]at hb';by_cases e:id'=id;subst e;rw[am]at hb';cases hb';exact⟨b,hb,ag8 _,fun _=>⟨rfl,rfl,by rw[dj hn];exact dj hn,rfl⟩⟩;rw[aq _ _ e]at hb';exact⟨b',hb',ag8 _,fun _=>⟨rfl,rfl,rfl,rfl⟩⟩
theorem ld(hg:Good C)(hb:C.η id=some b)(hn:b.nilp=false)(ho:o+vs.length<=b.cs.length)(hl:xs.length=vs.length)(hv:∀i (h:i<vs.length) (h':i<xs.length),VR C vs[i] xs[i]):Good (C.store id b o vs xs):=by
 have he:=kz (C:=C) (id:=id) (b:=b) (o:=o) (vs:=vs) (xs:=xs) hg hb hn
 have h0:∀{id' b'},(C.store id b o vs xs).η id'=some b'->(id'=id/\b'={b with cs:=bg b.cs o vs})\/(id'≠id/\C.η id'=some b'):=by
  intro id' b' hb';simp only[Ctx.store]at hb';by_cases e:id'=id;subst e;rw[am]at hb';cases hb';exact .inl ⟨rfl,rfl⟩;rw[aq _ _ e]at hb';exact .inr ⟨e,hb'⟩
 have h6:∀{id' b'},(C.store id b o vs xs).η id'=some b'->b'.kind≠1->C.live id':=by
  intro id' b' hb' h5;rcases h0 hb' with⟨rfl,rfl⟩|⟨_,h⟩;exact⟨b,hb,di hn⟩;exact⟨b',h,h5⟩
 refine⟨?_,?_,?_,?_,?_,?_,?_⟩;intro id' b' hb';rcases h0 hb' with⟨rfl,rfl⟩|⟨e,hb'⟩;exact hg.used hb;exact hg.used hb';intro id' b' hb' h5;rcases h0 hb' with⟨rfl,rfl⟩|⟨e,hb'⟩;rw[show Blk.kind {b with cs:=bg b.cs o vs}=0 from dj hn]at h5;cases h5;obtain⟨ob,h1,h2⟩:=hg.obj hb' h5;exact⟨ob,(ia _ _ _ _ _ (fun e'=>e (hg.inj ⟨b',hb',by rw[h5];decide⟩ ⟨b,hb,di hn⟩ e'))).trans h1,h2.mono hg he⟩;intro id' b' hb' h5;rcases h0 hb' with⟨rfl,rfl⟩|⟨e,hb'⟩;obtain⟨c,t',h1,h2,h3,h4⟩:=hg.blk hb hn;refine⟨setR c ((C.ρ id').2+o) xs,t',mg xs C.w _ _ c t' h1,by rw[ju];exact h2,by rw[ju,dz ho];exact h3,?_⟩;show∀j (h:j<(bg b.cs o vs).length) (h':(C.ρ id').2+j<(setR c ((C.ρ id').2+o) xs).size),VR (C.store id' b o vs xs) (bg b.cs o vs)[j] (setR c ((C.ρ id').2+o) xs)[(C.ρ id').2+j]
 intro j h h';have hj:j<b.cs.length:=by rw[dz ho]at h;exact h
 have h7:(C.ρ id').2+j<c.size:=by omega
 by_cases hin:o<=j/\j<o+vs.length;obtain⟨i,rfl⟩:∃i,j=o+i:=⟨j-o,by omega⟩;have hi:i<vs.length:=by omega
 have e1:(bg b.cs o vs)[o+i]=vs[i]:=by have:(bg b.cs o vs)[o+i]? =vs[i]?:=(by simp only[bg];rw[List.getElem?_append_left (by simp;omega),List.getElem?_append_right (by simp;omega)];congr 1;simp;omega);rw[agu h,agu hi]at this;exact Option.some.inj this
 have e2:(setR c ((C.ρ id').2+o) xs)[(C.ρ id').2+(o+i)]? =xs[i]?:=by rw[<-Nat.add_assoc];exact ze xs c _ i (by omega) (by omega)
 have e3:(setR c ((C.ρ id').2+o) xs)[(C.ρ id').2+(o+i)]'h'=xs[i]'(by omega):=by have:=e2;rw[Array.getElem?_eq_getElem h',agu (by omega)]at this;exact Option.some.inj this
 rw[e1,e3];exact(hv i hi (by omega)).mono hg he
 have e1:(bg b.cs o vs)[j]=b.cs[j]:=by
  have:(bg b.cs o vs)[j]? =b.cs[j]?:=by
   simp only[bg];by_cases h9:j<o;rw[List.getElem?_append_left (by simp;omega),List.getElem?_append_left (by simp;omega)];rw[List.getElem?_take_of_lt h9];rw[List.getElem?_append_right (by simp;omega),List.getElem?_drop];congr 1;simp;omega
  rw[agu h,agu hj]at this;exact Option.some.inj this
 have e3:(setR c ((C.ρ id').2+o) xs)[(C.ρ id').2+j]'h'=c[(C.ρ id').2+j]:=by have:=qo xs c ((C.ρ id').2+o) ((C.ρ id').2+j) (by omega);rw[Array.getElem?_eq_getElem h',Array.getElem?_eq_getElem h7]at this;exact Option.some.inj this
 rw[e1,e3];exact(h4 j hj h7).mono hg he;obtain⟨c,t',h1,h2,h3,h4⟩:=hg.blk hb' h5;exact⟨c,t',(ia _ _ _ _ _ (fun e'=>e (hg.inj ⟨b',hb',di h5⟩ ⟨b,hb,di hn⟩ e'))).trans h1,h2,h3,fun j h h'=>(h4 j h h').mono hg he⟩;rintro i i' ⟨b1,ha,hc⟩ ⟨b2,hd,hf⟩ h;exact hg.inj (h6 ha hc) (h6 hd hf) h;refine hg.tokE he.toFr0 fun k hk=>have:=hg.tlt (k:=k) hk;?_
 simp only[Ctx.store];rw[(d8 _ _ _ _).2.2.2];exact this;rintro k ⟨i,⟨b',hb',h5⟩,hk⟩ hT;exact hg.apart ⟨i,h6 hb' h5,hk⟩ hT;intro id' b' hb' h8 h5;rcases h0 hb' with⟨rfl,rfl⟩|⟨e,hb'⟩;have:=hg.tight hb h8 hn
 show C.sz id'=(C.ρ id').2+(bg b.cs o vs).length;rw[dz ho];exact this;exact hg.tight hb' h8 h5
end
def ap(P:Program)(t:Nat):Option Nat:=(P.info? t).map (·.size)
def bi(P:Program)(t:Nat):Option Value:=(P.info? t).bind (·.zero)
theorem Bm{P:Program}{t n b o:Nat}{w:World}{x:Value}(hs:ap P t=some n)(hn:x.cells.size=n)(h1:∀v∈x.cells.toList,v.oneCell'=true)
 (hc:∀j,j<n->(w.cell? ⟨b,o+j,none⟩).isSome=true)(hf:∀j,j<n->w.frozen? ⟨b,o+j,none⟩=false):
 (Instr.storeAt t (.pointer (some ⟨b,o,none⟩)) x).run P w=.ok () (w.setCells b o x.cells.toList):=by
 unfold ap at hs
 cases hi:P.info? t with
 |none=>rw[hi]at hs;cases hs
 |some inf=>
  rw[hi]at hs
  simp only[ahp,agw]at hs
  have:=run_storeCells_cells (P:=P) b o x.cells.toList 0 w (fun j hj=>by simpa using hc j (by simp at hj;omega)) (fun j hj=>by simpa using hf j (by simp at hj;omega)) h1
  simp only[Nat.add_zero]at this
  simp[Instr.storeAt,Instr.sureAddr,storeVar,sizeOf,typeInfo,hi,hs,hn,this]
section
variable{P:Program}{τ:Nat->AV}{η:bf}{d:Option Tmp}{ty:TypeId}{pos:String}{af:Array Edge}{g:Option (Nat×Bool)}
theorem LOp.store{t n:Nat}{x y:Operand}{id ver o:Nat}{b:Blk}(hs:ap P t=some n)(hx:aev τ x=.ptr id ver o)(hb:η id=some b)(hv:b.ver=ver)(hn:b.nilp=false)
 (hk:(aev τ y).known=true)(hl:(aev τ y).cells.length=n)(h1:(aev τ y).cells.all AV.one=true)(hc:o+n<=b.cs.length):
 LOp P ⟨d,.store t x y,ty,pos,af,g⟩ τ η [id] [(id,some {b with cs:=bg b.cs o (aev τ y).cells})] (.v undef):=by
 intro C a hg h4 h5 hnew K Q hK
 have hb':C.η id=some b:=(h5 id (by simp)).trans hb
 have e1:=h4 x (by simp[Op.operands])
 rw[hx]at e1
 have e2:=e1.ptr_inv hb' hv
 obtain⟨e3,e4⟩:=(h4 y (by simp[Op.operands])).cells hk
 generalize h6:a.eval y=yv at e3 e4
 obtain⟨c,t',g1,g2,g3,g4⟩:=hg.blk hb' hn
 have h0:∀j,j<n->(C.w.cell? ⟨(C.ρ id).1,(C.ρ id).2+o+j,none⟩).isSome=true:=by intro j hj;have:(C.ρ id).2+o+j<c.size:=(by omega);simp[World.cell?,g1,this]
 have h2:∀v∈yv.cells.toList,v.oneCell'=true:=by intro v hm;obtain⟨i,hi,rfl⟩:=ahe hm;have h7:i<yv.cells.size:=(by simpa using hi);have:=(e4 i (by omega) h7).one (List.all_eq_true.1 h1 _ (agt _));simpa using this
 unfold Oper.wp
 simp only[execOp,e2,h6,Sem.run_bind,Bm hs (by omega) h2 h0 (fun j _=>by simp[World.frozen?,g1]),ahc,ahd]
 have h3:yv.cells.toList.length=(aev τ y).cells.length:=by simp;omega
 have:=hK undef (C.store id b o (aev τ y).cells yv.cells.toList) rfl (fun i=>by simp[Ctx.store];rintro rfl;exact hg.used hb') (ld hg hb' hn (by omega) h3 (fun i h h'=>by have:=e4 i h (by simpa using h');simpa using this))
  (kz hg hb' hn) (VR.v _ _)
 exact this
theorem vi(t:TypeId)(x:Value)(w:World):(newVar t x).run P w=.ok ⟨w.heap.size,0,none⟩ (w.alloc (.cells x.cells t)):=by rfl
theorem LOp.new_of{o:Oper}(u:Nat){v:AV}{t:Nat}(hk:v.known=true)
 (h:∀(C:Ctx) (a:Act),Good C->(∀x∈o.op.operands,VR C (aev τ x) (a.eval x))->∃x,VR C v x/\(execOp a.eval o).run P C.w=.ok (.value (.pointer (some ⟨C.w.heap.size,0,none⟩))) (C.w.alloc (.cells x.cells t))):
 LOp P o τ η [] [(u,some ⟨0,v.cells,0,false⟩)] (.ptr u 0 0):=by
 intro C a hg h1 _ h0 K Q hK
 have hu:¬C.U u:=h0 (u,some ⟨0,v.cells,0,false⟩) (by simp) (by simp)
 obtain⟨x,hv,hr⟩:=h C a hg h1
 obtain⟨e1,e2⟩:=hv.cells hk
 unfold Oper.wp
 rw[hr]
 refine hK _ (C.alloc u x.cells t ⟨0,v.cells,0,false⟩) rfl (fun i=>by simp[Ctx.alloc]) (cy hg hu rfl (Nat.le_of_eq e1) e2) (df hg hu rfl) ?_
 have h3:(C.alloc u x.cells t ⟨0,v.cells,0,false⟩).ρ u=(C.w.heap.size,0):=by simp[Ctx.alloc]
 have:=VR.ptr (C:=C.alloc u x.cells t ⟨0,v.cells,0,false⟩) (id:=u) (ver:=0) (off:=0) (b:=⟨0,v.cells,0,false⟩) (am _ _ _) rfl rfl
 rw[h3]at this
 exact this
theorem LOp.box(u:Nat){t:Nat}{x:Operand}(hk:(aev τ x).known=true):LOp P ⟨d,.box t x,ty,pos,af,g⟩ τ η [] [(u,some ⟨0,(aev τ x).cells,0,false⟩)] (.ptr u 0 0):=
 .new_of (t:=t) u hk fun C a hg h0=>⟨a.eval x,h0 x (by simp[Op.operands]),by simp[execOp,Instr.box,vi]⟩
theorem LOp.alloc(u:Nat){t:Nat}{z:Value}(hz:bi P t=some z):LOp P ⟨d,.alloc t,ty,pos,af,g⟩ τ η [] [(u,some ⟨0,(AV.v z).cells,0,false⟩)] (.ptr u 0 0):=
 .new_of (t:=t) u rfl fun C a hg hxs=>⟨z,VR.v C z,by
  unfold bi at hz
  cases hi:P.info? t with
  |none=>rw[hi]at hz;cases hz
  |some inf=>
   rw[hi]at hz
   simp only[ahq]at hz
   simp[execOp,Instr.alloc,zeroValue,typeInfo,hi,hz,vi]⟩
def mi(P:Program)(t:Nat):Option (List (Nat×Nat)):=match P.underlying t with
 |some (.struct fs)=>fs.toList.mapM fun f=>(P.info? f.type).map fun i=>(f.offset,i.size)
 |some (.array n e)=>(P.info? e).map fun i=>(List.range n).map fun k=>(k*i.size,i.size)
 |_=>none
def Ci(pl:List (Nat×Nat)):List AV->List (Nat×AV)->Option (List AV)
 |cells,[]=>some cells
 |cells,(i,v)::r=>match pl[i]? with
  |none=>none
  |some (off,size)=>bif v.known&&Nat.beq v.cells.length size&&Nat.ble (off+size) cells.length then Ci pl (bg cells off v.cells) r else none
theorem sp:∀(xs:List Value) (cs:Array Value) (o k:Nat),(xs.zipIdx k).foldl (fun cs (p:Value×Nat)=>cs.setIfInBounds (o+p.2) p.1) cs=setR cs (o+k) xs
 |[],_,_,_=>rfl
 |v::r,cs,o,k=>by simp only[List.zipIdx_cons,List.foldl_cons];rw[sp r _ o (k+1)];rfl
theorem VR.setR{C:Ctx}{cs vs:List AV}{ds:Array Value}{xs:List Value}{o:Nat}(h1:cs.length=ds.size)(h2:∀i (h:i<cs.length) (h':i<ds.size),VR C cs[i] ds[i])
 (h3:vs.length=xs.length)(h4:∀i (h:i<vs.length) (h':i<xs.length),VR C vs[i] xs[i])(ho:o+vs.length<=cs.length):
 (bg cs o vs).length=(setR ds o xs).size/\∀i (h:i<(bg cs o vs).length) (h':i<(Go.Proofs.YtmbmbhkemgmhfaaGreatDoor.setR ds o xs).size),VR C (bg cs o vs)[i] (Go.Proofs.YtmbmbhkemgmhfaaGreatDoor.setR ds o xs)[i]:=by
 refine⟨by rw[dz ho,ju];exact h1,fun i h h'=>?_⟩
 have hi:i<cs.length:=by rw[dz ho]at h;exact h
 by_cases hin:o<=i/\i<o+vs.length
 ·obtain⟨k,rfl⟩:∃k,i=o+k:=⟨i-o,by omega⟩
  have hk:k<vs.length:=by omega
  have e1:(bg cs o vs)[o+k]? =vs[k]?:=by
   simp only[bg]
   rw[List.getElem?_append_left (by simp;omega),List.getElem?_append_right (by simp;omega)]
   congr 1
   simp;omega
  have e2:=ze xs ds o k (by omega) (by omega)
  rw[agu h,agu hk]at e1
  rw[Array.getElem?_eq_getElem h',agu (by omega)]at e2
  rw[Option.some.inj e1,Option.some.inj e2]
  exact h4 k hk (by omega)
 ·have e1:(bg cs o vs)[i]? =cs[i]?:=by
   simp only[bg]
   by_cases h0:i<o
   ·rw[List.getElem?_append_left (by simp;omega),List.getElem?_append_left (by simp;omega),List.getElem?_take_of_lt h0]
   ·rw[List.getElem?_append_right (by simp;omega),List.getElem?_drop]
    congr 1
    simp;omega
  have e2:=qo xs ds o i (by omega)
  rw[agu h,agu hi]at e1
  rw[Array.getElem?_eq_getElem h',Array.getElem?_eq_getElem (by omega)]at e2
  rw[Option.some.inj e1,Option.some.inj e2]
  exact h2 i hi (by omega)
theorem ox{C:Ctx}{pl:List (Nat×Nat)}{place:Nat->Option (Nat×Nat)}(hp:∀i q,pl[i]? =some q->place i=some q):∀(ps:List (Nat×AV)) (xs:List (Nat×Value)) (cs:List AV) (ds:Array Value) (out:List AV),
 ps.map (·.1)=xs.map (·.1)->(∀i (h:i<ps.length) (h':i<xs.length),VR C ps[i].2 xs[i].2)->cs.length=ds.size->(∀i (h:i<cs.length) (h':i<ds.size),VR C cs[i] ds[i])->Ci pl cs ps=some out->
 ∃es,Instr.fill place ds xs=some es/\out.length=es.size/\∀i (h:i<out.length) (h':i<es.size),VR C out[i] es[i]
 |[],[],cs,ds,out,_,_,h1,h2,h=>by
  simp only[Ci,agw]at h
  subst h
  exact⟨ds,rfl,h1,h2⟩
 |[],x::r,_,_,_,h,_,_,_,_=>by simp at h
 |p::r,[],_,_,_,h,_,_,_,_=>by simp at h
 |(i,v)::r,(j,x)::r',cs,ds,out,hm,hv,h1,h2,h=>by
  simp only[ahh,List.cons.injEq]at hm
  obtain⟨rfl,hm⟩:=hm
  simp only[Ci]at h
  cases h0:pl[i]? with
  |none=>rw[h0]at h;cases h
  |some q=>
   obtain⟨off,size⟩:=q
   rw[h0]at h
   simp only at h
   cases hc:(v.known&&Nat.beq v.cells.length size&&Nat.ble (off+size) cs.length)with
   |false=>rw[hc]at h;cases h
   |true=>
    rw[hc]at h
    simp only[cond_true]at h
    simp only[ahs]at hc
    obtain⟨⟨hk,hl⟩,h3⟩:=hc
    have hl':=agv hl
    have hle':=aha h3
    obtain⟨e1,e2⟩:=(hv 0 (by simp) (by simp)).cells hk
    simp only[List.getElem_cons_zero]at e1 e2
    obtain⟨f1,f2⟩:=VR.setR (o:=off) h1 h2 (xs:=x.cells.toList) (vs:=v.cells) (by simp;omega) (fun i h h'=>by have:=e2 i h (by simpa using h');simpa using this) (by omega)
    obtain⟨es,g1,g2,g3⟩:=ox hp r r' _ _ out hm (fun i h h'=>by have:=hv (i+1) (by simpa using h) (by simpa using h');simpa using this) f1 f2 h
    refine⟨es,?_,g2,g3⟩
    simp only[Instr.fill,hp i _ h0]
    rw[ag1 (by simp;omega)]
    have h5:=sp x.cells.toList ds off 0
    simp only[Nat.add_zero]at h5
    rw[<-g1]
    congr 1
    rw[<-h5,<-Array.foldl_toList]
    simp only[Array.toList_zipIdx]
end
section
variable{P:Program}{τ:Nat->AV}{η:bf}{d:Option Tmp}{ty:TypeId}{pos:String}{af:Array Edge}{g:Option (Nat×Bool)}
def lw(τ:Nat->AV)(parts:Array (Nat×Operand)):List (Nat×AV):=parts.toList.map fun p=>(p.1,aev τ p.2)
theorem Bv{C:Ctx}{a:Act}{parts:Array (Nat×Operand)}(h:∀p∈parts.toList,VR C (aev τ p.2) (a.eval p.2)):
 (lw τ parts).map (·.1)=(parts.toList.map fun p=>(p.1,a.eval p.2)).map (·.1)/\∀i (h:i<(lw τ parts).length) (h':i<(parts.toList.map fun p=>(p.1,a.eval p.2)).length),VR C (lw τ parts)[i].2 (parts.toList.map fun p=>(p.1,a.eval p.2))[i].2:=by
 refine⟨by simp[lw,Function.comp_def],fun i hi hi'=>?_⟩
 simp only[lw,List.getElem_map]
 exact h _ (agt _)
theorem LOp.build{t:Nat}{parts:Array (Nat×Operand)}{z:Value}{pl:List (Nat×Nat)}{out:List AV}(hz:bi P t=some z)(hp:mi P t=some pl)(ho:Ci pl (AV.v z).cells (lw τ parts)=some out):
 LOp P ⟨d,.build t parts,ty,pos,af,g⟩ τ η [] [] (.agg out):=
 .look [] fun C a hg h1 _=>by
  obtain⟨e1,e2⟩:=Bv (τ:=τ) (C:=C) (a:=a) (parts:=parts) (fun p hp=>h1 p.2 (by simp[Op.operands];exact⟨_,by simpa using hp⟩))
  obtain⟨z1,z2⟩:=(VR.v C z).cells rfl
  have hb:∃es,P.built t (parts.map fun(i,x)=>(i,a.eval x)).toList=some es/\out.length=es.size/\∀i (h:i<out.length) (h':i<es.size),VR C out[i] es[i]:=by
   unfold mi at hp
   unfold bi at hz
   unfold Program.built
   cases hi:P.info? t with
   |none=>rw[hi]at hz;cases hz
   |some inf=>
    rw[hi]at hz
    simp only[ahq]at hz
    cases hu:P.underlying t with
    |none=>rw[hu]at hp;cases hp
    |some dd=>
     rw[hu]at hp
     cases dd<;>try(simp at hp;done)
     case struct fs=>
      simp only at hp ⊢
      rw[hz,hp]
      simp only
      obtain⟨es,g1,g2,g3⟩:=ox (C:=C) (pl:=pl) (place:=fun x=>pl.toArray[x]?) (fun i q h=>by simpa using h) _ (parts.toList.map fun p=>(p.1,a.eval p.2)) _ z.cells out e1 e2 z1 z2 ho
      exact⟨es,by simpa[Array.toList_map]using g1,g2,g3⟩
     case array n e=>
      simp only at hp ⊢
      cases h0:P.info? e with
      |none=>rw[h0]at hp;cases hp
      |some ie=>
       rw[h0]at hp
       simp only[ahp,agw]at hp
       rw[hz]
       simp only
       obtain⟨es,g1,g2,g3⟩:=ox (C:=C) (pl:=pl) (place:=fun i=>some (i*ie.size,ie.size)) (fun i q h=>by
        subst hp
        simp only[List.getElem?_map]at h
        cases hr:(List.range n)[i]? with
        |none=>rw[hr]at h;cases h
        |some k=>
         rw[hr]at h
         simp only[ahp,agw]at h
         obtain⟨_,rfl⟩:=ahn.1 hr
         simp only[List.getElem_range]at h
         rw[h]) _ (parts.toList.map fun p=>(p.1,a.eval p.2)) _ z.cells out e1 e2 z1 z2 ho
       exact⟨es,by simpa[Array.toList_map]using g1,g2,g3⟩
  obtain⟨es,g1,g2,g3⟩:=hb
  refine⟨.agg es,?_,.agg g2 g3⟩
  simp only[execOp,Sem.run_bind,run_build C.w t _ es g1,ahc,ahd]
def b6(z:Value)(n:Nat):List AV:=(List.range n).map fun i=>.v (z.cells[i%z.cells.size]!)
def r6(len s:Nat):List (Nat×Nat):=(List.range len).map fun k=>(k*s,s)
theorem Ch:∀(xs:List (Nat×Value)) (ds fs:Array Value) (pl:Nat->Option (Nat×Nat)),Instr.fill pl ds xs=some fs->fs.size=ds.size
 |[],ds,fs,pl,h=>by simp only[Instr.fill,agw]at h;rw[h]
 |(i,v)::r,ds,fs,pl,h=>by
  simp only[Instr.fill]at h
  cases hp:pl i with
  |none=>rw[hp]at h;cases h
  |some q=>
   obtain⟨off,size⟩:=q
   rw[hp]at h
   simp only at h
   split at h
   ·cases h
   ·have:=Ch r _ _ _ h
    rw[this,<-Array.foldl_toList,Array.toList_zipIdx]
    have h5:=sp v.cells.toList ds off 0
    exact(congrArg Array.size h5).trans (ju _ _ _)
theorem LOp.buildSlice(u:Nat){t e len s:Nat}{parts:Array (Nat×Operand)}{z:Value}{out:List AV}(he:P.underlying t=some (.slice e))(hs:ap P e=some s)(hz:bi P e=some z)(hl:Nat.ble (len*s) 16777216=true)(h7:Nat.ble len 16777216=true)(h6:Nat.beq (len*s) 0=false)
 (ho:Ci (r6 len s) (b6 z (len*s)) (lw τ parts)=some out):LOp P ⟨d,.buildSlice t len parts,ty,pos,af,g⟩ τ η [] [(u,some ⟨TV,out,s,false⟩)] (.sl u TV 0 len):=by
 intro C a hg h8 _ h2 K Q hK
 have hu:¬C.U u:=h2 (u,some ⟨TV,out,s,false⟩) (by simp) (by simp)
 obtain⟨e1,e2⟩:=Bv (τ:=τ) (C:=C) (a:=a) (parts:=parts) (fun p hp=>h8 p.2 (by simp[Op.operands];exact⟨_,by simpa using hp⟩))
 have hl':=aha hl
 have hl2':=aha h7
 unfold ap at hs
 unfold bi at hz
 cases hi:P.info? e with
 |none=>rw[hi]at hz;cases hz
 |some inf=>
  rw[hi]at hz hs
  simp only[ahq]at hz
  simp only[ahp,agw]at hs
  subst hs
  let base:Array Value:=(Array.range (len*inf.size)).map fun i=>z.cells[i%z.cells.size]!
  have z1:(b6 z (len*inf.size)).length=base.size:=by simp[b6,base]
  have z2:∀i (h:i<(b6 z (len*inf.size)).length) (h':i<base.size),VR C (b6 z (len*inf.size))[i] base[i]:=fun i h h'=>by
   simp only[b6,List.getElem_map,List.getElem_range,base,Array.getElem_map,Array.getElem_range];exact VR.v C _
  obtain⟨es,g1,g2,g3⟩:=ox (C:=C) (pl:=r6 len inf.size) (place:=fun i=>some (i*inf.size,inf.size)) (fun i q h=>by
   simp only[r6,List.getElem?_map]at h
   cases hr:(List.range len)[i]? with
   |none=>rw[hr]at h;cases h
   |some k=>
    rw[hr]at h
    simp only[ahp,agw]at h
    obtain⟨_,rfl⟩:=ahn.1 hr
    simp only[List.getElem_range]at h
    rw[h]) _ (parts.toList.map fun p=>(p.1,a.eval p.2)) _ base out e1 e2 z1 z2 ho
  have gsz:es.size=len*inf.size:=by
   rw[Ch _ _ _ _ g1];simp[base]
  have h1:(parts.map fun(i,x)=>(i,a.eval x)).toList=parts.toList.map fun p=>(p.1,a.eval p.2):=by simp[Array.toList_map]
  have h5:(execOp a.eval ⟨d,.buildSlice t len parts,ty,pos,af,g⟩).run P C.w=.ok (.value (.slice (some ⟨C.w.heap.size,0,none⟩) len len)) (C.w.alloc (.cells es e)):=by
   have h0:¬(len*inf.size=0):=fun e=>by rw[e]at h6;cases h6
   simp only[execOp,Instr.buildSlice,Sem.run_bind,run_underlying he,ahc,sizeOf,typeInfo,run_program,hi,ahd]
   rw[ag1 (by omega)]
   simp only[h0,if_false,zeroValue,typeInfo,Sem.run_bind,run_program,hi,ahd,ahc,hz]
   have:Instr.fill (fun i=>some (i*inf.size,inf.size)) ((Array.range (len*inf.size)).map fun i=>z.cells[i%z.cells.size]!) (parts.map fun(i,x)=>(i,a.eval x)).toList=some es:=by rw[h1];exact g1
   simp only[this]
   rfl
  unfold Oper.wp
  rw[h5]
  refine hK _ (C.alloc u es e ⟨TV,out,inf.size,false⟩) rfl (fun i=>by simp[Ctx.alloc]) (cy hg hu rfl (Nat.le_of_eq g2) g3 (fun _=>g2.symm)) (df hg hu rfl) ?_
  have h3:(C.alloc u es e ⟨TV,out,inf.size,false⟩).ρ u=(C.w.heap.size,0):=by simp[Ctx.alloc]
  have h4:(C.alloc u es e ⟨TV,out,inf.size,false⟩).sz u=es.size:=by simp[Ctx.alloc]
  have:=VR.sl (C:=C.alloc u es e ⟨TV,out,inf.size,false⟩) (id:=u) (ver:=TV) (off:=0) (len:=len) (cap:=len) (b:=⟨TV,out,inf.size,false⟩) (am _ _ _) rfl rfl (ag8 _) (by unfold maxLen;omega) (by omega)
   (by rw[h3,h4,gsz];simp)
  rw[h3]at this
  exact this
theorem xa(u:Nat){t e s:Nat}(he:P.underlying t=some (.slice e))(hs:ap P e=some s):LOp P ⟨d,.buildSlice t 0 #[],ty,pos,af,g⟩ τ η [] [(u,some ⟨0,[],s,false⟩)] (.sl u 0 0 0):=by
 intro C a hg hxs _ h0 K Q hK
 have hu:¬C.U u:=h0 (u,some ⟨0,[],s,false⟩) (by simp) (by simp)
 unfold ap at hs
 cases hi:P.info? e with
 |none=>rw[hi]at hs;cases hs
 |some inf=>
  have h1:(execOp a.eval ⟨d,.buildSlice t 0 #[],ty,pos,af,g⟩).run P C.w=.ok (.value (.slice (some ⟨C.w.heap.size,0,none⟩) 0 0)) (C.w.alloc (.cells #[] e)):=by
   simp[execOp,Instr.buildSlice,run_underlying he,sizeOf,typeInfo,hi,Instr.fill,newRow]
   congr 2
   exact Array.eq_empty_of_size_eq_zero (by simp)
  unfold Oper.wp
  rw[h1]
  refine hK _ (C.alloc u #[] e ⟨0,[],s,false⟩) rfl (fun i=>by simp[Ctx.alloc]) (cy hg hu rfl (ag8 _) (fun j h=>by simp at h)) (df hg hu rfl) ?_
  exact VR.slz (C:=C.alloc u #[] e ⟨0,[],s,false⟩) (id:=u) (ver:=0) (off:=0) (b:=⟨0,[],s,false⟩) (am _ _ _) rfl rfl
theorem vj{t e s:Nat}{k:IntKind}{j len cap b o:Nat}{w:World}(he:P.underlying t=some (.slice e))(hs:ap P e=some s)(hj:j<len):
 (Instr.indexAt t (.slice (some ⟨b,o,none⟩) len cap) (.int k (Int.ofNat j))).run P w=.ok (.pointer (some ⟨b,o+j*s,none⟩)) w:=by
 unfold ap at hs
 cases hi:P.info? e with
 |none=>rw[hi]at hs;cases hs
 |some inf=>
  rw[hi]at hs
  simp only[ahp,agw]at hs
  subst hs
  have h0:(0:Int)<=Int.ofNat j/\Int.ofNat j<(len:Int):=⟨Int.natCast_nonneg j,by show(j:Int)<len;omega⟩
  simp[Instr.indexAt,asIntOf,run_underlying he,hj,sizeOf,typeInfo,hi,Addr.add_mid]
theorem lI{α:Type}{t e n:Nat}{x i:Operand}{k:IntKind}{f:α->List AV}{l:List α}{j:Nat}(he:P.underlying t=some (.slice e))(hs:ap P e=some n)(hx:aev τ x=.tree n (l.map f))(hi:aev τ i=.v (.int k (Int.ofNat j)))(hj:j<l.length):
 LOp P ⟨d,.indexAddr t x i,ty,pos,af,g⟩ τ η [] [] (.tp (f l[j]) 0):=
 .look [] fun C a hg h8 _=>by
  have h1:=h8 x (by simp[Op.operands])
  have h2:=h8 i (by simp[Op.operands])
  rw[hx]at h1
  rw[hi]at h2
  have h3:=h2.v_inv
  have h4:=h1.tree_inv
  generalize h9:a.eval x=xv at h4
  generalize h0:l.map f=xs at h4
  have h6:xs.length=l.length:=by rw[<-h0];simp
  cases h4 with
  |tree0 h=>simp at h6;omega
  |tree cell hT c1 c2 c3 c4 c5 c6=>
   rename_i b off cap
   have h5:j<xs.length:=by omega
   have h7:xs[j]=f l[j]:=by subst h0;simp
   refine⟨.pointer (some ⟨b,off+j*n,none⟩),?_,?_⟩
   ·simp only[execOp,h9,h3,Sem.run_bind,vj he hs h5,ahc,ahd]
   ·rw[<-h7]
    have:=TR.tp (T:=C.T) (w:=C.w) (cs:=xs[j]) (b:=b) (off:=off+j*n) (o:=0) (fun q=>cell j q) hT (fun q hq=>c5 j q h5 (by rw[<-c4 j h5];exact hq)) (fun q hq=>c6 j h5 q hq)
    rw[Nat.add_zero]at this
    exact .imm this
theorem me{t e n:Nat}{x i:Operand}{k:IntKind}{id ver off len j:Nat}{b:Blk}(he:P.underlying t=some (.slice e))(hs:ap P e=some n)(hx:aev τ x=.sl id ver off len)(hi:aev τ i=.v (.int k (Int.ofNat j)))(hj:j<len)
 (hb:η id=some b)(hv:b.ver=ver)(hn:b.nilp=false)(hz:b.esz=n):LOp P ⟨d,.indexAddr t x i,ty,pos,af,g⟩ τ η [id] [] (.ptr id ver (off+j*n)):=
 .look [id] fun C a hg h0 h4=>by have hb':C.η id=some b:=(h4 id (by simp)).trans hb;have h1:=h0 x (by simp[Op.operands]);have h2:=h0 i (by simp[Op.operands]);rw[hx]at h1;rw[hi]at h2;have h3:=h2.v_inv;obtain⟨ad,cap,e1,e2,e3,e4,e5⟩:=h1.sl_inv hb' hv hn;rcases e5 with⟨e5,_⟩|⟨rfl,e5⟩;omega;refine⟨.pointer (some ⟨(C.ρ id).1,(C.ρ id).2+(off+j*n),none⟩),?_,.ptr hb' hv hn⟩;simp only[execOp,e1,h3,Sem.run_bind,vj he hs hj,ahc,ahd,Nat.add_assoc]
theorem lT{α:Type}{t e n:Nat}{x:Operand}{f:α->List AV}{l:List α}{ats:Array TypeId}(ha:ats[0]? =some t)(he:P.underlying t=some (.slice e))(hx:aev τ x=.tree n (l.map f)):
 LOp P ⟨d,.call {callee:=.builtin .len,args:=#[x],argTypes:=ats},ty,pos,af,g⟩ τ η [] [] (.v (.int .i64 (l.length:Int))):=
 .look [] fun C a hg h5 _=>by
  have h1:=h5 x (by simp[Op.operands,Call.operands])
  rw[hx]at h1
  have h4:=h1.tree_inv
  generalize h3:a.eval x=xv at h4
  generalize h2:l.map f=xs at h4
  have h0:xs.length=l.length:=by rw[<-h2];simp
  refine⟨_,?_,VR.v C _⟩
  cases h4 with
  |tree0 h=>simp at h0;simp[execOp,h3,resolve,invoke,builtin,Builtin.len_,ha,run_underlying he,goInt,<-h0]
  |tree cell hT c1 c2 c3 c4 c5 c6=>simp[execOp,h3,resolve,invoke,builtin,Builtin.len_,ha,run_underlying he,goInt,h0]
theorem bo{t e:Nat}{x:Operand}{id ver off len:Nat}{b:Blk}{ats:Array TypeId}(ha:ats[0]? =some t)(he:P.underlying t=some (.slice e))(hx:aev τ x=.sl id ver off len)(hb:η id=some b)(hv:b.ver=ver):
 LOp P ⟨d,.call {callee:=.builtin .len,args:=#[x],argTypes:=ats},ty,pos,af,g⟩ τ η [id] [] (.v (.int .i64 (len:Int))):=
 .look [id] fun C a hg h3 h4=>by
  have hb':C.η id=some b:=(h4 id (by simp)).trans hb;have h1:=h3 x (by simp[Op.operands,Call.operands])
  rw[hx]at h1;refine⟨_,?_,VR.v C _⟩;cases hn:b.nilp with
  |false=>
   obtain⟨ad,cap,e1,_⟩:=h1.sl_inv hb' hv hn
   simp[execOp,e1,resolve,invoke,builtin,Builtin.len_,ha,run_underlying he,goInt]
  |true=>
   generalize h5:a.eval x=xv at h1
   cases h1 with
   |imm h=>cases h
   |sl h0 _ h2=>rw[hb']at h0;cases h0;rw[hn]at h2;cases h2
   |slz h0 _ h2=>rw[hb']at h0;cases h0;rw[hn]at h2;cases h2
   |slnil=>simp[execOp,h5,resolve,invoke,builtin,Builtin.len_,ha,run_underlying he,goInt]
   |stales _ _ hs=>have:=hs b hb';omega
end
mutual
def AV.pureB:AV->Bool
 | .v _=>true
 | .tree _ _=>true
 | .tp _ _=>true
 | .unk=>true
 | .ptr _ _ _=>false
 | .mp _ _=>false
 | .it _ _=>false
 | .sl _ _ _ _=>false
 | .agg cs=>km cs
 | .tup cs=>km cs
 | .clo _ cs=>km cs
def km:List AV->Bool
 | []=>true
 |a :: r=>a.pureB&&km r
end
mutual
def AV.lowB(u:Nat):AV->Bool
 | .v _=>true
 | .tree _ _=>true
 | .tp _ _=>true
 | .unk=>true
 | .ptr id _ _=>si u id
 | .mp id _=>si u id
 | .it id _=>si u id
 | .sl id _ _ _=>si u id
 | .agg cs=>m9 u cs
 | .tup cs=>m9 u cs
 | .clo _ cs=>m9 u cs
def m9(u:Nat):List AV->Bool
 | []=>true
 |a :: r=>a.lowB u&&m9 u r
end
theorem oo:∀{cs:List AV} (_:km cs=true) (i:Nat) (h:i<cs.length),cs[i].pureB=true
 |a::r,h,0,_=>by simp only[km,ahs]at h;exact h.1
 |a::r,h,i+1,hi=>by simp only[km,ahs]at h;exact oo h.2 i (by simpa using hi)
theorem ac2{u:Nat}{cs:List AV}:m9 u cs=true↔∀a∈cs,a.lowB u=true:=by
 induction cs with
 |nil=>simp[m9]
 |cons a r ih=>simp[m9,ih]
theorem zy{u:Nat}{cs:List AV}(h:m9 u cs=true)(i:Nat)(hi:i<cs.length):cs[i].lowB u=true:=ac2.1 h _ (agt _)
theorem VR.pure{C:Ctx}{a:AV}{x:Value}(h:VR C a x)(hp:a.pureB=true):TR C.T C.w a x:=by
 induction h with
 |imm h=>exact h
 |agg hl _ ih=>exact .agg hl (fun i h h'=>ih i h h' (oo (by simpa[AV.pureB]using hp) i h))
 |tup hl _ ih=>exact .tup hl (fun i h h'=>ih i h h' (oo (by simpa[AV.pureB]using hp) i h))
 |clo hl _ ih=>exact .clo hl (fun i h h'=>ih i h h' (oo (by simpa[AV.pureB]using hp) i h))
 |_=>simp[AV.pureB]at hp
def TRs(T:Nat->Prop)(w:World)(as:List AV)(vs:Array Value):Prop:=as.length=vs.size/\∀i (h:i<as.length) (h':i<vs.size),TR T w as[i] vs[i]
def R4(T:Nat->Prop)(w:World)(ret:AV)(e:Ending)(w':World):Prop:=
 ∃x T',e=.returned x/\TR T' w' ret x/\(∀b,T b->T' b)/\(∀b,T' b->T b\/w.heap.size<=b)/\(∀b,T' b->b<w'.heap.size)/\Below w.heap.size w w'
def eu(P:Program)(f:FuncId)(args:List AV)(ret:AV):Prop:=
 ∀(T:Nat->Prop) (w:World) (vals:Array Value),TRs T w args vals->TOk T w->Calls P f vals w (R4 T w ret)
def bv(P:Program)(f:Nat):Bool:=match P.funcs[f]? with
 |some fn=>fn.body.isSome&&!(fn.name== "runtime.NumGoroutine")
 |none=>false
theorem d9{P:Program}{f:Nat}(h:bv P f=true)(args:Array Value)(w:World):(callFunc f args).run P w=.ok (.enter f args) w:=by
 unfold bv at h
 cases hf:P.funcs[f]? with
 |none=>rw[hf]at h;cases h
 |some fn=>
  rw[hf]at h
  simp only[ahs,Bool.not_eq_true',beq_eq_false_iff_ne]at h
  obtain⟨h1,h2⟩:=h
  cases hb:fn.body with
  |none=>rw[hb]at h1;cases h1
  |some c=>simp[callFunc,hf,h2,hb]
section
variable{P:Program}{τ:Nat->AV}{η:bf}{d:Option Tmp}{ty:TypeId}{pos:String}{af:Array Edge}{g:Option (Nat×Bool)}
def Ctx.after(C:Ctx)(T':Nat->Prop)(w':World):Ctx:={C with T:=T',w:=w'}
theorem cr{C:Ctx}(hg:Good C){k:Nat}(h:C.mine k):k<C.w.heap.size:=by obtain⟨id,hl,rfl⟩:=h;exact hg.lt hl
theorem jy{C:Ctx}(hg:Good C){T':Nat->Prop}{w':World}(hb:Below C.w.heap.size C.w w')(h1:∀b,C.T b->T' b)(h2:∀b,T' b->C.T b\/C.w.heap.size<=b):Ev C (C.after T' w') where
 os:=hb.os
 tape:=hb.tape
 output:=hb.output
 size:=hb.size
 keep:=fun k hk _=>hb.block k hk
 mine:=fun k hk=>.inl hk
 T:=h1
 Tnew:=fun k hk=>(h2 k hk).imp id .inr
 U:=fun _ h=>h
 old:=fun id b' _ hb'=>⟨b',hb',ag8 _,fun _=>⟨rfl,rfl,rfl,rfl⟩⟩
theorem po{C:Ctx}(hg:Good C){T':Nat->Prop}{w':World}(hb:Below C.w.heap.size C.w w')(h1:∀b,C.T b->T' b)(h2:∀b,T' b->C.T b\/C.w.heap.size<=b)(h3:∀b,T' b->b<w'.heap.size):Good (C.after T' w') where
 used:=hg.used
 obj:=fun{id b} hb' hk=>by obtain⟨o,h,ho⟩:=hg.obj hb' hk;exact⟨o,(hb.block _ (Array.getElem?_eq_some_iff.1 h).1).trans h,ho.mono hg (jy hg hb h1 h2)⟩
 blk:=fun{id b} hb' hn=>by obtain⟨c,t',g1,g2,g3,g4⟩:=hg.blk hb' hn;exact⟨c,t',(hb.block _ (Array.getElem?_eq_some_iff.1 g1).1).trans g1,g2,g3,fun j h h'=>(g4 j h h').mono hg (jy hg hb h1 h2)⟩
 inj:=hg.inj
 tight:=hg.tight
 tok:=hg.tokE (jy hg hb h1 h2).toFr0 h3
 apart:=fun{k} hk hT=>by rcases h2 k hT with h|h;exact hg.apart hk h;have:=cr hg hk;omega
theorem Rk{C:Ctx}{a:Act}{xs:Array Operand}(h:∀x∈xs,VR C (aev τ x) (a.eval x))(hp:km (xs.toList.map (aev τ))=true):TRs C.T C.w (xs.toList.map (aev τ)) (xs.map a.eval):=by refine⟨by simp,fun i hi hi'=>?_⟩;have hx:=oo hp i hi;simp only[List.getElem_map,Array.getElem_toList,Array.getElem_map]at hx ⊢;exact(h _ (Array.getElem_mem _)).pure hx
theorem LOp.of_call{o:Oper}{f:FuncId}{args:List AV}{ret:AV}{fp:List Nat}(hc:eu P f args ret)
 (h:∀(C:Ctx) (a:Act),Good C->(∀x∈o.op.operands,VR C (aev τ x) (a.eval x))->(∀id∈fp,C.η id=η id)->∃vals,TRs C.T C.w args vals/\(execOp a.eval o).run P C.w=.ok (.enter f vals) C.w):
 LOp P o τ η fp [] ret:=by
 intro C a hg h0 h3 _ K Q hK
 obtain⟨vals,h1,h2⟩:=h C a hg h0 h3
 unfold Oper.wp
 rw[h2]
 refine Calls.mono (hc C.T C.w vals h1 hg.tok) ?_
 rintro e w' ⟨x,T',rfl,hx,t1,t2,t3,hb⟩
 exact hK x (C.after T' w') rfl (fun id=>by simp[Ctx.after]) (po hg hb t1 t2 t3) (jy hg hb t1 t2) (.imm hx)
theorem LOp.call{f:FuncId}{xs:Array Operand}{ats:Array TypeId}{ret:AV}(hb:bv P f=true)(hp:km (xs.toList.map (aev τ))=true)(hc:eu P f (xs.toList.map (aev τ)) ret):
 LOp P ⟨d,.call {callee:=.value (.func f),args:=xs,argTypes:=ats},ty,pos,af,g⟩ τ η [] [] ret:=
 .of_call hc fun C a hg h0 _=>⟨xs.map a.eval,Rk (fun x hx=>h0 x (by simp[Op.operands,Call.operands];exact .inr (by simpa using hx))) hp,by have:execOp a.eval ⟨d,.call {callee:=.value (.func f),args:=xs,argTypes:=ats},ty,pos,af,g⟩=callFunc f (#[]++xs.map a.eval++#[]):=rfl;rw[this,d9 hb];simp⟩
def Ctx.mineOf(C:Ctx)(fp:List Nat)(k:Nat):Prop:=∃id∈fp,C.live id/\(C.ρ id).1=k
theorem bj{C:Ctx}{fp:List Nat}{k:Nat}(h:C.mineOf fp k):C.mine k:=by obtain⟨id,_,h1,h2⟩:=h;exact⟨id,h1,h2⟩
def FzP(fp:List Nat)(η:bf)(a r:AV):Prop:=∀C:Ctx,Good C->(∀id∈fp,C.η id=η id)->∀x,VR C a x->TR (fun b=>C.T b\/C.mineOf fp b) C.w r x
theorem FzP.pure{fp:List Nat}{η:bf}{a:AV}(h:a.pureB=true):FzP fp η a a:=fun C hg _ x hx=>(hx.pure h).mono (fun b hb=>.inl hb) (fun _ _=>rfl)
theorem FzP.mono{fp fp':List Nat}{η:bf}{a r:AV}(h:FzP fp η a r)(hs:∀i∈fp,i∈fp'):FzP fp' η a r:=fun C hg hη x hx=>(h C hg (fun id h0=>hη id (hs id h0)) x hx).mono (fun b hb=>hb.imp (fun h=>h) (fun⟨i,h1,h2⟩=>⟨i,hs i h1,h2⟩)) (fun _ _=>rfl)
theorem FzP.nil{fp:List Nat}{η:bf}{n:Nat}:FzP fp η (.v (.slice none 0 0)) (.tree n []):=fun C hg _ x hx=>by rw[hx.v_inv];exact .tree0 (by unfold maxLen;omega)
theorem FzP.agg{fp:List Nat}{η:bf}{cs ds:List AV}(hl:cs.length=ds.length)(h:∀i (h:i<cs.length) (h':i<ds.length),FzP fp η cs[i] ds[i]):FzP fp η (.agg cs) (.agg ds):=fun C hg hη x hx=>by obtain⟨vs,rfl,h1,h2⟩:=hx.agg_inv;exact .agg (by omega) (fun i hi h0=>h i (by omega) hi C hg hη _ (h2 i (by omega) h0))
theorem FzP.sl{fp:List Nat}{η:bf}{id ver off len:Nat}{b:Blk}{rows:List (List AV)}(h7:id∈fp)(hb:η id=some b)(hv:b.ver=ver)(hn:b.nilp=false)(hl:rows.length=len)(h6:∀k (h:k<rows.length),rows[k].length=b.esz)
 (hc:∀k (h:k<rows.length) j (h':j<rows[k].length),∃c,b.cs[off+k*b.esz+j]? =some c/\FzP fp η c rows[k][j]):FzP fp η (.sl id ver off len) (.tree b.esz rows):=fun C hg hη x hx=>by
 have hb':C.η id=some b:=(hη id h7).trans hb
 obtain⟨ad,cap,rfl,h1,h2,h3,h4⟩:=hx.sl_inv hb' hv hn
 subst hl
 by_cases h0:rows=[]
 ·subst h0;exact .tree0 h2
 have hpos:0<rows.length:=List.length_pos_iff.2 h0
 rcases h4 with⟨h4,_⟩|⟨rfl,h4⟩
 ·omega
 have h5:∀k j,k<rows.length->j<b.esz->∃y,C.w.cell? ⟨(C.ρ id).1,(C.ρ id).2+off+k*b.esz+j,none⟩=some y/\∀(hk:k<rows.length) (hj:j<rows[k].length),TR (fun b=>C.T b\/C.mineOf fp b) C.w rows[k][j] y:=by intro k j hk hj;obtain⟨c,g1,g2⟩:=hc k hk j (by rw[h6 k hk];exact hj);obtain⟨ha,hd⟩:=ahn.1 g1;obtain⟨y,hy,h8⟩:=hg.cell hb' hn ha;refine⟨y,by rw[<-hy];congr 2;omega,fun hk' hj'=>?_⟩;rw[hd]at h8;exact g2 C hg hη y h8
 let cell:Nat->Nat->Value:=fun k j=>if h:k<rows.length/\j<b.esz then Classical.choose (h5 k j h.1 h.2)else undef
 have h9:∀k j (hk:k<rows.length) (hj:j<b.esz),C.w.cell? ⟨(C.ρ id).1,(C.ρ id).2+off+k*b.esz+j,none⟩=some (cell k j)/\∀(hk:k<rows.length) (hj:j<rows[k].length),TR (fun b=>C.T b\/C.mineOf fp b) C.w rows[k][j] (cell k j):=by intro k j hk hj;have hh:k<rows.length/\j<b.esz:=⟨hk,hj⟩;have e:cell k j=Classical.choose (h5 k j hk hj):=dif_pos hh;rw[e];exact Classical.choose_spec (h5 k j hk hj)
 exact .tree cell (.inr ⟨id,h7,⟨b,hb',di hn⟩,rfl⟩) h1 h2 h3 h6 (fun k j hk hj=>(h9 k j hk hj).1) (fun k hk j hj=>(h9 k j hk (by rw[<-h6 k hk];exact hj)).2 hk hj)
theorem LOp.of_callB{o:Oper}{f:FuncId}{args:List AV}{y:Value}{fp:List Nat}(hc:eu P f args (.v y))
 (h:∀(C:Ctx) (a:Act),Good C->(∀x∈o.op.operands,VR C (aev τ x) (a.eval x))->(∀id∈fp,C.η id=η id)->∃vals,TRs (fun b=>C.T b\/C.mine b) C.w args vals/\(execOp a.eval o).run P C.w=.ok (.enter f vals) C.w):
 LOp P o τ η fp [] (.v y):=by
 intro C a hg h0 h3 _ K Q hK
 obtain⟨vals,h1,h2⟩:=h C a hg h0 h3
 unfold Oper.wp
 rw[h2]
 refine Calls.mono (hc (fun b=>C.T b\/C.mine b) C.w vals h1 (hg.tokT (fun _ h=>.inl h) (fun b hb=>hb.elim (fun h=>hg.tlt h) (fun h=>cr hg h)))) ?_
 rintro e w' ⟨x,T',rfl,hx,t1,t2,t3,hb⟩
 have hT:∀b,C.T b->b<w'.heap.size:=fun b hb'=>Nat.lt_of_lt_of_le (hg.tlt hb') hb.size
 have:=hx.v_inv
 subst this
 exact hK x (C.after C.T w') rfl (fun id=>by simp[Ctx.after]) (po hg hb (fun _ h=>h) (fun _ h=>.inl h) hT) (jy hg hb (fun _ h=>h) (fun _ h=>.inl h)) (VR.v _ _)
theorem Oo{f:FuncId}{xs:Array Operand}{ats:Array TypeId}{y:Value}{args:List AV}(fp:List Nat)(hb:bv P f=true)(hl:xs.size=args.length)(hf:∀i (h:i<xs.size) (h':i<args.length),FzP fp η (aev τ xs[i]) args[i])(hc:eu P f args (.v y)):
 LOp P ⟨d,.call {callee:=.value (.func f),args:=xs,argTypes:=ats},ty,pos,af,g⟩ τ η fp [] (.v y):=
 .of_callB hc fun C a hg h0 hη=>⟨xs.map a.eval,⟨by simp;omega,fun i h h'=>by
  simp only[Array.getElem_map]
  have h'':i<xs.size:=by simpa using h'
  exact(hf i h'' h C hg hη _ (h0 _ (by simp[Op.operands,Call.operands]))).mono (fun b hb=>hb.imp (fun h=>h) bj) (fun _ _=>rfl)⟩,by
  have:execOp a.eval ⟨d,.call {callee:=.value (.func f),args:=xs,argTypes:=ats},ty,pos,af,g⟩=callFunc f (#[]++xs.map a.eval++#[]):=rfl
  rw[this,d9 hb]
  simp⟩
end
def b7(args:List AV):Nat->AV:=fun t=>args.getD t (.v undef)
def m4:bf:=fun _=>none
def Og(P:Program)(N:Nat)(fn:Func)(s:St)(ret:AV):Prop:=
 ∀C a,SRel N C s a->∃x,(results fn a.tmps).run P C.w=.ok x C.w/\TR (fun b=>C.T b\/C.mine b) C.w ret x
theorem pB{P:Program}{f:FuncId}{fn:Func}{c:Code}{N:Nat}{args:List AV}{ret:AV}(hf:P.funcs[f]? =some fn)(hb:fn.body=some c)(hN:fn.ntmps=N)(hl:args.length<=N)
 (h:AWP P N c (fun e s'=>(e=.normal\/e=.ret)/\Og P N fn s' ret) ⟨b7 args,m4,0⟩):eu P f args ret:=by
 intro T w vals ⟨hlen,hv⟩ hT
 let C:Ctx:=⟨fun _=>(0,0),fun _=>0,m4,fun _=>False,T,w⟩
 have h5:∀k,¬C.mine k:=by rintro k ⟨_,⟨_,h,_⟩,_⟩;cases h
 have hg:Good C:={used:=fun h=>(by cases h),obj:=fun h=>(by cases h),blk:=fun h=>(by cases h),inj:=fun h _=>(by obtain⟨_,h,_⟩:=h;cases h),tok:=hT,apart:=fun h _=>h5 _ h,tight:=fun h=>(by cases h)}
 have hr:SRel N C ⟨b7 args,m4,0⟩ {tmps:=vals++Array.replicate (fn.ntmps-vals.size) undef,defers:=[]}:=by refine⟨hg,rfl,fun id h=>h.elim,rfl,by simp;omega,fun t=>?_⟩;simp only[Act.eval,b7];by_cases ht:t<args.length;have h1:args.getD t (.v undef)=args[t]:=(by simp[List.getD,ht]);have h2:(vals++Array.replicate (fn.ntmps-vals.size) undef).getD t undef=vals[t]'(by omega):=(by rw[Array.getD_eq_getD_getElem?,Array.getElem?_append_left (by omega)];simp[show t<vals.size by omega]);rw[h1,h2];exact .imm (hv t ht (by omega));have h1:args.getD t (.v undef)=.v undef:=(by simp[List.getD,List.getElem?_eq_none (Nat.le_of_not_lt ht)]);have h2:(vals++Array.replicate (fn.ntmps-vals.size) undef).getD t undef=undef:=(by rw[Array.getD_eq_getD_getElem?,Array.getElem?_append_right (by omega)];rw[Array.getElem?_replicate];split<;>rfl);rw[h1,h2];exact VR.v _ _
 refine calls_of_wp hf hb (Code.wp_mono ?_ (h C _ hr))
 rintro e a' w' ⟨s',C',⟨he,ho⟩,rfl,h4,h0⟩
 obtain⟨x,h1,h2⟩:=ho C' a' h4
 have h3:R4 T w ret (.returned x) C'.w:=by refine⟨x,fun b=>C'.T b\/C'.mine b,rfl,h2,fun b hb=>.inl (h0.T b hb),?_,?_,⟨h0.os,h0.tape,h0.output,h0.size,fun k hk=>h0.keep k hk (h5 k)⟩⟩;rintro b (hb|hb);rcases h0.Tnew b hb with h|h|h;exact .inl h;exact absurd h (h5 b);exact .inr h;rcases h0.mine b hb with h|h;exact absurd h (h5 b);exact .inr h;rintro b (hb|hb);exact h4.good.tlt hb;exact cr h4.good hb
 rcases he with rfl|rfl
 ·exact⟨h4.defers,x,h1,h3⟩
 ·exact⟨h4.defers,x,h1,h3⟩
theorem Og.tmp{P:Program}{N:Nat}{fn:Func}{s:St}{ret:AV}{t:Nat}(hr:fn.results=#[.tmp t])(h:∃fp,FzP fp s.η (s.τ t) ret):Og P N fn s ret:=by intro C a hs;obtain⟨fp,hf⟩:=h;refine⟨a.tmps.getD t undef,?_,(hf C hs.good (fun id _=>by rw[hs.η]) _ (hs.τ t)).mono (fun b hb=>hb.imp (fun h=>h) bj) (fun _ _=>rfl)⟩;simp[results,hr]
theorem Og.cell{P:Program}{N:Nat}{fn:Func}{s:St}{ret:AV}{t ty n id ver:Nat}{b:Blk}(hr:fn.results=#[.cell t ty])(ht:c9 P ty=some (some n))(hx:s.τ t=.ptr id ver 0)(hb:s.η id=some b)(hv:b.ver=ver)(hn:b.nilp=false)(hl:b.cs.length=n)
 (h:∃fp,FzP fp s.η (.agg b.cs) ret):Og P N fn s ret:=by
 intro C a hs
 obtain⟨fp,hf⟩:=h
 have hb':C.η id=some b:=by rw[hs.η];exact hb
 have h1:=hs.τ t
 rw[hx]at h1
 have h2:=h1.ptr_inv hb' hv
 simp only[Act.eval]at h2
 obtain⟨fcell,h5⟩:=d7 (n:=n) (p:=fun j y=>C.w.cell? ⟨(C.ρ id).1,(C.ρ id).2+j,none⟩=some y/\VR C (b.cs.getD j .unk) y) (fun j hj=>by
  obtain⟨y,hy,h6⟩:=hs.good.cell hb' hn (j:=j) (by omega)
  refine⟨y,hy,?_⟩
  have:b.cs.getD j .unk=b.cs[j]'(by omega):=by simp[List.getD,show j<b.cs.length by omega]
  rw[this];exact h6)
 have h4:((List.range n).map fcell).length=n:=by simp
 have h3:=mh (P:=P) ht (b:=(C.ρ id).1) (o:=(C.ρ id).2) (w:=C.w) h4 (fun j v hj=>by
  obtain⟨h7,he⟩:=ahn.1 hj
  simp only[List.getElem_map,List.getElem_range]at he
  subst he
  exact(h5 j (by simpa using h7)).1)
 refine⟨.agg ((List.range n).map fcell).toArray,?_,(hf C hs.good (fun id _=>by rw[hs.η]) _ (.agg (by simp;omega) (fun i hi hi'=>?_))).mono (fun b hb=>hb.imp (fun h=>h) bj) (fun _ _=>rfl)⟩
 ·have hh:(loadVar ty ⟨(C.ρ id).1,(C.ρ id).2+0,none⟩).run P C.w=.ok (.agg ((List.range n).map fcell).toArray) C.w:=by
   have:=h3
   simp only[Instr.loadAt,Instr.sureAddr,Sem.run_bind,ahd,ahc]at this
   rw[Nat.add_zero];exact this
  have h0:(results fn a.tmps).run P C.w=((asAddr (a.tmps.getD t undef)).run P C.w).andThen fun ad w₁=>(loadVar ty ad).run P w₁:=by
   simp only[results,hr]
   simp[Sem.run_bind,Result.andThen]
  rw[h0,h2]
  simp only[asAddr,ahd,ahc,hh]
 ·have h8:i<n:=by omega
  simp only[List.getElem_toArray,List.getElem_map,List.getElem_range]
  have:=(h5 i h8).2
  simpa[List.getD,show i<b.cs.length by omega]using this
def fL:List (Nat×AV)->Nat->AV
 |[]=>fun _=>.unk
 |p::r=>fun t=>bif Nat.beq t p.1 then p.2 else fL r t
def hLz:List (Nat×Blk)->bf
 |[]=>fun _=>none
 |p::r=>fun id=>bif Nat.beq id p.1 then some p.2 else hLz r id
def In(τ:Nat->AV)(u:Nat):List (Nat×AV)->Prop
 |[]=>True
 |p::r=>τ p.1=p.2/\p.2.lowB u=true/\In τ u r
def Im(η:bf)(u:Nat):List (Nat×Blk)->Prop
 |[]=>True
 |p::r=>η p.1=some p.2/\si u p.1=true/\m9 u p.2.cs=true/\Im η u r
structure Canon(s s1:St):Prop where
 τ:∀t,s1.τ t=.unk\/(s1.τ t=s.τ t/\(s.τ t).lowB s1.u=true)
 η:∀id b,s1.η id=some b->s.η id=some b/\(id<s1.u\/TOP<=id)/\m9 s1.u b.cs=true
theorem In.at{τ:Nat->AV}{u:Nat}:∀{l:List (Nat×AV)} (_:In τ u l) (t:Nat),fL l t=.unk\/(fL l t=τ t/\(τ t).lowB u=true)
 |[],_,_=>.inl rfl
 |p::r,⟨h1,h2,h3⟩,t=>by
  cases hb:Nat.beq t p.1 with
  |true=>
   have e:=agv hb
   right
   have e1:fL (p::r) t=p.2:=by simp[fL,hb]
   rw[e1,e,h1];exact⟨rfl,h2⟩
  |false=>
   have e1:fL (p::r) t=fL r t:=by simp[fL,hb]
   rw[e1];exact In.at h3 t
theorem Im.at{η:bf}{u:Nat}:∀{l:List (Nat×Blk)} (_:Im η u l) (id:Nat) (b:Blk),hLz l id=some b->η id=some b/\(id<u\/TOP<=id)/\m9 u b.cs=true
 |[],_,_,_,h=>by cases h
 |p::r,⟨h1,h2,h3,h4⟩,id,b,h=>by
  cases hb:Nat.beq id p.1 with
  |true=>
   have e:=agv hb
   have e1:hLz (p::r) id=some p.2:=by simp[hLz,hb]
   rw[e1]at h
   cases h
   rw[e]
   exact⟨h1,aag.1 h2,h3⟩
  |false=>
   have e1:hLz (p::r) id=hLz r id:=by simp[hLz,hb]
   rw[e1]at h
   exact Im.at h4 id b h
theorem cO{s:St}{fl:List (Nat×AV)}{hl:List (Nat×Blk)}{u:Nat}(h1:In s.τ u fl)(h2:Im s.η u hl):Canon s ⟨fL fl,hLz hl,u⟩:=⟨h1.at,h2.at⟩
theorem VR.canon{C C':Ctx}{u:Nat}(hρ:C'.ρ=C.ρ)(h7:C'.sz=C.sz)(hT:C'.T=C.T)(hw:C'.w=C.w)(hU:∀id,C.U id->(id<u\/TOP<=id)->C'.U id)(hη:∀id b,C'.η id=some b->C.η id=some b)(h0:∀{id b},C.η id=some b->C.U id){a:AV}{x:Value}(h:VR C a x)(hl:a.lowB u=true):VR C' a x:=by
 have st:∀{id ver:Nat},(∀b,C.η id=some b->ver<b.ver)->∀b,C'.η id=some b->ver<b.ver:=fun h b hb=>h b (hη _ b hb)
 have keep:∀{id:Nat} {b:Blk},C.η id=some b->C'.η id=some b\/C'.η id=none:=by
  intro id b hb
  cases h':C'.η id with
  |none=>exact .inr rfl
  |some b'=>have:=hη id b' h';rw[hb]at this;exact .inl this.symm
 induction h with
 |imm h=>exact .imm (by rw[hT,hw];exact h)
 |ptr hb he hn=>
  have h5:=aag.1 (by simpa only[AV.lowB]using hl)
  rcases keep hb with h'|h'
  ·rw[<-hρ];exact .ptr h' he hn
  ·exact .stalep rfl (hU _ (h0 hb) h5) (fun b hb'=>by rw[h']at hb';cases hb')
 |sl hb he hn h1 h2 h3 h4=>
  have h5:=aag.1 (by simpa only[AV.lowB]using hl)
  rcases keep hb with h'|h'
  ·rw[<-hρ];exact .sl h' he hn h1 h2 h3 (by rw[hρ,h7];exact h4)
  ·exact .stales rfl (hU _ (h0 hb) h5) (fun b hb'=>by rw[h']at hb';cases hb')
 |slz hb he hn=>
  have h5:=aag.1 (by simpa only[AV.lowB]using hl)
  rcases keep hb with h'|h'
  ·exact .slz h' he hn
  ·exact .stales rfl (hU _ (h0 hb) h5) (fun b hb'=>by rw[h']at hb';cases hb')
 |mp hb he hn=>
  have h5:=aag.1 (by simpa only[AV.lowB]using hl)
  rcases keep hb with h'|h'
  ·rw[<-hρ];exact .mp h' he hn
  ·exact .stalem rfl (hU _ (h0 hb) h5) (fun b hb'=>by rw[h']at hb';cases hb')
 |it hb he hn=>
  have h5:=aag.1 (by simpa only[AV.lowB]using hl)
  rcases keep hb with h'|h'
  ·rw[<-hρ];exact .it h' he hn
  ·exact .stalei rfl (hU _ (h0 hb) h5) (fun b hb'=>by rw[h']at hb';cases hb')
 |stalem h1 hu hs=>
  have h5:=aag.1 (by simpa only[AV.lowB]using hl)
  exact .stalem h1 (hU _ hu h5) (st hs)
 |stalei h1 hu hs=>
  have h5:=aag.1 (by simpa only[AV.lowB]using hl)
  exact .stalei h1 (hU _ hu h5) (st hs)
 |slnil hb he hn=>
  have h5:=aag.1 (by simpa only[AV.lowB]using hl)
  rcases keep hb with h'|h'
  ·exact .slnil h' he hn
  ·exact .stales rfl (hU _ (h0 hb) h5) (fun b hb'=>by rw[h']at hb';cases hb')
 |stalep h1 hu hs=>
  have h5:=aag.1 (by simpa only[AV.lowB]using hl)
  exact .stalep h1 (hU _ hu h5) (st hs)
 |stales h1 hu hs=>
  have h5:=aag.1 (by simpa only[AV.lowB]using hl)
  exact .stales h1 (hU _ hu h5) (st hs)
 |agg h6 _ ih=>exact .agg h6 (fun i h h'=>ih i h h' (zy (by simpa[AV.lowB]using hl) i h))
 |tup h6 _ ih=>exact .tup h6 (fun i h h'=>ih i h h' (zy (by simpa[AV.lowB]using hl) i h))
 |clo h6 _ ih=>exact .clo h6 (fun i h h'=>ih i h h' (zy (by simpa[AV.lowB]using hl) i h))
theorem ObjR.canon{C C':Ctx}{u:Nat}(hρ:C'.ρ=C.ρ)(h4:C'.sz=C.sz)(hT:C'.T=C.T)(hw:C'.w=C.w)(hU:∀id,C.U id->(id<u\/TOP<=id)->C'.U id)(hη:∀id b,C'.η id=some b->C.η id=some b)(h0:∀{id b},C.η id=some b->C.U id){cs:List AV}{o:Obj}(h:ObjR C cs o)(hl:m9 u cs=true):ObjR C' cs o:=by
 cases h with
 |map h3 hi=>
  refine .map h3 (fun i h1 h2=>⟨(hi i h1 h2).1,(hi i h1 h2).2.1.canon hρ h4 hT hw hU hη h0 ?_,(hi i h1 h2).2.2⟩)
  rename_i es entries clock
  have:=ac2.1 hl (.agg [.v es[i].1,es[i].2.1,.v (.int .i64 (Int.ofNat es[i].2.2))]) (by
   unfold i7
   exact List.mem_cons_of_mem _ (List.mem_cons_of_mem _ (ahj.2 ⟨es[i],agt _,rfl⟩)))
  simp only[AV.lowB,m9,ahs]at this
  exact this.2.1
 |siter=>exact .siter
 |miter0=>exact .miter0
 |miter hv=>
  refine .miter (hv.canon hρ h4 hT hw hU hη h0 ?_)
  exact ac2.1 hl _ (by unfold i6;simp)
theorem Canon.rel{N:Nat}{C:Ctx}{s s1:St}{a:Act}(h:Canon s s1)(hr:SRel N C s a):∃C',C'.w=C.w/\SRel N C' s1 a/\Fr C C':=by
 let C':Ctx:={C with η:=s1.η,U:=fun id=>C.U id/\(id<s1.u\/TOP<=id)};have hη:∀id b,C'.η id=some b->C.η id=some b:=fun id b hb=>by rw[hr.η];exact(h.η id b hb).1
 have h0:∀{id},C'.live id->C.live id:=fun⟨b,hb,hn⟩=>⟨b,hη _ b hb,hn⟩;have h4:∀{k},C'.mine k->C.mine k:=fun⟨id,hl,hk⟩=>⟨id,h0 hl,hk⟩
 have h6:∀{a:AV} {x:Value},VR C a x->a.lowB s1.u=true->VR C' a x:=fun hv hl=>VR.canon (C:=C) (C':=C') (u:=s1.u) rfl rfl rfl rfl (fun id hu h5=>⟨hu,h5⟩) hη hr.good.used hv hl;refine⟨C',rfl,⟨⟨by intro id b hb;exact⟨hr.good.used (hη id b hb),(h.η id b hb).2.1⟩,by intro id b hb hn;obtain⟨o,h1,h2⟩:=hr.good.obj (hη id b hb) hn;exact⟨o,h1,ObjR.canon (C:=C) (C':=C') (u:=s1.u) rfl rfl rfl rfl (fun id hu h5=>⟨hu,h5⟩) hη hr.good.used h2 (h.η id b hb).2.2⟩,by intro id b hb hn;obtain⟨c,t',g1,g2,g3,g4⟩:=hr.good.blk (hη id b hb) hn;exact⟨c,t',g1,g2,g3,fun j hj h7=>h6 (g4 j hj h7) (zy (h.η id b hb).2.2 j hj)⟩,by intro id id' h1 h2 h3;exact hr.good.inj (h0 h1) (h0 h2) h3,hr.good.tok,by intro k hk hT;exact hr.good.apart (h4 hk) hT,fun{id b} hb hv hn=>hr.good.tight (hη id b hb) hv hn⟩,rfl,fun id h8=>h8.2,hr.defers,hr.size,fun t=>?_⟩,⟨⟨rfl,rfl,rfl,ag8 _,fun _ _ _=>rfl,fun k hk=>.inl (h4 hk),fun _ h=>h,fun _ h=>.inl h⟩,fun id ht hu=>⟨⟨hu,.inr ht⟩,fun b' hb=>⟨b',hη id b' hb,ag8 _,fun _=>⟨rfl,rfl,rfl,rfl⟩⟩⟩⟩⟩;rcases h.τ t with h1|⟨h1,h2⟩;rw[h1];exact VR.unk _ _;rw[h1];exact h6 (hr.τ t) h2
section
variable{P:Program}{N:Nat}{Q:Exit->St->Prop}{s:St}
theorem AWP.canon{c:Code}{s1:St}(h:Canon s s1)(hc:AWP P N c Q s1):AWP P N c Q s:=by intro C a hr;obtain⟨C',hw,h0,hf⟩:=h.rel hr;have:=hc C' a h0;rw[hw]at this;refine Code.wp_mono ?_ this;rintro e a' w' ⟨s',C'',hq,h1,hr'',h2⟩;exact⟨s',C'',hq,h1,hr'',hf.trans h2⟩
end
structure Rec where
 fp:List Nat
 δ:List (Nat×Option Blk)
 v:AV
 u:Nat
def xj(o:Oper)(r:Rec)(s:St):St:=⟨j1 s.τ o.dst r.v,s.η.put r.δ,r.u⟩
def Xz(P:Program)(N:Nat)(ops:Array Oper)(o:Oper)(r:Rec)(s:St):Prop:=
 iv N ops o=true/\s.u<=r.u/\((m3 ops s.τ o=some true/\LOp P o s.τ s.η r.fp r.δ r.v/\zt r.fp r.δ s.u r.u=true)\/(m3 ops s.τ o=some false/\r.v=.v undef/\r.δ=[]/\r.fp=[]))
inductive Seq(P:Program)(N:Nat)(ops:Array Oper):List Oper->St->List Rec->St->Prop where
 |nil {s:St}:Seq P N ops [] s [] s
 |cons {o:Oper} {l:List Oper} {s s':St} {r:Rec} {rs:List Rec}:Xz P N ops o r s->Seq P N ops l (xj o r s) rs s'->Seq P N ops (o :: l) s (r :: rs) s'
theorem Seq.op{P:Program}{N:Nat}{ops:Array Oper}{o:Oper}{l:List Oper}{s s':St}{rs:List Rec}{fp:List Nat}{δ:List (Nat×Option Blk)}{v:AV}(u':Nat)(hL:LOp P o s.τ s.η fp δ v)(hw:m3 ops s.τ o=some true)(hd:iv N ops o=true)
 (hu:Nat.ble s.u u'=true)(hn:zt fp δ s.u u'=true)(h:Seq P N ops l ⟨j1 s.τ o.dst v,s.η.put δ,u'⟩ rs s'):Seq P N ops (o::l) s (⟨fp,δ,v,u'⟩::rs) s':=
 .cons ⟨hd,aha hu,.inl ⟨hw,hL,hn⟩⟩ h
theorem Seq.skip{P:Program}{N:Nat}{ops:Array Oper}{o:Oper}{l:List Oper}{s s':St}{rs:List Rec}(hw:m3 ops s.τ o=some false)(hd:iv N ops o=true)
 (h:Seq P N ops l ⟨j1 s.τ o.dst (.v undef),s.η,s.u⟩ rs s'):Seq P N ops (o::l) s (⟨[],[],.v undef,s.u⟩::rs) s':=
 .cons ⟨hd,ag8 _,.inr ⟨hw,rfl,rfl,rfl⟩⟩ h
def tw:List Oper->List Rec->Nat->St->St
 |o::l,r::rs,k+1,s=>tw l rs k (xj o r s)
 |_,_,_,s=>s
theorem nj(l:List Oper)(rs:List Rec)(s:St):tw l rs 0 s=s:=by cases l<;>cases rs<;>rfl
theorem vo(o:Oper)(l:List Oper)(r:Rec)(rs:List Rec)(k:Nat)(s:St):tw (o::l) (r::rs) (k+1) s=tw l rs k (xj o r s):=rfl
theorem vn(l:List Oper):∀(rs:List Rec) (k:Nat) (s:St) (o:Oper) (r:Rec),l[k]? =some o->rs[k]? =some r->tw l rs (k+1) s=xj o r (tw l rs k s):=by
 induction l with
 |nil=>intro rs k s o r h1;simp at h1
 |cons o' l ih=>
  intro rs k s o r h1 h2
  cases rs with
  |nil=>simp at h2
  |cons r' rs=>
   cases k with
   |zero=>
    simp only[List.getElem?_cons_zero,agw]at h1 h2
    rw[vo,nj,nj,h1,h2]
   |succ k=>
    rw[vo,vo]
    exact ih rs k _ o r (by simpa using h1) (by simpa using h2)
theorem Seq.facts{P:Program}{N:Nat}{ops:Array Oper}{l:List Oper}{s s':St}{rs:List Rec}(h:Seq P N ops l s rs s'):
 rs.length=l.length/\s'=tw l rs l.length s/\∀(k:Nat) (o:Oper) (r:Rec),l[k]? =some o->rs[k]? =some r->Xz P N ops o r (tw l rs k s):=by
 induction h with
 |nil=>exact⟨rfl,rfl,fun k o r h=>by simp at h⟩
 |cons hf _ ih=>
  obtain⟨h1,h2,h3⟩:=ih
  refine⟨by simp[h1],h2,fun k o r ho hr=>?_⟩
  cases k with
  |zero=>
   simp at ho hr
   subst ho;subst hr
   rw[nj];exact hf
  |succ k=>exact h3 k o r (by simpa using ho) (by simpa using hr)
def bu(o:Oper):List Nat:=(o.after.toList.filter (Region.binds .any ·)).map (·.on)
inductive Anc(ops:Array Oper):Nat->Nat->Prop where
 |on {k i:Nat} {o:Oper}:ops[k]? =some o->i∈bu o->Anc ops k i
 |up {k j i:Nat} {o:Oper}:ops[k]? =some o->j∈bu o->Anc ops j i->Anc ops k i
def nv(ms:List Nat):List Nat->Nat
 |[]=>0
 |i::r=>Nat.lor (Nat.lor (2^i) (ms.getD i 0)) (nv ms r)
def t7:List Oper->List Nat->List Nat
 |[],ms=>ms
 |o::l,ms=>t7 l (ms++[nv ms (bu o)])
theorem ye{ms:List Nat}:∀{l:List Nat} {i:Nat},(nv ms l).testBit i=true->∃j∈l,i=j\/(ms.getD j 0).testBit i=true
 |[],i,h=>by simp[nv]at h
 |j::r,i,h=>by have h':((2^j|||ms.getD j 0)|||nv ms r).testBit i=true:=h;rw[Nat.testBit_or,Nat.testBit_or,Nat.testBit_two_pow]at h';simp only[Bool.or_eq_true,aht]at h';rcases h' with(h1|h1)|h1;exact⟨j,by simp,.inl h1.symm⟩;exact⟨j,by simp,.inr h1⟩;obtain⟨q,hq,h2⟩:=ye h1;exact⟨q,by simp[hq],h2⟩
theorem nt{ops:Array Oper}:∀(l:List Oper) (ms:List Nat),(∀j (o:Oper),l[j]? =some o->ops[ms.length+j]? =some o)->(∀k i,(ms.getD k 0).testBit i=true->Anc ops k i)->∀k i,((t7 l ms).getD k 0).testBit i=true->Anc ops k i
 |[],_,_,h=>h
 |o::l,ms,hl,h=>by have ho:ops[ms.length]? =some o:=(by simpa using hl 0 o rfl);refine nt l (ms++[nv ms (bu o)]) (fun j o' hj=>by have:=hl (j+1) o' (by simpa using hj);simp only[agx,ahf,ahg];rw[show ms.length+(0+1)+j=ms.length+(j+1)by omega];exact this) (fun k i hk=>?_);by_cases e:k<ms.length;have:(ms++[nv ms (bu o)]).getD k 0=ms.getD k 0:=(by simp[List.getD,List.getElem?_append_left e]);rw[this]at hk;exact h k i hk;by_cases e2:k=ms.length;subst e2;have:(ms++[nv ms (bu o)]).getD ms.length 0=nv ms (bu o):=(by simp[List.getD]);rw[this]at hk;obtain⟨j,hj,rfl|h2⟩:=ye hk;exact .on ho hj;exact .up ho hj (h j i h2);have:(ms++[nv ms (bu o)]).getD k 0=0:=(by simp[List.getD,List.getElem?_eq_none (show(ms++[nv ms (bu o)]).length<=k by simp;omega)]);rw[this]at hk;simp at hk
def Hs(a b:List Nat):Bool:=a.all fun x=>!b.contains x
def N4(ops:Array Oper)(oi ok:Oper)(ri rk:Rec):Bool:=
 Oper.apart ops oi ok&&Hs (ri.δ.map (·.1)) rk.fp&&Hs (rk.δ.map (·.1)) ri.fp&&Hs (ri.δ.map (·.1)) (rk.δ.map (·.1))
def pn(ops:Array Oper)(rs:List Rec):Bool:=
 (List.range ops.size).all fun k=>match ops[k]?,rs[k]? with
  |some ok,some rk=>(bu ok).all (fun i=>Nat.ble (i+1) k)&&(match ok.op with|.select _ _=>false|_=>true)&&
   (List.range k).all fun i=>((t7 ops.toList []).getD k 0).testBit i||(match ops[i]?,rs[i]? with|some oi,some ri=>N4 ops oi ok ri rk|_,_=>false)
  |_,_=>false
section
variable(ops:List Oper)(rs:List Rec)
def Dn(k:Nat):Option Tmp:=(ops[k]?).bind (·.dst)
def vK(k:Nat):AV:=((rs[k]?).map (·.v)).getD .unk
def δK(k:Nat):List (Nat×Option Blk):=((rs[k]?).map (·.δ)).getD []
def ja:List (Nat×Option Blk)->Nat->Option (Option Blk)
 |[],_=>none
 |p::r,id=>match ja r id with
  |some b=>some b
  |none=>if p.1=id then some p.2 else none
theorem Gc:∀(δ:List (Nat×Option Blk)) (η:bf) (id:Nat),η.put δ id=(match ja δ id with|some b=>b|none=>η id)
 |[],_,_=>rfl
 |p::r,η,id=>by
  rw[bf.put,Gc r]
  simp only[ja]
  cases h:ja r id with
  |some b=>rfl
  |none=>
   simp only
   by_cases e:p.1=id
   ·subst e;simp[am]
   ·rw[aq _ _ (fun h=>e h.symm)];simp[e]
theorem l5:∀(δ:List (Nat×Option Blk)) (id:Nat),(ja δ id).isSome=true↔id∈δ.map (·.1)
 |[],id=>by simp[ja]
 |p::r,id=>by
  simp only[ja,ahh,ahk]
  have ih:=l5 r id
  cases h:ja r id with
  |some b=>rw[h]at ih;simp only[Option.isSome_some,true_iff]at ih ⊢;exact .inr ih
  |none=>
   rw[h]at ih
   simp only[Option.isSome_none,Bool.false_eq_true,false_iff]at ih
   by_cases e:p.1=id
   ·simp[e]
   ·have e':¬id=p.1:=fun h=>e h.symm
    simp only[e,if_false,Option.isSome_none,Bool.false_eq_true,e',false_or,false_iff]
    exact ih
def ud(s0:St)(S:Nat->Bool):Nat->Nat->AV
 |0,t=>s0.τ t
 |m+1,t=>if S m=true/\Dn ops m=some t then vK rs m else ud s0 S m t
def hval(s0:St)(S:Nat->Bool):Nat->bf
 |0,id=>s0.η id
 |m+1,id=>match(if S m then ja (δK rs m) id else none)with
  |some b=>b
  |none=>hval s0 S m id
variable{ops rs}
theorem na{s0:St}:∀(k:Nat),k<=ops.length->rs.length=ops.length->(tw ops rs k s0).τ=ud ops rs s0 (fun _=>true) k/\(tw ops rs k s0).η=hval rs s0 (fun _=>true) k
 |0,_,_=>by rw[nj];exact⟨rfl,rfl⟩
 |k+1,hk,hl=>by
  obtain⟨h1,h2⟩:=na (s0:=s0) k (by omega) hl
  have ho:ops[k]? =some (ops[k]'(by omega)):=agu (by omega)
  have hr:rs[k]? =some (rs[k]'(by omega)):=agu (by omega)
  rw[vn ops rs k s0 _ _ ho hr]
  constructor
  ·funext t
   have hd:Dn ops k=(ops[k]'(by omega)).dst:=by simp[Dn,ho]
   have hv:vK rs k=(rs[k]'(by omega)).v:=by simp[vK,hr]
   simp only[xj,ud,hd,hv,true_and]
   rw[h1]
   cases hdd:(ops[k]'(by omega)).dst with
   |none=>simp[j1]
   |some d=>
    simp only[j1,upd,agw]
    by_cases e:d=t
    ·subst e;simp
    ·have:Nat.beq t d=false:=by
      cases hb:Nat.beq t d with
      |false=>rfl
      |true=>exact absurd (agv hb).symm e
     simp[this,e]
  ·funext id
   have hd:δK rs k=(rs[k]'(by omega)).δ:=by simp[δK,hr]
   simp only[xj,hval,hd,if_true]
   rw[Gc,h2]
theorem rv{s0:St}{S:Nat->Bool}{t k:Nat}:∀m,(∀j,k<=j->j<k+m->¬(S j=true/\Dn ops j=some t))->ud ops rs s0 S (k+m) t=ud ops rs s0 S k t
 |0,_=>rfl
 |m+1,h=>by show(if S (k+m)=true/\Dn ops (k+m)=some t then vK rs (k+m)else ud ops rs s0 S (k+m) t)=_;rw[ag1 (h (k+m) (by omega) (by omega)),rv m (fun j h1 h2=>h j h1 (by omega))]
theorem qm{s0:St}{S S':Nat->Bool}{t:Nat}:∀k,(∀j,j<k->Dn ops j=some t->S j=S' j)->ud ops rs s0 S k t=ud ops rs s0 S' k t
 |0,_=>rfl
 |k+1,h=>by simp only[ud];rw[qm k (fun j hj=>h j (by omega))];by_cases e:Dn ops k=some t;rw[h k (by omega) e];simp[e]
theorem sn{s0:St}{S:Nat->Bool}{id k:Nat}:∀m,(∀j,k<=j->j<k+m->¬(S j=true/\id∈(δK rs j).map (·.1)))->hval rs s0 S (k+m) id=hval rs s0 S k id
 |0,_=>rfl
 |m+1,h=>by
  have h1:=h (k+m) (by omega) (by omega)
  show(match(if S (k+m)then ja (δK rs (k+m)) id else none)with|some b=>b|none=>hval rs s0 S (k+m) id)=_
  have:(if S (k+m)then ja (δK rs (k+m)) id else none)=none:=by
   cases hS:S (k+m)with
   |false=>rfl
   |true=>
    simp only[if_true]
    cases hl:ja (δK rs (k+m)) id with
    |none=>rfl
    |some b=>exact absurd ⟨hS,(l5 _ _).1 (by rw[hl];rfl)⟩ h1
  rw[this]
  exact sn m (fun j h1 h2=>h j h1 (by omega))
theorem qw{s0:St}{S S':Nat->Bool}{id:Nat}:∀k,(∀j,j<k->id∈(δK rs j).map (·.1)->S j=S' j)->hval rs s0 S k id=hval rs s0 S' k id
 |0,_=>rfl
 |k+1,h=>by
  simp only[hval]
  rw[qw k (fun j hj=>h j (by omega))]
  by_cases e:id∈(δK rs k).map (·.1)
  ·rw[h k (by omega) e]
  ·have:ja (δK rs k) id=none:=by
    cases hl:ja (δK rs k) id with
    |none=>rfl
    |some b=>exact absurd ((l5 _ _).1 (by rw[hl];rfl)) e
   simp[this]
end
def cf(f:Nat->Bool)(i:Nat):Nat->Bool:=fun k=>if k=i then true else f k
theorem oz{α:Type}{p q:α->Bool}:∀{l:List α} {x:α},x∈l->p x=true->q x=false->(∀y∈l,q y=true->p y=true)->l.countP q<l.countP p
 |y::l,x,hx,hp,hq,h=>by rcases ahk.1 hx with rfl|h0;rw[List.countP_cons_of_pos hp,List.countP_cons_of_neg (by simp[hq])];have:=List.countP_mono_left (l:=l) (fun z hz h1=>h z (by simp[hz]) h1);omega;have ih:=oz h0 hp hq (fun z hz=>h z (by simp[hz]));have hy:=h y (by simp);cases hqy:q y<;>cases hpy:p y<;>simp_all<;>omega
def dx(ops:Array Oper)(S:Nat->Bool):Prop:=∀(k:Nat) (o:Oper),ops[k]? =some o->S k=true->∀i∈bu o,S i=true
theorem dx.anc{ops:Array Oper}{S:Nat->Bool}(h:dx ops S){k i:Nat}(ha:Anc ops k i):(∀o,ops[k]? =some o->∀i∈bu o,S i=true)->S i=true:=by
 induction ha with
 |on ho hi=>exact fun hk=>hk _ ho _ hi
 |up ho hj _ ih=>exact fun hk=>ih (fun o' h0=>h _ o' h0 (hk _ ho _ hj))
theorem qh{a b:List Nat}(h:Hs a b=true){x:Nat}(ha:x∈a):x∉b:=by have:=List.all_eq_true.1 h x ha;simpa using this
section
variable{P:Program}{N:Nat}{l:List Oper}{rs:List Rec}{s s':St}
structure Pair(i j:Nat)(oi oj:Oper)(ri rj:Rec)(ops:Array Oper):Prop where
 d1:∀d,oi.dst=some d->d∉oj.looksAt ops
 d2:∀d,oi.dst=some d->oj.dst≠some d
 d3:∀d,oj.dst=some d->d∉oi.looksAt ops
 h1:∀x∈ri.δ.map (·.1),x∉rj.fp
 h2:∀x∈rj.δ.map (·.1),x∉ri.fp
 h3:∀x∈ri.δ.map (·.1),x∉rj.δ.map (·.1)
theorem Pair.of{i j:Nat}{oi oj:Oper}{ri rj:Rec}{ops:Array Oper}(h:N4 ops oi oj ri rj=true):Pair i j oi oj ri rj ops:=by unfold N4 at h;simp only[ahs]at h;obtain⟨⟨⟨h1,h2⟩,h3⟩,h4⟩:=h;obtain⟨a,b,c⟩:=Oper.apart_spec h1;exact⟨a,b,c,fun x hx=>qh h2 hx,fun x hx=>qh h3 hx,fun x hx=>qh h4 hx⟩
theorem Pair.symm{i j:Nat}{oi oj:Oper}{ri rj:Rec}{ops:Array Oper}(h:Pair i j oi oj ri rj ops):Pair j i oj oi rj ri ops:=
 ⟨h.d3,fun d hd he=>h.d2 d he hd,h.d1,h.h2,h.h1,fun x hx hy=>h.h3 x hy hx⟩
theorem yo(hc:pn l.toArray rs=true){i k:Nat}(h0:i<k)(hk:k<l.length){oi ok:Oper}{ri rk:Rec}(h3:l[i]? =some oi)(h4:l[k]? =some ok)(h5:rs[i]? =some ri)(h6:rs[k]? =some rk):
 Anc l.toArray k i\/Pair i k oi ok ri rk l.toArray:=by
 have h1:=List.all_eq_true.1 hc k (List.mem_range.2 (by simpa using hk))
 simp only[List.getElem?_toArray,h4,h6,ahs]at h1
 have h2:=List.all_eq_true.1 h1.2 i (List.mem_range.2 h0)
 simp only[h3,h5,Bool.or_eq_true]at h2
 rcases h2 with h2|h2
 ·left;exact nt _ _ (fun j o h=>by simpa using h) (fun k i h=>by simp at h) k i h2
 ·right;exact .of h2
theorem Ra(hc:pn l.toArray rs=true){k:Nat}(hk:k<l.length){ok:Oper}{rk:Rec}(h0:l[k]? =some ok)(h2:rs[k]? =some rk):(∀i∈bu ok,i<k)/\∀cs b,ok.op≠.select cs b:=by have h1:=List.all_eq_true.1 hc k (List.mem_range.2 (by simpa using hk));simp only[List.getElem?_toArray,h0,h2,ahs]at h1;refine⟨fun i hi=>aha (List.all_eq_true.1 h1.1.1 i hi),fun cs b e=>?_⟩;rw[e]at h1;simp at h1
theorem Bi(hc:pn l.toArray rs=true)(hlen:rs.length=l.length){S:Nat->Bool}(hS:dx l.toArray S){i:Nat}(hi:i<l.length){oi:Oper}{ri:Rec}(h1:l[i]? =some oi)(h2:rs[i]? =some ri)(h7:S i=false)(h0:∀j∈bu oi,S j=true)
 {j:Nat}(hj:j<l.length)(h8:j≠i){oj:Oper}{rj:Rec}(h3:l[j]? =some oj)(h4:rs[j]? =some rj):(j<i/\S j=true)\/(i<j/\S j=false)\/Pair i j oi oj ri rj l.toArray:=by
 rcases Nat.lt_or_gt_of_ne h8 with h5|h6
 ·rcases yo hc h5 hi h3 h1 h4 h2 with h|h
  ·left
   refine⟨h5,hS.anc h (fun o ho k hk=>?_)⟩
   simp only[List.getElem?_toArray]at ho
   rw[h1]at ho
   cases ho
   exact h0 k hk
  ·exact .inr (.inr h.symm)
 ·rcases yo hc h6 hj h1 h3 h2 h4 with h|h
  ·right;left
   refine⟨h6,?_⟩
   cases h9:S j with
   |false=>rfl
   |true=>
    have:=hS.anc h (fun o ho k hk=>hS j o ho h9 k hk)
    rw[h7]at this;cases this
  ·exact .inr (.inr h)
structure InS(P:Program)(N:Nat)(l:List Oper)(rs:List Rec)(s:St)(M:Nat)(C1:Ctx)(S:Nat->Bool)(C:Ctx)(a:Act):Prop where
 rel:SRel N C ⟨ud l rs s S l.length,hval rs s S l.length,M⟩ a
 closed:dx l.toArray S
 used:∀id,C.U id->(id<s.u\/TOP<=id)\/∃k,k<l.length/\S k=true/\id∈(δK rs k).map (·.1)
 fr:Fr C1 C
variable{ri:Rec}{oi:Oper}{i:Nat}{S:Nat->Bool}
theorem ip{k:Nat}{o:Oper}(h:l[k]? =some o):Dn l k=o.dst:=by simp[Dn,h]
theorem adm{k:Nat}{r:Rec}(h:rs[k]? =some r):vK rs k=r.v:=by simp[vK,h]
theorem ux{k:Nat}{r:Rec}(h:rs[k]? =some r):δK rs k=r.δ:=by simp[δK,h]
theorem Rj(hc:pn l.toArray rs=true)(h5:rs.length=l.length)(hS:dx l.toArray S)(hi:i<l.length)(h9:l[i]? =some oi)(ha:rs[i]? =some ri)(h6:S i=false)(h0:∀j∈bu oi,S j=true)
 {t:Nat}(ht:t∈oi.looksAt l.toArray):ud l rs s S l.length t=(tw l rs i s).τ t:=by
 have h7:=fun j (hj:j<l.length) (hb:j≠i)=>Bi hc h5 hS hi h9 ha h6 h0 hj hb (agu hj) (agu (show j<rs.length by omega))
 rw[(na i (by omega) h5).1]
 have e1:=rv (ops:=l) (rs:=rs) (s0:=s) (S:=S) (t:=t) (k:=i) (l.length-i) (fun j h1 h2 ⟨h3,h4⟩=>by have hj:j<l.length:=(by omega);by_cases e:j=i;subst e;rw[h6]at h3;cases h3;rcases h7 j hj e with⟨h,_⟩|⟨_,h⟩|h;omega;rw[h]at h3;cases h3;rw[ip (agu hj)]at h4;exact h.d3 t h4 ht)
 rw[show i+(l.length-i)=l.length by omega]at e1
 rw[e1]
 refine qm i (fun j hj hd=>?_)
 have h8:j<l.length:=by omega
 rcases h7 j h8 (by omega)with⟨_,h⟩|⟨h,_⟩|h
 ·exact h
 ·omega
 ·rw[ip (agu h8)]at hd
  exact absurd ht (h.d3 t hd)
theorem agm(hc:pn l.toArray rs=true)(h5:rs.length=l.length)(hS:dx l.toArray S)(hi:i<l.length)(h8:l[i]? =some oi)(h9:rs[i]? =some ri)(h6:S i=false)(h0:∀j∈bu oi,S j=true)
 {id:Nat}(ht:id∈ri.fp):hval rs s S l.length id=(tw l rs i s).η id:=by
 have h7:=fun j (hj:j<l.length) (ha:j≠i)=>Bi hc h5 hS hi h8 h9 h6 h0 hj ha (agu hj) (agu (show j<rs.length by omega))
 rw[(na i (by omega) h5).2]
 have e1:=sn (rs:=rs) (s0:=s) (S:=S) (id:=id) (k:=i) (l.length-i) (fun j h1 h2 ⟨h3,h4⟩=>by have hj:j<l.length:=(by omega);by_cases e:j=i;subst e;rw[h6]at h3;cases h3;rcases h7 j hj e with⟨h,_⟩|⟨_,h⟩|h;omega;rw[h]at h3;cases h3;rw[ux (agu (show j<rs.length by omega))]at h4;exact h.h2 id h4 ht)
 rw[show i+(l.length-i)=l.length by omega]at e1
 rw[e1]
 refine qw i (fun j hj hd=>?_)
 have hb:j<l.length:=by omega
 rcases h7 j hb (by omega)with⟨_,h⟩|⟨h,_⟩|h
 ·exact h
 ·omega
 ·rw[ux (agu (show j<rs.length by omega))]at hd
  exact absurd ht (h.h2 id hd)
theorem Vq(hc:pn l.toArray rs=true)(h6:rs.length=l.length)(hS:dx l.toArray S)(hi:i<l.length)(h7:l[i]? =some oi)(h8:rs[i]? =some ri)(ha:S i=false)(h0:∀j∈bu oi,S j=true):
 j1 (ud l rs s S l.length) oi.dst ri.v=ud l rs s (cf S i) l.length:=by
 have he:=fun j (hj:j<l.length) (h5:j≠i)=>Bi hc h6 hS hi h7 h8 ha h0 hj h5 (agu hj) (agu (show j<rs.length by omega))
 funext t
 by_cases hd:oi.dst=some t
 ·have e1:=rv (ops:=l) (rs:=rs) (s0:=s) (S:=cf S i) (t:=t) (k:=i+1) (l.length-(i+1)) (fun j h1 h2 ⟨h3,h4⟩=>by
   have hj:j<l.length:=by omega
   have h5:j≠i:=by omega
   simp only[cf,h5,if_false]at h3
   rcases he j hj h5 with⟨h,_⟩|⟨_,h⟩|h
   ·omega
   ·rw[h]at h3;cases h3
   ·rw[ip (agu hj)]at h4
    exact h.d2 t hd h4)
  rw[show i+1+(l.length-(i+1))=l.length by omega]at e1
  rw[e1]
  have e2:ud l rs s (cf S i) (i+1) t=ri.v:=by
   simp only[ud,ip h7,adm h8,cf,if_true,hd,and_self]
  rw[e2,hd]
  simp[j1,upd]
 ·have e1:j1 (ud l rs s S l.length) oi.dst ri.v t=ud l rs s S l.length t:=by
   cases hf:oi.dst with
   |none=>rfl
   |some d=>
    rw[hf]at hd
    have:Nat.beq t d=false:=by
     cases hb:Nat.beq t d with
     |false=>rfl
     |true=>exact absurd (by rw[agv hb]) hd
    simp[j1,upd,this]
  rw[e1]
  refine qm _ (fun j hj h9=>?_)
  by_cases e:j=i
  ·subst e;rw[ip h7]at h9;exact absurd h9 hd
  ·simp[cf,e]
theorem Vr(hc:pn l.toArray rs=true)(h6:rs.length=l.length)(hS:dx l.toArray S)(hi:i<l.length)(h9:l[i]? =some oi)(h7:rs[i]? =some ri)(ha:S i=false)(h0:∀j∈bu oi,S j=true):
 (hval rs s S l.length).put ri.δ=hval rs s (cf S i) l.length:=by
 have hb:=fun j (hj:j<l.length) (h5:j≠i)=>Bi hc h6 hS hi h9 h7 ha h0 hj h5 (agu hj) (agu (show j<rs.length by omega))
 funext id
 rw[Gc]
 by_cases hd:id∈ri.δ.map (·.1)
 ·have e1:=sn (rs:=rs) (s0:=s) (S:=cf S i) (id:=id) (k:=i+1) (l.length-(i+1)) (fun j h1 h2 ⟨h3,h4⟩=>by
   have hj:j<l.length:=by omega
   have h5:j≠i:=by omega
   simp only[cf,h5,if_false]at h3
   rcases hb j hj h5 with⟨h,_⟩|⟨_,h⟩|h
   ·omega
   ·rw[h]at h3;cases h3
   ·rw[ux (agu (show j<rs.length by omega))]at h4
    exact h.h3 id hd h4)
  rw[show i+1+(l.length-(i+1))=l.length by omega]at e1
  rw[e1]
  simp only[hval,ux h7,cf,if_true]
  have:=(l5 ri.δ id).2 hd
  cases hl:ja ri.δ id with
  |none=>rw[hl]at this;cases this
  |some b=>rfl
 ·have e1:ja ri.δ id=none:=by
   cases hl:ja ri.δ id with
   |none=>rfl
   |some b=>exact absurd ((l5 _ _).1 (by rw[hl];rfl)) hd
  rw[e1]
  refine qw _ (fun j hj h8=>?_)
  by_cases e:j=i
  ·subst e;rw[ux h7]at h8;exact absurd h8 hd
  ·simp[cf,e]
theorem So{Q:Prop}(hf:∀(k:Nat) (o:Oper) (r:Rec),l[k]? =some o->rs[k]? =some r->Xz P N l.toArray o r (tw l rs k s))(h0:rs.length=l.length):∀m k,k+m<=l.length->(tw l rs k s).u<=(tw l rs (k+m) s).u
 |0,_,_=>ag8 _
 |m+1,k,h=>by have ih:=So (Q:=Q) hf h0 m k (by omega);have ho:l[k+m]? =some (l[k+m]'(by omega)):=agu (by omega);have hr:rs[k+m]? =some (rs[k+m]'(by omega)):=agu (by omega);have e:tw l rs (k+(m+1)) s=xj (l[k+m]'(by omega)) (rs[k+m]'(by omega)) (tw l rs (k+m) s):=vn l rs (k+m) s _ _ ho hr;rw[e];have:=(hf _ _ _ ho hr).2.1;show _<=(rs[k+m]'(by omega)).u;omega
end
section
variable{P:Program}{N:Nat}{l:List Oper}{rs:List Rec}{s s':St}{Q:Exit->St->Prop}
theorem j9{C:Ctx}(hg:Good C):Good {C with w:=C.w.drew}/\Ev C {C with w:=C.w.drew}:=by have he:Ev C {C with w:=C.w.drew}:=⟨⟨rfl,rfl,rfl,ag8 _,fun _ _ _=>rfl,fun _ h=>.inl h,fun _ h=>h,fun _ h=>.inl h⟩,fun _ h=>h,fun id b' _ hb=>⟨b',hb,ag8 _,fun _=>⟨rfl,rfl,rfl,rfl⟩⟩⟩;refine⟨⟨hg.used,fun{id b} hb hk=>by obtain⟨o,h1,h2⟩:=hg.obj hb hk;exact⟨o,h1,h2.mono hg he⟩,fun{id b} hb hn=>?_,hg.inj,hg.tokE he.toFr0 (fun k hk=>hg.tlt hk),hg.apart,hg.tight⟩,he⟩;obtain⟨c,t',g1,g2,g3,g4⟩:=hg.blk hb hn;exact⟨c,t',g1,g2,g3,fun j h h'=>(g4 j h h').mono hg he⟩
theorem ka{ops:Array Oper}{τ τ':Nat->AV}{o:Oper}(h:∀t∈o.looksAt ops,τ t=τ' t):m3 ops τ o=m3 ops τ' o:=by
 unfold m3
 cases hg:o.guard with
 |none=>rfl
 |some p=>
  obtain⟨j,b⟩:=p
  simp only
  cases hj:(ops[j]?).bind (·.dst)with
  |none=>rfl
  |some d=>
   have hm:d∈o.looksAt ops:=by
    unfold Oper.looksAt
    rw[hg]
    simp[hj]
   simp only[h d hm]
theorem wv{ops:Array Oper}{τ τ':Nat->AV}{o:Oper}(h:∀t∈o.looksAt ops,τ t=τ' t){x:Operand}(hx:x∈o.op.operands):aev τ x=aev τ' x:=by
 cases x with
 |tmp t=>exact h t (by
  unfold Oper.looksAt
  refine List.mem_append_left _ (List.mem_filterMap.2 ⟨.tmp t,by simpa using hx,rfl⟩))
 |_=>rfl
theorem AWP.regionD{id:Nat}(hm:P.follows .mixedOrders=true)(gf:Seq P N l.toArray l s rs s')(hc:pn l.toArray rs=true)(h:Q .normal s'):AWP P N (.region id l.toArray true) Q s:=by
 obtain⟨h7,hy,hg⟩:=gf.facts
 intro C0 a0 hz
 obtain⟨go,g6⟩:=j9 hz.good
 generalize gg:({C0 with w:=C0.w.drew}:Ctx)=C1 at go g6
 have ha:∀k k',k<=k'->k'<=l.length->(tw l rs k s).u<=(tw l rs k' s).u:=fun k k' h1 h2=>by
  have:=So (Q:=True) hg h7 (k'-k) k (by omega)
  rwa [show k+(k'-k)=k' by omega]at this
 have gt:(tw l rs 0 s).u=s.u:=by rw[nj]
 have hM:s'.u=(tw l rs l.length s).u:=by rw[hy]
 have gh:∀k,k<l.length->l[k]? =some (l[k]!)/\rs[k]? =some (rs.getD k ⟨[],[],.unk,0⟩):=fun k hk=>by
  have:k<rs.length:=by omega
  constructor
  ·simp[hk]
  ·simp[List.getD,this]
 -- what an operation writes has small numbers
 have hδ:∀k o r,k<l.length->l[k]? =some o->rs[k]? =some r->∀id∈r.δ.map (·.1),id<(tw l rs (k+1) s).u\/TOP<=id:=by
  intro k o r hk ho hr id h8
  have hs:(tw l rs (k+1) s).u=r.u:=by rw[vn l rs k s o r ho hr];rfl
  rw[hs]
  obtain⟨_,hle,⟨_,_,hn⟩|⟨_,_,hd,_⟩⟩:=hg k o r ho hr
  ·obtain⟨p,hp,rfl⟩:=ahj.1 h8
   have h1:=List.all_eq_true.1 hn p hp
   simp only[Bool.or_eq_true,ahs]at h1
   rcases h1 with⟨_,h1⟩|⟨⟨_,h1⟩,_⟩
   ·have:=aag.1 h1;omega
   ·exact .inl (aha h1)
  ·rw[hd]at h8;simp at h8
 -- the end
 have g7:∀(li:Array Bool) (C:Ctx) (a:Act),li.size=l.length->InS P N l rs s s'.u C1 (fun k=>li.getD k false) C a->Region.ready .any l.toArray li=[]->
  ∃s'' C',Q .normal s''/\C'.w=C.w/\SRel N C' s'' a/\Fr C0 C':=by
  intro li C a hl h0 hr
  have g8:∀k,k<l.length->li.getD k false=true:=by
   intro k
   induction k using Nat.strongRecOn with
   |ind k ih=>
    intro hk
    cases gu:li.getD k false with
    |true=>rfl
    |false=>
     exfalso
     obtain⟨ho,g9⟩:=gh k hk
     have:k∈Region.ready .any l.toArray li:=by
      rw[mem_ready]
      have gi:k<li.size:=by omega
      refine⟨by simpa[Array.getD,gi]using gu,l[k]!,by simpa using ho,fun e he hb=>?_⟩
      have gj:e.on∈bu (l[k]!):=ahj.2 ⟨e,List.mem_filter.2 ⟨by simpa using he,hb⟩,rfl⟩
      have gk:=(Ra hc hk ho g9).1 e.on gj
      exact ih e.on gk (by omega)
     rw[hr]at this
     simp at this
  have e1:ud l rs s (fun k=>li.getD k false) l.length=s'.τ:=by
   rw[hy,(na l.length (ag8 _) h7).1]
   funext t
   exact qm _ (fun j hj _=>g8 j hj)
  have e2:hval rs s (fun k=>li.getD k false) l.length=s'.η:=by
   rw[hy,(na l.length (ag8 _) h7).2]
   funext id
   exact qw _ (fun j hj _=>g8 j hj)
  have h5:=h0.rel
  rw[e1,e2]at h5
  exact⟨s',C,h,rfl,h5,g6.toFr.trans h0.fr⟩
 have key:∀(fuel:Nat) (li:Array Bool) (C:Ctx) (a:Act),li.size=l.length->(List.range l.length).countP (fun k=>!li.getD k false)<=fuel->InS P N l rs s s'.u C1 (fun k=>li.getD k false) C a->
  wpAny P .any l.toArray (fun e a' w'=>∃s'' C',Q e s''/\C'.w=w'/\SRel N C' s'' a'/\Fr C0 C') fuel li a C.w:=by
  intro fuel
  induction fuel with
  |zero=>
   intro li C a hl ga h0
   have hr:Region.ready .any l.toArray li=[]:=by
    rw[List.eq_nil_iff_forall_not_mem]
    intro k hk
    rw[mem_ready]at hk
    obtain⟨h1,o,ho,_⟩:=hk
    have gi:k<l.length:=by have:=(Array.getElem?_eq_some_iff.1 ho).1;simpa using this
    have:=List.countP_eq_zero.1 (Nat.le_zero.1 ga) k (List.mem_range.2 gi)
    have gl:k<li.size:=by omega
    simp[Array.getD,gl]at this h1
    rw[this]at h1;cases h1
   exact⟨hr,g7 li C a hl h0 hr⟩
  |succ fuel ih=>
   intro li C a hl ga h0
   refine⟨g7 li C a hl h0,fun i hi=>?_⟩
   rw[mem_ready]at hi
   obtain⟨h1,oi,ho,gb⟩:=hi
   have hq:i<l.length:=by have:=(Array.getElem?_eq_some_iff.1 ho).1;simpa using this
   have gc:i<li.size:=by omega
   have g0:li.getD i false=false:=by simpa[Array.getD,gc]using h1
   have g1:l[i]? =some oi:=by simpa using ho
   obtain⟨_,hu⟩:=gh i hq
   generalize rs.getD i ⟨[],[],.unk,0⟩=ri at hu
   have h6:∀j∈bu oi,li.getD j false=true:=by
    intro j hj
    obtain⟨e,he,rfl⟩:=ahj.1 hj
    obtain⟨g6,gv⟩:=List.mem_filter.1 he
    exact gb e (by simpa using g6) gv
   have g2:(fun k=>(li.setIfInBounds i true).getD k false)=cf (fun k=>li.getD k false) i:=by
    funext k
    unfold cf
    by_cases e:k=i
    ·subst e;simp[Array.getD,gc]
    ·rw[ag1 e];exact getD_set_ne false (fun h=>e h.symm)
   have hh:(List.range l.length).countP (fun k=>!(li.setIfInBounds i true).getD k false)<=fuel:=by
    have gk:(List.range l.length).countP (fun k=>!(li.setIfInBounds i true).getD k false)<(List.range l.length).countP (fun k=>!li.getD k false):=by
     have e1:∀k,(li.setIfInBounds i true).getD k false=cf (fun k=>li.getD k false) i k:=fun k=>congrFun g2 k
     simp only[e1]
     refine oz (List.mem_range.2 hq) (by simp[g0]) (by simp[cf]) (fun k hk=>?_)
     simp only[cf]
     split<;>simp
    omega
   have h9:∀t∈oi.looksAt l.toArray,ud l rs s (fun k=>li.getD k false) l.length t=(tw l rs i s).τ t:=fun t ht=>Rj hc h7 h0.closed hq g1 hu g0 h6 ht
   have hf:dx l.toArray (cf (fun k=>li.getD k false) i):=by
    intro k o hk hs j hj
    unfold cf at hs ⊢
    by_cases e:j=i
    ·simp[e]
    ·rw[ag1 e]
     by_cases e1:k=i
     ·subst e1
      rw[ho]at hk
      cases hk
      exact h6 j hj
     ·rw[ag1 e1]at hs
      exact h0.closed k o hk hs j hj
   obtain⟨ge,hule,gd⟩:=hg i oi ri g1 hu
   have hτ:=Vq (s:=s) hc h7 h0.closed hq g1 hu g0 h6
   have hη:=Vr (s:=s) hc h7 h0.closed hq g1 hu g0 h6
   unfold wpOp
   simp only[ho]
   rcases gd with⟨hw,hL,hn⟩|⟨hw,hv,hδ0,hfp0⟩
   ·rw[ke (s:=⟨ud l rs s (fun k=>li.getD k false) l.length,hval rs s (fun k=>li.getD k false) l.length,s'.u⟩) ((ka h9).trans hw) h0.rel (iv.guard ge)]
    simp only[if_true]
    left
    refine hL C a h0.rel.good (fun x hx=>?_) (fun id h8=>?_) (fun p hp gw hU=>?_) _ _ fun x C' hη' gp gx gq gy=>?_
    ·rw[<-wv h9 hx];exact h0.rel.eval x
    ·rw[h0.rel.η];exact agm hc h7 h0.closed hq g1 hu g0 h6 h8
    ·have h2:=List.all_eq_true.1 hn p hp
     simp only[Bool.or_eq_true,ahs,List.contains_iff_mem]at h2
     have hlow:(tw l rs i s).u<=p.1/\p.1<TOP:=by
      rcases h2 with⟨h2,_⟩|⟨⟨h2,_⟩,h2t⟩
      ·exact absurd h2 gw
      ·exact⟨aha h2,aha h2t⟩
     have h0i:=ha 0 i (by omega) (by omega)
     rcases h0.used _ hU with h3|⟨k,hk,g5,g3⟩
     ·omega
     ·by_cases e:k=i
      ·subst e;rw[g0]at g5;cases g5
      ·obtain⟨gr,g9⟩:=gh k hk
       rw[ux g9]at g3
       rcases Bi hc h7 h0.closed hq g1 hu g0 h6 hk e gr g9 with⟨gk,_⟩|⟨_,h4⟩|h4
       ·have:=hδ k _ _ hk gr g9 p.1 g3
        have:=ha (k+1) i (by omega) (by omega)
        omega
       ·rw[h4]at g5;cases g5
       ·exact h4.h3 p.1 (List.mem_map_of_mem hp) g3
    ·have gm:∀id,C'.U id->id<s'.u\/TOP<=id:=by
      intro id h8
      rcases(gp id).1 h8 with h2|h2
      ·exact h0.rel.u id h2
      ·have:=hδ i oi ri hq g1 hu id h2
       have:=ha (i+1) l.length (by omega) (by omega)
       omega
     have h5:=h0.rel.put gq gx gm (iv.dst ge) gy
     rw[hη',h0.rel.η]at h5
     simp only at h5
     rw[hτ,hη]at h5
     refine ih _ C' _ (by simpa using hl) hh ?_
     rw[g2]
     refine⟨h5,hf,fun id h8=>?_,h0.fr.trans gq.toFr⟩
     rcases(gp id).1 h8 with h2|h2
     ·rcases h0.used id h2 with h3|⟨k,hk,g5,gn⟩
      ·exact .inl h3
      ·exact .inr ⟨k,hk,by simp only[cf];split<;>simp_all,gn⟩
     ·exact .inr ⟨i,hq,by simp[cf],by rw[ux hu];exact h2⟩
   ·rw[ke (s:=⟨ud l rs s (fun k=>li.getD k false) l.length,hval rs s (fun k=>li.getD k false) l.length,s'.u⟩) ((ka h9).trans hw) h0.rel (iv.guard ge)]
    simp only[Bool.false_eq_true,if_false]
    have h5:=h0.rel.put (Ev.refl C) h0.rel.good h0.rel.u (iv.dst ge) (VR.v C undef)
    rw[h0.rel.η]at h5
    simp only at h5
    rw[<-hv,hτ]at h5
    have hη2:hval rs s (fun k=>li.getD k false) l.length=hval rs s (cf (fun k=>li.getD k false) i) l.length:=by rw[<-hη,hδ0];rfl
    rw[hη2]at h5
    refine ih _ C _ (by simpa using hl) hh ?_
    rw[g2]
    refine⟨h5,hf,fun id h8=>?_,h0.fr⟩
    rcases h0.used id h8 with h3|⟨k,hk,g5,gn⟩
    ·exact .inl h3
    ·exact .inr ⟨k,hk,by simp only[cf];split<;>simp_all,gn⟩
 refine wp_region_any hm ?_
 have e0:(fun k=>(Array.replicate l.toArray.size false).getD k false)=fun _=>false:=by
  funext k;simp[Array.getD]
 have g4:InS P N l rs s s'.u C1 (fun _=>false) C1 a0:=by
  have e1:ud l rs s (fun _=>false) l.length=s.τ:=by
   have:∀m,ud l rs s (fun _=>false) m=s.τ:=by
    intro m
    induction m with
    |zero=>rfl
    |succ m ih=>funext t;simp[ud,ih]
   exact this _
  have e2:hval rs s (fun _=>false) l.length=s.η:=by
   have:∀m,hval rs s (fun _=>false) m=s.η:=by
    intro m
    induction m with
    |zero=>rfl
    |succ m ih=>funext t;simp[hval,ih]
   exact this _
  have h0n:=ha 0 l.length (by omega) (ag8 _)
  have gs:∀id,C1.U id->id<s.u\/TOP<=id:=by subst gg;exact hz.u
  refine⟨?_,fun k o _ hk=>(by cases hk),fun id h8=>.inl (gs id h8),Fr.refl _⟩
  rw[e1,e2]
  refine⟨go,?_,fun id h8=>?_,hz.defers,hz.size,fun t=>(hz.τ t).mono hz.good g6⟩
  ·subst gg;exact hz.η
  ·have:=gs id h8
   show id<s'.u\/TOP<=id
   rw[gt]at h0n
   omega
 have:=key l.toArray.size (Array.replicate l.toArray.size false) C1 a0 (by simp) (by
  have:=List.countP_le_length (p:=fun k=>!(Array.replicate l.toArray.size false).getD k false) (l:=List.range l.length)
  simpa using this) (by rw[e0];exact g4)
 have hw:C1.w={C0.w with drawn:=C0.w.drawn+1}:=by subst gg;rfl
 rw[hw]at this
 exact this
end
theorem In.nil{τ:Nat->AV}{u:Nat}:In τ u []:=trivial
theorem In.cons{τ:Nat->AV}{u t:Nat}{a:AV}{r:List (Nat×AV)}(h1:τ t=a)(h2:a.lowB u=true)(h3:In τ u r):In τ u ((t,a)::r):=⟨h1,h2,h3⟩
theorem Im.nil{η:bf}{u:Nat}:Im η u []:=trivial
theorem Im.cons{η:bf}{u id:Nat}{b:Blk}{r:List (Nat×Blk)}(h1:η id=some b)(h2:si u id=true)(h3:m9 u b.cs=true)(h4:Im η u r):Im η u ((id,b)::r):=⟨h1,h2,h3,h4⟩
section
variable{P:Program}{τ:Nat->AV}{η:bf}{d:Option Tmp}{ty:TypeId}{pos:String}{af:Array Edge}{g:Option (Nat×Bool)}{N:Nat}{Q:Exit->St->Prop}{s:St}
theorem lJ{t t':Nat}{x y:Operand}{m n:Int}(hx:aev τ x=.v (.int .i64 m))(hy:aev τ y=.v (.int .i64 n))(h1:-9223372036854775808<=m+n)(h2:m+n<=9223372036854775807):
 LOp P ⟨d,.binOp .add t x y t',ty,pos,af,g⟩ τ η [] [] (.v (.int .i64 (m+n))):=
 .look [] fun C a _ h0 _=>by have e1:=h0 x (by simp[Op.operands]);have e2:=h0 y (by simp[Op.operands]);rw[hx]at e1;rw[hy]at e2;refine⟨.int .i64 (m+n),?_,VR.v C _⟩;rw[<-IntWalk.i64_in (m+n) ⟨h1,h2⟩];simp only[execOp,e1.v_inv,e2.v_inv];rfl
theorem ur{t t':Nat}{x y:Operand}{m n:Int}(hx:aev τ x=.v (.int .i64 m))(hy:aev τ y=.v (.int .i64 n))(h1:-9223372036854775808<=m-n)(h2:m-n<=9223372036854775807):
 LOp P ⟨d,.binOp .sub t x y t',ty,pos,af,g⟩ τ η [] [] (.v (.int .i64 (m-n))):=
 .look [] fun C a _ h0 _=>by have e1:=h0 x (by simp[Op.operands]);have e2:=h0 y (by simp[Op.operands]);rw[hx]at e1;rw[hy]at e2;refine⟨.int .i64 (m-n),?_,VR.v C _⟩;rw[<-IntWalk.i64_in (m-n) ⟨h1,h2⟩];simp only[execOp,e1.v_inv,e2.v_inv];rfl
theorem Pb{τ:Nat->AV}{t:Nat}{a:AV}(h:τ t=a):upd τ t a=τ:=by grind[upd,Nat.beq,agv]
section
variable{ops:Array Oper}{l:List Oper}{K:St->Prop}{u:Nat}{op:Op}{rs:List Rec}{s':St}
theorem oL{d:Nat}{fp:List Nat}{v:AV}(hL:LOp P ⟨some d,op,ty,pos,af,g⟩ τ η fp [] v)(hw:m3 ops τ ⟨some d,op,ty,pos,af,g⟩=some true)(hd:iv N ops ⟨some d,op,ty,pos,af,g⟩=true)
 (h:A7 P N ops l K ⟨upd τ d v,η,u⟩):A7 P N ops (⟨some d,op,ty,pos,af,g⟩::l) K ⟨τ,η,u⟩:=
 A7.op (s:=⟨τ,η,u⟩) u hL hw hd (by simp[Nat.ble_eq]) rfl h
theorem By{u:Nat}{b:Option Blk}(h:Nat.ble (u+1) TOP=true):zt [] [(u,b)] u (u+1)=true:=by simp[zt,h]
theorem Lg{u u':Nat}(h:(Nat.beq u' (u+1)&&Nat.ble u' TOP)=true):u'=u+1/\Nat.ble (u+1) TOP=true:=by grind[agv]
theorem Lh{id u:Nat}{b:Option Blk}(h:si u id=true):zt [id] [(id,b)] u u=true:=by simp[zt,h]
theorem oW{d:Nat}{v:AV}{b:Option Blk}(hL:LOp P ⟨some d,op,ty,pos,af,g⟩ τ η [] [(u,b)] v)(hw:m3 ops τ ⟨some d,op,ty,pos,af,g⟩=some true)(hd:iv N ops ⟨some d,op,ty,pos,af,g⟩=true)(u':Nat)(hu:(Nat.beq u' (u+1)&&Nat.ble u' TOP)=true)
 (h:A7 P N ops l K ⟨upd τ d v,η.set u b,u'⟩):A7 P N ops (⟨some d,op,ty,pos,af,g⟩::l) K ⟨τ,η,u⟩:=by
 obtain⟨rfl,ht⟩:=Lg hu
 exact A7.op (s:=⟨τ,η,u⟩) (u+1) hL hw hd (by simp[Nat.ble_eq]) (By ht) h
def Xr(P:Program)(N:Nat)(ops:Array Oper)(l:List Oper)(K:List Rec->St->Prop)(s:St):Prop:=∃rs s',Seq P N ops l s rs s'/\K rs s'
end
def Bg:Nat->List AV->Option (List AV)
 |0,_=>some []
 |n+1,a::l=>match Bg n l with
  |some r=>some (a::r)
  |none=>none
 |_+1,[]=>none
def co:Nat->Nat->List AV->Option (List AV)
 |0,n,l=>Bg n l
 |o+1,n,_::l=>co o n l
 |_+1,_,[]=>none
theorem F2:∀(n:Nat) (l r:List AV),Bg n l=some r->n<=l.length/\r=l.take n
 |0,_,r,h=>by simp only[Bg,agw]at h;subst h;simp
 |n+1,a::l,r,h=>by
  simp only[Bg]at h
  cases hh:Bg n l with
  |none=>rw[hh]at h;cases h
  |some q=>
   rw[hh]at h
   simp only[agw]at h
   obtain⟨h1,h2⟩:=F2 n l q hh
   subst h;subst h2
   exact⟨by simp;omega,rfl⟩
 |_+1,[],_,h=>by cases h
theorem du:∀(o n:Nat) (l r:List AV),co o n l=some r->o+n<=l.length/\r=(l.drop o).take n
 |0,n,l,r,h=>by obtain⟨h1,h2⟩:=F2 n l r h;exact⟨by omega,by simpa using h2⟩
 |o+1,n,a::l,r,h=>by obtain⟨h1,h2⟩:=du o n l r h;exact⟨by simp;omega,by simpa using h2⟩
 |_+1,_,[],_,h=>by cases h
def X6:List AV->List AV->Option (List AV)
 |cs,[]=>some cs
 |_::cs,v::vs=>match X6 cs vs with
  |some r=>some (v::r)
  |none=>none
 |[],_::_=>none
def t6:Nat->List AV->List AV->Option (List AV)
 |0,cs,vs=>X6 cs vs
 |o+1,c::cs,vs=>match t6 o cs vs with
  |some r=>some (c::r)
  |none=>none
 |_+1,[],_=>none
theorem K0:∀(cs vs r:List AV),X6 cs vs=some r->vs.length<=cs.length/\r=vs++cs.drop vs.length
 |cs,[],r,h=>by simp only[X6,agw]at h;subst h;simp
 |c::cs,v::vs,r,h=>by
  simp only[X6]at h
  cases hh:X6 cs vs with
  |none=>rw[hh]at h;cases h
  |some q=>
   rw[hh]at h
   simp only[agw]at h
   obtain⟨h1,h2⟩:=K0 cs vs q hh
   subst h;subst h2
   exact⟨by simp;omega,rfl⟩
 |[],_::_,_,h=>by cases h
theorem qp:∀(o:Nat) (cs vs r:List AV),t6 o cs vs=some r->o+vs.length<=cs.length/\r=bg cs o vs
 |0,cs,vs,r,h=>by obtain⟨h1,h2⟩:=K0 cs vs r h;exact⟨by omega,by simpa[bg]using h2⟩
 |o+1,c::cs,vs,r,h=>by
  simp only[t6]at h
  cases hh:t6 o cs vs with
  |none=>rw[hh]at h;cases h
  |some q=>
   rw[hh]at h
   simp only[agw]at h
   obtain⟨h1,h2⟩:=qp o cs vs q hh
   subst h;subst h2
   refine⟨by simp;omega,?_⟩
   simp only[bg,List.take_succ_cons,List.cons_append]
   congr 2
   rw[show o+1+vs.length=o+vs.length+1 by omega];rfl
 |_+1,[],_,_,h=>by cases h
def jc:AV->Option (List AV)
 |.agg cs=>some cs
 |.v (.agg cs)=>some (cs.toList.map .v)
 |.unk=>none
 |.v x=>some [.v x]
 |.ptr a b c=>some [.ptr a b c]
 |.sl a b c d=>some [.sl a b c d]
 |.tree n xs=>some [.tree n xs]
 |.tp cs o=>some [.tp cs o]
 |.clo f cs=>some [.clo f cs]
 |.tup cs=>some [.tup cs]
 |.mp a b=>some [.mp a b]
 |.it a b=>some [.it a b]
theorem n8{a:AV}{cs:List AV}(h:jc a=some cs):a.known=true/\a.cells=cs:=by
 cases a with
 |v x=>cases x<;>simp[jc,AV.known,AV.cells]at h ⊢<;>exact h
 |unk=>cases h
 |_=>simp[jc,AV.known,AV.cells]at h ⊢;exact h
theorem Fh{d:Option Tmp}{c x y:Operand}{t:Bool}{a:AV}(hc:aev τ c=.v (.bool t))(ht:t=true)(hx:aev τ x=a):LOp P ⟨d,.pick c x y,ty,pos,af,g⟩ τ η [] [] a:=by grind[LOp.pick]
theorem Fi{d:Option Tmp}{c x y:Operand}{t:Bool}{a:AV}(hc:aev τ c=.v (.bool t))(ht:t=false)(hx:aev τ y=a):LOp P ⟨d,.pick c x y,ty,pos,af,g⟩ τ η [] [] a:=by grind[LOp.pick]
theorem Fk{t n:Nat}{x:Operand}{id ver o:Nat}{b:Blk}{ds:List AV}(ht:c9 P t=some (some n))(hx:aev τ x=.ptr id ver o)(hb:η id=some b)(hv:b.ver=ver)(hn:b.nilp=false)(hc:co o n b.cs=some ds):
 LOp P ⟨d,.load t x,ty,pos,af,g⟩ τ η [id] [] (.agg ds):=by
 obtain⟨h1,h2⟩:=du _ _ _ _ hc
 subst h2
 exact w9 ht hx hb hv hn h1
theorem A0{t n:Nat}{x:Operand}{cs:List AV}{o:Nat}{ds:List AV}(ht:c9 P t=some (some n))(hx:aev τ x=.tp cs o)(hc:co o n cs=some ds):LOp P ⟨d,.load t x,ty,pos,af,g⟩ τ η [] [] (.agg ds):=by obtain⟨h1,h2⟩:=du _ _ _ _ hc;subst h2;exact Jf ht hx h1
theorem LOp.st{t n:Nat}{x y:Operand}{id ver o w:Nat}{np:Bool}{cs vs ds:List AV}{ez:Nat}(hs:ap P t=some n)(hx:aev τ x=.ptr id ver o)(hb:η id=some ⟨w,cs,ez,np⟩)(hv:w=ver)(hn:np=false)
 (hk:jc (aev τ y)=some vs)(hl:vs.length=n)(h1:vs.all AV.one=true)(hc:t6 o cs vs=some ds):
 LOp P ⟨d,.store t x y,ty,pos,af,g⟩ τ η [id] [(id,some ⟨w,ds,ez,np⟩)] (.v undef):=by
 obtain⟨k1,k2⟩:=n8 hk
 obtain⟨k3,k4⟩:=qp _ _ _ _ hc
 subst k4;subst k2
 exact LOp.store (b:=⟨w,cs,ez,np⟩) hs hx hb hv hn k1 hl h1 (by simp only;omega)
theorem T8{u t:Nat}{x:Operand}{vs:List AV}(hk:jc (aev τ x)=some vs):LOp P ⟨d,.box t x,ty,pos,af,g⟩ τ η [] [(u,some ⟨0,vs,0,false⟩)] (.ptr u 0 0):=by obtain⟨k1,k2⟩:=n8 hk;subst k2;exact LOp.box u k1
theorem T9{u t:Nat}{z:Value}{vs:List AV}(hz:bi P t=some z)(hk:jc (.v z)=some vs):LOp P ⟨d,.alloc t,ty,pos,af,g⟩ τ η [] [(u,some ⟨0,vs,0,false⟩)] (.ptr u 0 0):=by obtain⟨k1,k2⟩:=n8 hk;subst k2;exact LOp.alloc u hz
def Aj(pl:List (Nat×Nat)):List AV->List (Nat×AV)->Option (List AV)
 |cells,[]=>some cells
 |cells,(i,v)::r=>match pl[i]? with
  |none=>none
  |some (off,size)=>match jc v with
   |none=>none
   |some vs=>bif Nat.beq vs.length size then(match t6 off cells vs with
    |some ds=>Aj pl ds r
    |none=>none)else none
theorem Ai{pl:List (Nat×Nat)}:∀(ps:List (Nat×AV)) (cells out:List AV),Aj pl cells ps=some out->Ci pl cells ps=some out
 |[],_,_,h=>h
 |(i,v)::r,cells,out,h=>by
  simp only[Aj]at h
  simp only[Ci]
  cases hp:pl[i]? with
  |none=>rw[hp]at h;cases h
  |some q=>
   obtain⟨off,size⟩:=q
   rw[hp]at h
   simp only at h ⊢
   cases hc:jc v with
   |none=>rw[hc]at h;cases h
   |some vs=>
    rw[hc]at h
    simp only at h
    cases hb:Nat.beq vs.length size with
    |false=>rw[hb]at h;cases h
    |true=>
     rw[hb]at h
     simp only[cond_true]at h
     cases hd:t6 off cells vs with
     |none=>rw[hd]at h;cases h
     |some ds=>
      rw[hd]at h
      simp only at h
      obtain⟨k1,k2⟩:=n8 hc
      obtain⟨k3,k4⟩:=qp _ _ _ _ hd
      have e:=agv hb
      subst k4;subst k2
      rw[k1,hb,Nat.ble_eq_true_of_le (show off+size<=cells.length by omega)]
      exact Ai r _ _ h
theorem Oq{t:Nat}{parts:Array (Nat×Operand)}{z:Value}{pl:List (Nat×Nat)}{cs out:List AV}(hz:bi P t=some z)(hp:mi P t=some pl)(hc:jc (.v z)=some cs)(ho:Aj pl cs (lw τ parts)=some out):
 LOp P ⟨d,.build t parts,ty,pos,af,g⟩ τ η [] [] (.agg out):=by
 obtain⟨k1,k2⟩:=n8 hc
 subst k2
 exact LOp.build hz hp (Ai _ _ _ ho)
theorem je{u t e len s:Nat}{parts:Array (Nat×Operand)}{z:Value}{out:List AV}(he:P.underlying t=some (.slice e))(hs:ap P e=some s)(hz:bi P e=some z)(hl:Nat.ble (len*s) 16777216=true)(h0:Nat.ble len 16777216=true)(h1:Nat.beq (len*s) 0=false)
 (ho:Aj (r6 len s) (b6 z (len*s)) (lw τ parts)=some out):LOp P ⟨d,.buildSlice t len parts,ty,pos,af,g⟩ τ η [] [(u,some ⟨TV,out,s,false⟩)] (.sl u TV 0 len):=
 LOp.buildSlice u he hs hz hl h0 h1 (Ai _ _ _ ho)
theorem oV{fn:Func}{a ret:AV}{t:Nat}(hr:fn.results=#[.tmp t])(h:s.τ t=a)(hp:a.pureB=true)(he:a=ret):Og P N fn s ret:=by subst he;exact Og.tmp hr ⟨[],by rw[h];exact FzP.pure hp⟩
end
end Go.Proofs.YtmbmbhkemgmhfaaGreatDoor
