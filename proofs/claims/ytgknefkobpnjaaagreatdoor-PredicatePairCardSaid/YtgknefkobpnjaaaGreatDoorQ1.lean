/- Texts of the claim. -/
import Derived.Lib.RowBridge
import Derived.Sort.Grow
import Derived.Test.YtgknefkobpnjaaaGreatDoorE3
namespace Go.Proofs.YtgknefkobpnjaaaGreatDoor
set_option linter.unusedVariables false
set_option linter.unusedSimpArgs false
open Go.RowKit
section
variable {P:Program} {N:Nat} {τ:Nat→AV} {η:Heap} {u:Nat} {op:Op} {ty:TypeId} {pos:String} {af:Array Edge} {g:Option (Nat×Bool)}
/-- A step of several outcomes. -/
theorem AOps.outs {ops:Array Oper} {K:St→Prop} {l:List Oper} {d:Nat} {fp:List Nat} {id:Nat} {outs:List (Blk×AV)} (hL:LOps P ⟨some d,op,ty,pos,af,g⟩ τ η fp id outs) (hb:∃ b,η id=some b) (hw:want ops τ ⟨some d,op,ty,pos,af,g⟩=some true) (hd:dstOk N ops ⟨some d,op,ty,pos,af,g⟩=true)
  (h:∀ q∈outs,AOps P N ops l K ⟨upd τ d q.2,η.set id (some q.1),u⟩):AOps P N ops (⟨some d,op,ty,pos,af,g⟩ :: l) K ⟨τ,η,u⟩:=by
 intro C a Q hr hK
 unfold wpList
 rw [want_spec hw hr (dstOk.guard hd)]
 simp only [if_true]
 left
 refine hL C a hr.good (fun x _=>hr.eval x) (fun i _=>by rw [hr.η]) _ _ fun q hq x C' hη hU hg he hv=>?_
 have hs:=hr.put he hg (fun i hi=>hr.u i (by rw [hU] at hi; exact hi)) (dstOk.dst hd) hv
 rw [hη,hr.η] at hs
 exact h q hq C' _ Q hs (fun s' C'' a' hk hr' he'=>hK s' C'' a' hk hr' (he.toFr.trans he'))
end
theorem quiet_bind_of {α β:Type} {P:Program}:∀ {s:Sem α} {f:α→Sem β} {a:α} {b:β},quiet P s=some a→quiet P (f a)=some b→quiet P (s.bind f)=some b:=by
 intro s
 induction s with
 | pure a=>intro f a' b h1 h2; simp only [quiet,Option.some.injEq] at h1; subst h1; exact h2
 | program k ih=>intro f a b h1 h2; exact ih P h1 h2
 | mark m k ih=>intro f a b h1 h2; exact ih h1 h2
 | choose q k ih=>
  intro f a b h1 h2
  simp only [Sem.bind,quiet] at h1 ⊢
  cases hq:q.forced with
  | false=>rw [hq] at h1; simp at h1
  | true=>
   rw [hq] at h1
   simp only [cond_true] at h1 ⊢
   exact ih 0 h1 h2
 | _=>intro f a b h1 h2; simp [quiet] at h1
theorem quiet_und {P:Program} {t:TypeId} {d:TypeDesc} (h:P.underlying t=some d):quiet P (underlying t)=some d:=by
 show quiet P (match P.underlying t with | some d=>(pure d:Sem TypeDesc) | none=>stuck "no such type")=some d
 rw [h]; rfl
section
variable {P:Program} {kt:TypeId}
theorem quiet_key {k:Int} {e:Bool} (hk:P.underlying kt=some (.int .i64)):quiet P (Instr.checkKey e 10000 kt (.int .i64 k))=some ():=by
 show quiet P (Instr.checkKey e (9999+1) kt (.int .i64 k))=some ()
 unfold Instr.checkKey
 have:quiet P (underlying kt)=some (.int .i64):=quiet_und hk
 exact quiet_bind_of this rfl
theorem findNow_none' {k:Int}:∀ (es:List (Value×AV×Nat)) (i:Nat),(∀ e∈es,∃ n,e.1=.int .i64 n∧n≠k)→Instr.findNow (.int .i64) (.int .i64 k) (dummies es) i=some none
 | [],_,_=>rfl
 | e :: es,i,h=>by
  obtain ⟨n,h1,h2⟩:=h e (by simp)
  have h3:(k==n)=false:=by simpa using fun e=>h2 e.symm
  simp only [dummies,List.map_cons,Instr.findNow,h1,Instr.sameNow,if_true,h3]
  exact findNow_none' es (i+1) (fun e he=>h e (by simp [he]))
theorem findNow_some' {k:Int}:∀ (es:List (Value×AV×Nat)) (i j:Nat) (hj:j < es.length),(∀ e∈es,∃ n,e.1=.int .i64 n)→es[j].1=.int .i64 k→(∀ i (h:i < es.length),i < j→es[i].1≠.int .i64 k)→∃ v,Instr.findNow (.int .i64) (.int .i64 k) (dummies es) i=some (some (i+j,v))
 | [],_,_,hj,_,_,_=>absurd hj (by simp)
 | e :: es,i,0,hj,hi,h1,_=>by
  simp only [List.getElem_cons_zero] at h1
  exact ⟨undef,by simp [dummies,Instr.findNow,h1,Instr.sameNow]⟩
 | e :: es,i,j+1,hj,hi,h1,h2=>by
  obtain ⟨n,hn⟩:=hi e (by simp)
  have hne:n≠k:=fun e'=>h2 0 (by simp) (by omega) (by simp [hn,e'])
  have h3:(k==n)=false:=by simpa using fun e=>hne e.symm
  obtain ⟨v,hv⟩:=findNow_some' es (i+1) j (by simpa using hj) (fun e he=>hi e (by simp [he])) (by simpa using h1) (fun q hq hqj=>by
   have:=h2 (q+1) (by simpa using hq) (by omega)
   simpa using this)
  refine ⟨v,?_⟩
  simp only [dummies,List.map_cons,Instr.findNow,hn,Instr.sameNow,if_true,h3]
  rw [show i+(j+1)=i+1+j by omega]
  exact hv
theorem findE_none {k:Int} {es:List (Value×AV×Nat)} (hk:P.underlying kt=some (.int .i64)) (h:∀ e∈es,∃ n,e.1=.int .i64 n∧n≠k):findE P kt (.int .i64 k) es=some none:=by
 unfold findE
 rw [quiet_key hk]
 have h1:quiet P (Instr.findKey kt (.int .i64 k) (dummies es))=some none:=by
  unfold Instr.findKey
  refine quiet_bind_of (quiet_und hk) ?_
  rw [findNow_none' es 0 h]
  rfl
 rw [h1]
theorem findE_some {k:Int} {es:List (Value×AV×Nat)} {j:Nat} (hk:P.underlying kt=some (.int .i64)) (hj:j < es.length) (hi:∀ e∈es,∃ n,e.1=.int .i64 n) (h1:es[j].1=.int .i64 k) (h2:∀ i (h:i < es.length),i < j→es[i].1≠.int .i64 k):findE P kt (.int .i64 k) es=some (some j):=by
 unfold findE
 rw [quiet_key hk]
 obtain ⟨v,hv⟩:=findNow_some' es 0 j hj hi h1 h2
 rw [Nat.zero_add] at hv
 have h1:quiet P (Instr.findKey kt (.int .i64 k) (dummies es))=some (some (j,v)):=by
  unfold Instr.findKey
  refine quiet_bind_of (quiet_und hk) ?_
  rw [hv]
  rfl
 rw [h1]
end
theorem unEs_map:∀ es:List (Value×AV×Nat),unEs (es.map fun e=>.agg [.v e.1,e.2.1,.v (.int .i64 (Int.ofNat e.2.2))])=some es
 | []=>rfl
 | e :: es=>by
  have ih:=unEs_map es
  simp only [List.map_cons,unEs,ih]
theorem liveM_map {η:Heap} {id ver z clock:Nat} {es:List (Value×AV×Nat)} (h:η id=some (mapBlk ver z clock es)):liveM η id ver=some (mapBlk ver z clock es,clock,es):=by
 have h1:unMap (mapCs clock es)=some (clock,es):=by
  have e:unMap (mapCs clock es)=(match unEs (es.map fun e=>.agg [.v e.1,e.2.1,.v (.int .i64 (Int.ofNat e.2.2))]) with | some es=>some (clock,es) | none=>none):=rfl
  rw [e,unEs_map]
 unfold liveM
 rw [h]
 have e2:(mapBlk ver z clock es).cs=mapCs clock es:=rfl
 have e3:(mapBlk ver z clock es).ver=ver:=rfl
 have e4:(mapBlk ver z clock es).nilp=true:=rfl
 simp only [e2,e3,e4,h1]
 simp
section
variable {P:Program} {τ:Nat→AV} {η:Heap} {d:Option Tmp} {ty:TypeId} {pos:String} {af:Array Edge} {g:Option (Nat×Bool)}
/-- m[k] = x at a key that the map does not hold. -/
theorem LOp.mapNew {t kt et id ver z clock:Nat} {m k x:Operand} {n:Int} {es:List (Value×AV×Nat)} (ht:P.underlying t=some (.map kt et)) (hk:P.underlying kt=some (.int .i64)) (hm:aev τ m=.mp id ver) (hkey:aev τ k=.v (.int .i64 n)) (hb:η id=some (mapBlk ver z clock es))
  (h:∀ e∈es,∃ q,e.1=.int .i64 q∧q≠n):LOp P ⟨d,.mapUpdate t m k x,ty,pos,af,g⟩ τ η [id] [(id,some (mapBlk ver z (clock+1) (es++[(.int .i64 n,aev τ x,clock)])))] (.v undef):=by
 refine mapSetE_ok (u:=0) (r:=⟨[id],[(id,some (mapBlk ver z (clock+1) (es++[(.int .i64 n,aev τ x,clock)])))],.v undef,0⟩) (.inl rfl) ?_
 unfold mapSetE
 rw [ht]
 simp only [hkey,hm,liveM_map hb,quiet_key hk,findE_none hk h]
 rfl
/-- m[k] at a key that the map holds. -/
theorem LOp.mapGet {t kt et id ver z clock j:Nat} {x i:Operand} {n:Int} {v:AV} {z0:Value} {es:List (Value×AV×Nat)} (ht:P.underlying t=some (.map kt et)) (hk:P.underlying kt=some (.int .i64)) (hz:zeroOf P et=some z0) (hm:aev τ x=.mp id ver) (hkey:aev τ i=.v (.int .i64 n)) (hb:η id=some (mapBlk ver z clock es))
  (hj:j < es.length) (hi:∀ e∈es,∃ q,e.1=.int .i64 q) (h1:es[j].1=.int .i64 n) (h2:∀ i (h:i < es.length),i < j→es[i].1≠.int .i64 n) (hv:es[j].2.1=v):LOp P ⟨d,.lookup t x i false,ty,pos,af,g⟩ τ η [id] [] v:=by
 subst hv
 refine lookE_ok (u:=0) (r:=⟨[id],[],es[j].2.1,0⟩) ?_
 unfold lookE
 rw [ht]
 simp only [hkey,hz,hm,liveM_map hb,findE_some hk hj hi h1 h2,List.getElem?_eq_getElem hj]
 rfl
end
end Go.Proofs.YtgknefkobpnjaaaGreatDoor
namespace Go.Proofs.YtgknefkobpnjaaaGreatDoor
set_option linter.unusedVariables false
set_option linter.unusedSimpArgs false
open Go.RowKit
theorem unNats_map:∀ ns:List Nat,unNats (ns.map fun n=>.v (.int .i64 (Int.ofNat n)))=some ns
 | []=>rfl
 | n :: ns=>by
  have ih:=unNats_map ns
  have e:unNats ((n :: ns).map fun n=>.v (.int .i64 (Int.ofNat n)))=(match unNats (ns.map fun n=>.v (.int .i64 (Int.ofNat n))) with | some l=>some (n :: l) | none=>none):=rfl
  rw [e,ih]
theorem liveI_miter {η:Heap} {id ver z mid mver since last:Nat} {seen:List Nat} (h:η id=some (miterBlk ver z (.mp mid mver) since seen last)):liveI η id ver=some (miterBlk ver z (.mp mid mver) since seen last,.ofm mid mver since seen last):=by
 have h1:unIter (miterCs (.mp mid mver) since seen last)=some (.ofm mid mver since seen last):=by
  have e:unIter (miterCs (.mp mid mver) since seen last)=(match unNats (seen.map fun n=>.v (.int .i64 (Int.ofNat n))) with | some seen=>some (.ofm mid mver since seen last) | none=>none):=rfl
  rw [e,unNats_map]
 unfold liveI
 rw [h]
 have e2:(miterBlk ver z (.mp mid mver) since seen last).cs=miterCs (.mp mid mver) since seen last:=rfl
 have e3:(miterBlk ver z (.mp mid mver) since seen last).ver=ver:=rfl
 have e4:(miterBlk ver z (.mp mid mver) since seen last).nilp=true:=rfl
 simp only [e2,e3,e4,h1]
 simp
section
variable {P:Program} {N:Nat} {τ:Nat→AV} {η:Heap} {u:Nat} {ty:TypeId} {pos:String} {af:Array Edge} {g:Option (Nat×Bool)}
theorem AOps.next {ops:Array Oper} {K:St→Prop} {l:List Oper} {d:Nat} {x:Operand} {id ver mid mver since clock z zm last:Nat} {seen:List Nat} {es:List (Value×AV×Nat)}
  (hx:aev τ x=.it id ver) (hb:η id=some (miterBlk ver z (.mp mid mver) since seen last)) (hm:η mid=some (mapBlk mver zm clock es))
  (hid:lowId u id=true) (hw:want ops τ ⟨some d,.next x false,ty,pos,af,g⟩=some true) (hd:dstOk N ops ⟨some d,.next x false,ty,pos,af,g⟩=true)
  (hold:∀ e∈es,e.2.2 < since) (hgone:seen=[]∨es=[]∨∃ e∈es,e.2.2 < last)
  (hdone:(∀ e∈es,seen.contains e.2.2=true)→AOps P N ops l K ⟨upd τ d (.tup [.v (.bool false)]),η,u⟩)
  (hmore:∀ e∈es,seen.contains e.2.2=false→AOps P N ops l K ⟨upd τ d (.tup [.v (.bool true),.v e.1,e.2.1]),η.set id (some (miterBlk ver z (.mp mid mver) since (seen++[e.2.2]) clock)),u⟩) :
  AOps P N ops (⟨some d,.next x false,ty,pos,af,g⟩ :: l) K ⟨τ,η,u⟩:=by
 have hI:=liveI_miter hb
 have hM:=liveM_map hm
 have hg:(!seen.isEmpty&&!es.isEmpty&&es.all (fun e=>Nat.ble last e.2.2))=false:=by
  rcases hgone with h | h | ⟨e,he,hlt⟩
  ·rw [h]; rfl
  ·rw [h]; simp
  ·have:es.all (fun e=>Nat.ble last e.2.2)=false:=by
    rw [List.all_eq_false]
    exact ⟨e,he,by simp [Nat.ble_eq]; omega⟩
   rw [this]; simp
 have f1:(es.filter fun e=>!seen.contains e.2.2).filter (fun e=>Nat.blt e.2.2 since)=es.filter fun e=>!seen.contains e.2.2:=by
  rw [List.filter_eq_self]
  intro e he
  simpa using hold e (List.mem_filter.1 he).1
 have f2:(es.filter fun e=>!seen.contains e.2.2).filter (fun e=>Nat.ble since e.2.2)=[]:=by
  rw [List.filter_eq_nil_iff]
  intro e he
  have:=hold e (List.mem_filter.1 he).1
  simp [Nat.ble_eq]; omega
 have hmem:∀ e,e∈(es.filter fun e=>!seen.contains e.2.2)→e∈es∧seen.contains e.2.2=false:=fun e he=>by
  obtain ⟨h1,h2⟩:=List.mem_filter.1 he
  exact ⟨h1,by simpa using h2⟩
 match hr:(es.filter fun e=>!seen.contains e.2.2) with
 | []=>
  have hE:nextE P τ η u x false=some ⟨[id,mid],[],.tup [.v (.bool false)],u⟩:=by
   unfold nextE
   rw [hx]
   rw [hr] at f1 f2
   simp only [hI,hM,hg,hr,f1,f2,cond_false]
  have:=nextE_ok (d:=some d) (ty:=ty) (pos:=pos) (af:=af) (g:=g) hE
  refine AOps.op (s:=⟨τ,η,u⟩) u this hw hd (by simp) rfl (hdone fun e he=>?_)
  cases hc:seen.contains e.2.2 with
  | true=>rfl
  | false=>
   have:e∈(es.filter fun e=>!seen.contains e.2.2):=List.mem_filter.2 ⟨he,by simp only [hc]; rfl⟩
   rw [hr] at this
   cases this
 | [e]=>
  have hE:nextE P τ η u x false=some ⟨[id,mid],[(id,some (miterBlk ver z (.mp mid mver) since (seen++[e.2.2]) clock))],.tup [.v (.bool true),.v e.1,e.2.1],u⟩:=by
   unfold nextE
   rw [hx]
   rw [hr] at f1 f2
   simp only [hI,hM,hg,hr,f1,f2,cond_false]
   rfl
  have:=nextE_ok (d:=some d) (ty:=ty) (pos:=pos) (af:=af) (g:=g) hE
  obtain ⟨h1,h2⟩:=hmem e (by rw [hr]; simp)
  refine AOps.op (s:=⟨τ,η,u⟩) u this hw hd (by simp) ?_ (hmore e h1 h2)
  simp [newOk,hid]
 | e1 :: e2 :: l'=>
  have hE:nextsE P τ η x=some (id,mid,(e1 :: e2 :: l').map fun e=>(miterBlk ver z (.mp mid mver) since (seen++[e.2.2]) clock,.tup [.v (.bool true),.v e.1,e.2.1])):=by
   unfold nextsE
   rw [hx]
   rw [hr] at f1 f2
   simp only [hI,hM,hg,hr,f1,f2,cond_false]
   rfl
  obtain ⟨h1,h2⟩:=nextsE_ok (d:=some d) (ty:=ty) (pos:=pos) (af:=af) (g:=g) hE
  refine AOps.outs h2 h1 hw hd (fun q hq=>?_)
  obtain ⟨e,he,rfl⟩:=List.mem_map.1 hq
  obtain ⟨g1,g2⟩:=hmem e (by rw [hr]; exact he)
  exact hmore e g1 g2
end
end Go.Proofs.YtgknefkobpnjaaaGreatDoor
namespace Go.Proofs.YtgknefkobpnjaaaGreatDoor
set_option linter.unusedVariables false
set_option linter.unusedSimpArgs false
open Go.RowKit
mutual
/-- Other numbers for the blocks. -/
def AV.ren (g:Nat→Nat):AV→AV
 | .v x=>.v x
 | .tree n xs=>.tree n xs
 | .tp cs o=>.tp cs o
 | .unk=>.unk
 | .ptr id ver off=>.ptr (g id) ver off
 | .mp id ver=>.mp (g id) ver
 | .it id ver=>.it (g id) ver
 | .sl id ver off len=>.sl (g id) ver off len
 | .agg cs=>.agg (renL g cs)
 | .tup cs=>.tup (renL g cs)
 | .clo f cs=>.clo f (renL g cs)
def renL (g:Nat→Nat):List AV→List AV
 | []=>[]
 | a :: r=>a.ren g :: renL g r
end
mutual
/-- All blocks that are named are among those of D. -/
def AV.inB (D:List Nat):AV→Bool
 | .v _=>true
 | .tree _ _=>true
 | .tp _ _=>true
 | .unk=>true
 | .ptr id _ _=>D.contains id
 | .mp id _=>D.contains id
 | .it id _=>D.contains id
 | .sl id _ _ _=>D.contains id
 | .agg cs=>inL D cs
 | .tup cs=>inL D cs
 | .clo _ cs=>inL D cs
def inL (D:List Nat):List AV→Bool
 | []=>true
 | a :: r=>a.inB D&&inL D r
end
theorem renL_eq {g:Nat→Nat}:∀ l:List AV,renL g l=l.map (AV.ren g)
 | []=>rfl
 | a :: r=>by rw [renL,renL_eq r]; rfl
theorem renL_len {g:Nat→Nat} (l:List AV):(renL g l).length=l.length:=by rw [renL_eq,List.length_map]
theorem renL_get {g:Nat→Nat} {l:List AV} {i:Nat} (h:i < (renL g l).length):(renL g l)[i]=(l[i]'(by rw [renL_len] at h; exact h)).ren g:=by
 simp only [renL_eq,List.getElem_map]
theorem inL_iff {D:List Nat} {l:List AV}:inL D l=true↔∀ a∈l,a.inB D=true:=by
 induction l with
 | nil=>simp [inL]
 | cons a r ih=>simp [inL,ih]
theorem inL_at {D:List Nat} {l:List AV} (h:inL D l=true) (i:Nat) (hi:i < l.length):l[i].inB D=true:=inL_iff.1 h _ (List.getElem_mem _)
def Blk.ren (g:Nat→Nat) (b:Blk):Blk:=⟨b.ver,renL g b.cs,b.esz,b.nilp⟩
theorem Blk.ren_kind {g:Nat→Nat} {b:Blk}:(b.ren g).kind=b.kind:=by
 obtain ⟨v,cs,z,n⟩:=b
 cases n <;> cases cs <;> rfl
/-- What C' says under the new numbers, C says under the old ones. -/
structure Rens (D:List Nat) (g:Nat→Nat) (C C':Ctx):Prop where
 ρ:∀ i,i∈D→C'.ρ (g i)=C.ρ i
 sz:∀ i,i∈D→C'.sz (g i)=C.sz i
 η:∀ i,i∈D→C'.η (g i)=(C.η i).map (Blk.ren g)
 U:∀ i,i∈D→C'.U (g i)
 T:C'.T=C.T
 w:C'.w=C.w
theorem TR.ren {D:List Nat} {g:Nat→Nat} {C C':Ctx} (hr:Rens D g C C') {a:AV} {x:Value} (h:TR C.T C.w a x) (hd:a.inB D=true):VR C' (a.ren g) x:=by
 induction h with
 | v=>exact .imm (.v _)
 | unk=>exact .imm (.unk _)
 | tree cell h1 h2 h3 h4 h5 h6 h7=>exact .imm (by rw [hr.T,hr.w]; exact .tree cell h1 h2 h3 h4 h5 h6 h7)
 | tree0 h=>exact .imm (.tree0 h)
 | tp cell h1 h2 h3=>exact .imm (by rw [hr.T,hr.w]; exact .tp cell h1 h2 h3)
 | @agg cs vs hl hi ih=>exact .agg (by rw [renL_len]; exact hl) (fun i h1 h2=>by
   have h3:i < cs.length:=by rw [renL_len] at h1; exact h1
   rw [renL_get h1]; exact ih i h3 h2 (inL_at hd i h3))
 | @tup cs vs hl hi ih=>exact .tup (by rw [renL_len]; exact hl) (fun i h1 h2=>by
   have h3:i < cs.length:=by rw [renL_len] at h1; exact h1
   rw [renL_get h1]; exact ih i h3 h2 (inL_at hd i h3))
 | @clo f cs vs hl hi ih=>exact .clo (by rw [renL_len]; exact hl) (fun i h1 h2=>by
   have h3:i < cs.length:=by rw [renL_len] at h1; exact h1
   rw [renL_get h1]; exact ih i h3 h2 (inL_at hd i h3))
theorem VR.ren {D:List Nat} {g:Nat→Nat} {C C':Ctx} (hr:Rens D g C C') {a:AV} {x:Value} (h:VR C a x) (hd:a.inB D=true):VR C' (a.ren g) x:=by
 have st:∀ {id ver:Nat},id∈D→(∀ b,C.η id=some b→ver < b.ver)→∀ b,C'.η (g id)=some b→ver < b.ver:=by
  intro id ver hid h b hb
  rw [hr.η id hid] at hb
  cases hc:C.η id with
  | none=>rw [hc] at hb; cases hb
  | some b0=>rw [hc] at hb; simp only [Option.map_some,Option.some.injEq] at hb; subst hb; exact h b0 hc
 have lv:∀ {id:Nat} {b:Blk},id∈D→C.η id=some b→C'.η (g id)=some (b.ren g):=fun hid hb=>by rw [hr.η _ hid,hb]; rfl
 induction h with
 | imm h=>exact TR.ren hr h hd
 | ptr hb he hn=>
  have hid:_∈D:=List.contains_iff_mem.1 hd
  rw [← hr.ρ _ hid]; exact .ptr (lv hid hb) he hn
 | sl hb he hn h1 h2 h3 h4=>
  have hid:_∈D:=List.contains_iff_mem.1 hd
  rw [← hr.ρ _ hid]; exact .sl (lv hid hb) he hn h1 h2 h3 (by rw [hr.ρ _ hid,hr.sz _ hid]; exact h4)
 | slz hb he hn=>
  have hid:_∈D:=List.contains_iff_mem.1 hd
  exact .slz (lv hid hb) he hn
 | slnil hb he hn=>
  have hid:_∈D:=List.contains_iff_mem.1 hd
  exact .slnil (lv hid hb) he (by rw [Blk.ren_kind]; exact hn)
 | mp hb he hn=>
  have hid:_∈D:=List.contains_iff_mem.1 hd
  rw [← hr.ρ _ hid]; exact .mp (lv hid hb) he (by rw [Blk.ren_kind]; exact hn)
 | it hb he hn=>
  have hid:_∈D:=List.contains_iff_mem.1 hd
  rw [← hr.ρ _ hid]; exact .it (lv hid hb) he (by rw [Blk.ren_kind]; exact hn)
 | stalem h1 hu hs=>have hid:_∈D:=List.contains_iff_mem.1 hd; exact .stalem h1 (hr.U _ hid) (st hid hs)
 | stalei h1 hu hs=>have hid:_∈D:=List.contains_iff_mem.1 hd; exact .stalei h1 (hr.U _ hid) (st hid hs)
 | stalep h1 hu hs=>have hid:_∈D:=List.contains_iff_mem.1 hd; exact .stalep h1 (hr.U _ hid) (st hid hs)
 | stales h1 hu hs=>have hid:_∈D:=List.contains_iff_mem.1 hd; exact .stales h1 (hr.U _ hid) (st hid hs)
 | @agg cs vs hl hi ih=>exact .agg (by rw [renL_len]; exact hl) (fun i h1 h2=>by
   have h3:i < cs.length:=by rw [renL_len] at h1; exact h1
   rw [renL_get h1]; exact ih i h3 h2 (inL_at hd i h3))
 | @tup cs vs hl hi ih=>exact .tup (by rw [renL_len]; exact hl) (fun i h1 h2=>by
   have h3:i < cs.length:=by rw [renL_len] at h1; exact h1
   rw [renL_get h1]; exact ih i h3 h2 (inL_at hd i h3))
 | @clo f cs vs hl hi ih=>exact .clo (by rw [renL_len]; exact hl) (fun i h1 h2=>by
   have h3:i < cs.length:=by rw [renL_len] at h1; exact h1
   rw [renL_get h1]; exact ih i h3 h2 (inL_at hd i h3))
end Go.Proofs.YtgknefkobpnjaaaGreatDoor
namespace Go.Proofs.YtgknefkobpnjaaaGreatDoor
set_option linter.unusedVariables false
set_option linter.unusedSimpArgs false
open Go.RowKit
/-- C0: what is handed of C, under the callee's numbers. -/
structure Unrens (g:Nat→Nat) (K:List Nat) (C C0:Ctx):Prop where
 ρ:∀ i,i∈K→C0.ρ i=C.ρ (g i)
 sz:∀ i,i∈K→C0.sz i=C.sz (g i)
 η:∀ i,i∈K→∃ b,C0.η i=some b∧C.η (g i)=some (b.ren g)
 U:∀ i,i∈K→C0.U i
 T:C0.T=C.T
 w:C0.w=C.w
theorem VR.unren {g:Nat→Nat} {K:List Nat} {C C0:Ctx} (hu:Unrens g K C C0):∀ (a:AV) (x:Value),a.inB K=true→VR C (a.ren g) x→VR C0 a x
 | .v y,x,_,h=>by cases h with | imm h=>exact .imm (by rw [hu.T,hu.w]; exact h)
 | .unk,x,_,h=>by cases h with | imm h=>exact .imm (by rw [hu.T,hu.w]; exact h)
 | .tree n xs,x,_,h=>by cases h with | imm h=>exact .imm (by rw [hu.T,hu.w]; exact h)
 | .tp cs o,x,_,h=>by cases h with | imm h=>exact .imm (by rw [hu.T,hu.w]; exact h)
 | .ptr id ver off,x,hd,h=>by
  have hid:id∈K:=List.contains_iff_mem.1 hd
  obtain ⟨b,h1,h2⟩:=hu.η id hid
  change VR C (.ptr (g id) ver off) x at h
  cases h with
  | imm h=>cases h
  | ptr hb he hn=>
   rw [h2] at hb; cases hb
   rw [← hu.ρ id hid]; exact .ptr h1 he hn
  | stalep hx _ hs=>exact .stalep hx (hu.U id hid) (fun b' hb'=>by rw [h1] at hb'; cases hb'; exact (show ver < (b.ren g).ver from hs _ h2))
 | .sl id ver off len,x,hd,h=>by
  have hid:id∈K:=List.contains_iff_mem.1 hd
  obtain ⟨b,h1,h2⟩:=hu.η id hid
  change VR C (.sl (g id) ver off len) x at h
  cases h with
  | imm h=>cases h
  | sl hb he hn q1 q2 q3 q4=>
   rw [h2] at hb; cases hb
   rw [← hu.ρ id hid]; exact .sl h1 he hn q1 q2 q3 (by rw [hu.ρ id hid,hu.sz id hid]; exact q4)
  | slz hb he hn=>rw [h2] at hb; cases hb; exact .slz h1 he hn
  | slnil hb he hn=>rw [h2] at hb; cases hb; exact .slnil h1 he (by rw [← Blk.ren_kind (g:=g)]; exact hn)
  | stales hx _ hs=>exact .stales hx (hu.U id hid) (fun b' hb'=>by rw [h1] at hb'; cases hb'; exact (show ver < (b.ren g).ver from hs _ h2))
 | .mp id ver,x,hd,h=>by
  have hid:id∈K:=List.contains_iff_mem.1 hd
  obtain ⟨b,h1,h2⟩:=hu.η id hid
  change VR C (.mp (g id) ver) x at h
  cases h with
  | imm h=>cases h
  | mp hb he hn=>
   rw [h2] at hb; cases hb
   rw [← hu.ρ id hid]; exact .mp h1 he (by rw [← Blk.ren_kind (g:=g)]; exact hn)
  | stalem hx _ hs=>exact .stalem hx (hu.U id hid) (fun b' hb'=>by rw [h1] at hb'; cases hb'; exact (show ver < (b.ren g).ver from hs _ h2))
 | .it id ver,x,hd,h=>by
  have hid:id∈K:=List.contains_iff_mem.1 hd
  obtain ⟨b,h1,h2⟩:=hu.η id hid
  change VR C (.it (g id) ver) x at h
  cases h with
  | imm h=>cases h
  | it hb he hn=>
   rw [h2] at hb; cases hb
   rw [← hu.ρ id hid]; exact .it h1 he (by rw [← Blk.ren_kind (g:=g)]; exact hn)
  | stalei hx _ hs=>exact .stalei hx (hu.U id hid) (fun b' hb'=>by rw [h1] at hb'; cases hb'; exact (show ver < (b.ren g).ver from hs _ h2))
 | .agg cs,x,hd,h=>by
  change VR C (.agg (renL g cs)) x at h
  obtain ⟨vs,rfl,h1,h2⟩:=h.agg_inv
  rw [renL_len] at h1
  exact .agg h1 (fun i hi hi'=>by
   have hlt:=List.sizeOf_lt_of_mem (List.getElem_mem hi:cs[i]∈cs)
   exact VR.unren hu cs[i] vs[i] (inL_at hd i hi) (by have:=h2 i (by rw [renL_len]; exact hi) hi'; rw [renL_get] at this; exact this))
 | .tup cs,x,hd,h=>by
  change VR C (.tup (renL g cs)) x at h
  obtain ⟨vs,rfl,h1,h2⟩:=h.tup_inv'
  rw [renL_len] at h1
  exact .tup h1 (fun i hi hi'=>by
   have hlt:=List.sizeOf_lt_of_mem (List.getElem_mem hi:cs[i]∈cs)
   exact VR.unren hu cs[i] vs[i] (inL_at hd i hi) (by have:=h2 i (by rw [renL_len]; exact hi) hi'; rw [renL_get] at this; exact this))
 | .clo f cs,x,hd,h=>by
  change VR C (.clo f (renL g cs)) x at h
  obtain ⟨vs,rfl,h1,h2⟩:=h.clo_inv
  rw [renL_len] at h1
  exact .clo h1 (fun i hi hi'=>by
   have hlt:=List.sizeOf_lt_of_mem (List.getElem_mem hi:cs[i]∈cs)
   exact VR.unren hu cs[i] vs[i] (inL_at hd i hi) (by have:=h2 i (by rw [renL_len]; exact hi) hi'; rw [renL_get] at this; exact this))
termination_by a=>SizeOf.sizeOf a
decreasing_by all_goals (simp; omega)
/-- What is no row of cells, under other numbers: the renamed pseudo-cells. -/
theorem mapCs_ren {g:Nat→Nat} {clock:Nat} {es:List (Value×AV×Nat)}:renL g (mapCs clock es)=mapCs clock (es.map fun e=>(e.1,e.2.1.ren g,e.2.2)):=by
 unfold mapCs
 rw [renL_eq,List.map_cons,List.map_cons,List.map_map,List.map_map]
 rfl
theorem siterCs_ren {g:Nat→Nat} {s:ByteArray} {pos:Nat}:renL g (siterCs s pos)=siterCs s pos:=rfl
theorem miterCs_ren {g:Nat→Nat} {m:AV} {since last:Nat} {seen:List Nat}:renL g (miterCs m since seen last)=miterCs (m.ren g) since seen last:=by
 unfold miterCs
 rw [renL_eq,List.map_cons,List.map_cons,List.map_cons,List.map_cons,List.map_map]
 rfl
theorem ObjR.ren {D:List Nat} {g:Nat→Nat} {C C':Ctx} (hr:Rens D g C C') {cs:List AV} {o:Obj} (h:ObjR C cs o) (hd:inL D cs=true):ObjR C' (renL g cs) o:=by
 cases h with
 | map hl hi=>
  rename_i es entries clock
  rw [mapCs_ren]
  refine .map (by simpa using hl) (fun i h1 h2=>?_)
  have h3:i < es.length:=by simpa using h1
  have:=hi i h3 h2
  simp only [List.getElem_map]
  refine ⟨this.1,this.2.1.ren hr ?_,this.2.2⟩
  have hm:=inL_iff.1 hd (.agg [.v es[i].1,es[i].2.1,.v (.int .i64 (Int.ofNat es[i].2.2))]) (by
   unfold mapCs
   exact List.mem_cons_of_mem _ (List.mem_cons_of_mem _ (List.mem_map.2 ⟨es[i],List.getElem_mem _,rfl⟩)))
  simp only [AV.inB,inL,Bool.and_eq_true] at hm
  exact hm.2.1
 | siter=>exact .siter
 | miter0=>rw [miterCs_ren]; exact .miter0
 | miter hv=>
  rw [miterCs_ren]
  exact .miter (hv.ren hr (inL_iff.1 hd _ (by unfold miterCs; simp)))
theorem ObjR.unren {g:Nat→Nat} {K:List Nat} {C C0:Ctx} (hu:Unrens g K C C0) {cs:List AV} {o:Obj} (h:ObjR C (renL g cs) o) (hd:inL K cs=true) (hk:(∃ clock es,cs=mapCs clock es)∨∃ s p,cs=siterCs s p):ObjR C0 cs o:=by
 rcases hk with ⟨clock,es,rfl⟩ | ⟨s,p,rfl⟩
 ·rw [mapCs_ren] at h
  obtain ⟨entries,rfl,hl,hi⟩:=h.map_inv
  have hl':es.length=entries.size:=by simpa using hl
  refine .map hl' (fun i h1 h2=>?_)
  have:=hi i (by simpa using h1) h2
  simp only [List.getElem_map] at this
  refine ⟨this.1,VR.unren hu _ _ ?_ this.2.1,this.2.2⟩
  have hm:=inL_iff.1 hd (.agg [.v es[i].1,es[i].2.1,.v (.int .i64 (Int.ofNat es[i].2.2))]) (by
   unfold mapCs
   exact List.mem_cons_of_mem _ (List.mem_cons_of_mem _ (List.mem_map.2 ⟨es[i],List.getElem_mem _,rfl⟩)))
  simp only [AV.inB,inL,Bool.and_eq_true] at hm
  exact hm.2.1
 ·rw [siterCs_ren] at h
  rw [h.siter_inv]; exact .siter
end Go.Proofs.YtgknefkobpnjaaaGreatDoor
namespace Go.Proofs.YtgknefkobpnjaaaGreatDoor
set_option linter.unusedVariables false
set_option linter.unusedSimpArgs false
open Go.RowKit
def heapO:List (Nat×Option Blk)→Heap
 | []=>fun _=>none
 | p :: r=>fun id=>bif Nat.beq id p.1 then p.2 else heapO r id
/-- f is handed the blocks hb under the numbers that stand there (from TOP on); it leaves the blocks hb' (those of hb, and new ones, by the callee's numbers). -/
def HCall (P:Program) (f:FuncId) (args:List AV) (hb:List (Nat×Blk)) (hb':List (Nat×Option Blk)) (ret:AV):Prop :=
 ∀ (C:Ctx) (vals:Array Value),Good C→C.η=hLz hb→(∀ id,C.U id→TOP≤id)→VRs C args vals →
  Calls P f vals C.w (fun e w'=>∃ x C',e=.returned x∧C'.w=w'∧C'.η=heapO hb'∧Good C'∧Fr C C'∧VR C' ret x)
def gOf:List (Nat×Nat)→Nat→Nat
 | [],i=>i
 | p :: r,i=>bif Nat.beq i p.1 then p.2 else gOf r i
def bwd (m:List (Nat×Nat)) (k:Nat):Option Nat:=(m.find? fun p=>Nat.beq p.2 k).map (·.1)
def nodupB:List Nat→Bool
 | []=>true
 | a :: r=>!r.contains a&&nodupB r
theorem nodupB_iff:∀ {l:List Nat},nodupB l=true↔l.Nodup
 | []=>by simp [nodupB]
 | a :: r=>by simp [nodupB,nodupB_iff (l:=r)]
theorem beq_ne {a b:Nat} (h:a≠b):Nat.beq a b=false:=by
 cases hb:Nat.beq a b with
 | false=>rfl
 | true=>exact absurd (Nat.eq_of_beq_eq_true hb) h
theorem gOf_mem:∀ {m:List (Nat×Nat)} {i k:Nat},(m.map (·.1)).Nodup→(i,k)∈m→gOf m i=k
 | p :: r,i,k,hn,h=>by
  rw [List.map_cons,List.nodup_cons] at hn
  rcases List.mem_cons.1 h with rfl | h
  ·simp [gOf]
  ·have:i≠p.1:=fun e=>hn.1 (by rw [← e]; exact List.mem_map.2 ⟨(i,k),h,rfl⟩)
   simp only [gOf,beq_ne this,cond_false]
   exact gOf_mem hn.2 h
theorem bwd_some {m:List (Nat×Nat)} {i k:Nat} (h:bwd m k=some i):(i,k)∈m:=by
 unfold bwd at h
 cases hf:m.find? (fun p=>Nat.beq p.2 k) with
 | none=>rw [hf] at h; cases h
 | some p=>
  rw [hf] at h
  simp only [Option.map_some,Option.some.injEq] at h
  have h1:=List.find?_some hf
  have h2:=Nat.eq_of_beq_eq_true h1
  rw [← h,← h2]
  exact List.mem_of_find?_eq_some hf
theorem bwd_none {m:List (Nat×Nat)} {k:Nat} (h:bwd m k=none):∀ i,(i,k)∉m:=by
 intro i hi
 unfold bwd at h
 rw [Option.map_eq_none_iff,List.find?_eq_none] at h
 exact h (i,k) hi (by simp)
theorem snd_inj {m:List (Nat×Nat)} (hn:(m.map (·.2)).Nodup) {i i' k:Nat} (h:(i,k)∈m) (h':(i',k)∈m):i=i':=by
 induction m with
 | nil=>cases h
 | cons p r ih=>
  rw [List.map_cons,List.nodup_cons] at hn
  rcases List.mem_cons.1 h with rfl | h1 <;> rcases List.mem_cons.1 h' with e | h2
  ·exact (Prod.mk.inj e).1.symm
  ·exact absurd (List.mem_map.2 ⟨(i',k),h2,rfl⟩) hn.1
  ·subst e; exact absurd (List.mem_map.2 ⟨(i,k),h1,rfl⟩) hn.1
  ·exact ih hn.2 h1 h2
theorem bwd_of {m:List (Nat×Nat)} (hn:(m.map (·.2)).Nodup) {i k:Nat} (h:(i,k)∈m):bwd m k=some i:=by
 cases hb:bwd m k with
 | none=>exact absurd h (bwd_none hb i)
 | some i'=>rw [snd_inj hn (bwd_some hb) h]
theorem put_out:∀ {δ:List (Nat×Option Blk)} {η:Heap} {k:Nat},k∉δ.map (·.1)→η.put δ k=η k
 | [],_,_,_=>rfl
 | p :: r,η,k,h=>by
  rw [List.map_cons,List.mem_cons] at h
  have h1:k≠p.1:=fun e=>h (.inl e)
  show (η.set p.1 p.2).put r k=η k
  rw [put_out (fun e=>h (.inr e)),Heap.set_other _ _ h1]
theorem put_in:∀ {δ:List (Nat×Option Blk)} {η:Heap} {k:Nat} {ob:Option Blk},(δ.map (·.1)).Nodup→(k,ob)∈δ→η.put δ k=ob
 | p :: r,η,k,ob,hn,h=>by
  rw [List.map_cons,List.nodup_cons] at hn
  show (η.set p.1 p.2).put r k=ob
  rcases List.mem_cons.1 h with e | h
  ·subst e
   rw [put_out hn.1,Heap.set_same]
  ·exact put_in hn.2 h
theorem heapO_in:∀ {l:List (Nat×Option Blk)} {i:Nat} {ob:Option Blk},(l.map (·.1)).Nodup→(i,ob)∈l→heapO l i=ob
 | p :: r,i,ob,hn,h=>by
  rw [List.map_cons,List.nodup_cons] at hn
  rcases List.mem_cons.1 h with rfl | h
  ·simp [heapO]
  ·have:i≠p.1:=fun e=>hn.1 (by rw [← e]; exact List.mem_map.2 ⟨(i,ob),h,rfl⟩)
   simp only [heapO,beq_ne this,cond_false]
   exact heapO_in hn.2 h
theorem heapO_out:∀ {l:List (Nat×Option Blk)} {i:Nat},i∉l.map (·.1)→heapO l i=none
 | [],_,_=>rfl
 | p :: r,i,h=>by
  rw [List.map_cons,List.mem_cons] at h
  simp only [heapO,beq_ne (fun e=>h (.inl e)),cond_false]
  exact heapO_out (fun e=>h (.inr e))
theorem heapL_in:∀ {l:List (Nat×Blk)} {i:Nat},i∈l.map (·.1)→∃ b,hLz l i=some b∧(i,b)∈l
 | p :: r,i,h=>by
  by_cases e:i=p.1
  ·subst e; exact ⟨p.2,by simp [hLz],by simp⟩
  ·rw [List.map_cons,List.mem_cons] at h
   obtain ⟨b,h1,h2⟩:=heapL_in (h.resolve_left e)
   exact ⟨b,by simp only [hLz,beq_ne e,cond_false]; exact h1,List.mem_cons_of_mem _ h2⟩
theorem heapL_out:∀ {l:List (Nat×Blk)} {i:Nat},i∉l.map (·.1)→hLz l i=none
 | [],_,_=>rfl
 | p :: r,i,h=>by
  rw [List.map_cons,List.mem_cons] at h
  simp only [hLz,beq_ne (fun e=>h (.inl e)),cond_false]
  exact heapL_out (fun e=>h (.inr e))
/-- A block that can be handed. -/
def okBlk (K:List Nat) (b:Blk):Prop:=inL K b.cs=true∧(b.nilp=false∨b.cs=[]∨(∃ clock es,b.cs=mapCs clock es)∨∃ s p,b.cs=siterCs s p)
def okO (D:List Nat):Option Blk→Prop
 | some b=>inL D b.cs=true
 | none=>True
def allP {α:Type} (p:α→Prop):List α→Prop
 | []=>True
 | a :: r=>p a∧allP p r
theorem allP_iff {α:Type} {p:α→Prop}:∀ {l:List α},allP p l↔∀ a∈l,p a
 | []=>by simp [allP]
 | a :: r=>by simp [allP,allP_iff (l:=r)]
section
variable {P:Program} {τ:Nat→AV} {η:Heap} {d:Option Tmp} {ty:TypeId} {pos:String} {af:Array Edge} {g:Option (Nat×Bool)}
/-- What is handed, in a state of its own. -/
theorem handed {C:Ctx} (hg:Good C) {m:List (Nat×Nat)} {hb:List (Nat×Blk)} (hm2:(m.map (·.2)).Nodup) (hm1:(m.map (·.1)).Nodup) (hsub:∀ p∈hb,p.1∈m.map (·.1)) (hη:∀ p∈hb,C.η (gOf m p.1)=some (p.2.ren (gOf m))) (hok:∀ p∈hb,okBlk (hb.map (·.1)) p.2) :
  let C0:Ctx:=⟨fun i=>C.ρ (gOf m i),fun i=>C.sz (gOf m i),hLz hb,fun i=>i∈hb.map (·.1),C.T,C.w⟩
  Unrens (gOf m) (hb.map (·.1)) C C0∧Good C0∧∀ k,C0.mine k→∃ i,i∈hb.map (·.1)∧C.live (gOf m i)∧(C.ρ (gOf m i)).1=k:=by
 intro C0
 have hu:Unrens (gOf m) (hb.map (·.1)) C C0:=by
  refine ⟨fun _ _=>rfl,fun _ _=>rfl,fun i hi=>?_,fun _ hi=>hi,rfl,rfl⟩
  obtain ⟨b,h1,h2⟩:=heapL_in hi
  exact ⟨b,h1,hη _ h2⟩
 have hkey:∀ {i b},C0.η i=some b→i∈hb.map (·.1)∧(i,b)∈hb:=by
  intro i b hb'
  by_cases hi:i∈hb.map (·.1)
  ·obtain ⟨b1,h1,h2⟩:=heapL_in hi
   have:C0.η i=some b1:=h1
   rw [this] at hb'; cases hb'
   exact ⟨hi,h2⟩
  ·have:C0.η i=none:=heapL_out hi
   rw [this] at hb'; cases hb'
 have hlive:∀ {i},C0.live i→i∈hb.map (·.1)∧C.live (gOf m i):=by
  rintro i ⟨b,h1,h2⟩
  obtain ⟨k1,k2⟩:=hkey h1
  exact ⟨k1,_,hη _ k2,by rw [Blk.ren_kind]; exact h2⟩
 have hinj:∀ {i j},i∈hb.map (·.1)→j∈hb.map (·.1)→gOf m i=gOf m j→i=j:=by
  intro i j hi hj e
  obtain ⟨p,hp,rfl⟩:=List.mem_map.1 hi
  obtain ⟨q,hq,rfl⟩:=List.mem_map.1 hj
  obtain ⟨⟨i',k⟩,h1,h2⟩:=List.mem_map.1 (hsub p hp)
  obtain ⟨⟨j',k'⟩,h3,h4⟩:=List.mem_map.1 (hsub q hq)
  simp only at h2 h4
  subst h2 h4
  rw [gOf_mem hm1 h1,gOf_mem hm1 h3] at e
  subst e
  exact snd_inj hm2 h1 h3
 refine ⟨hu,⟨fun h=>(hkey h).1,?_,?_,?_,fun hk=>hg.tlt hk,?_,?_⟩,fun k ⟨i,hl,hk⟩=>⟨i,(hlive hl).1,(hlive hl).2,hk⟩⟩
 ·intro i b hb' hk
  obtain ⟨k1,k2⟩:=hkey hb'
  obtain ⟨o,h1,h2⟩:=hg.obj (hη _ k2) (by rw [Blk.ren_kind]; exact hk)
  obtain ⟨q1,q2⟩:=hok _ k2
  refine ⟨o,h1,ObjR.unren hu h2 q1 ?_⟩
  rcases q2 with h | h | h
  ·rw [Blk.k0 h] at hk; cases hk
  ·obtain ⟨_,h3⟩:=Blk.nil2 hk; exact absurd h h3
  ·exact h
 ·intro i b hb' hn
  obtain ⟨k1,k2⟩:=hkey hb'
  obtain ⟨c,t,g1,g2,g3,g4⟩:=hg.blk (hη _ k2) hn
  obtain ⟨q1,_⟩:=hok _ k2
  have hlen:(b.ren (gOf m)).cs.length=b.cs.length:=renL_len _
  refine ⟨c,t,g1,g2,by rw [← hlen]; exact g3,fun j h h'=>VR.unren hu _ _ (inL_at q1 j h) ?_⟩
  have:=g4 j (by rw [hlen]; exact h) h'
  have e:(b.ren (gOf m)).cs[j]'(by rw [hlen]; exact h)=(b.cs[j]).ren (gOf m):=renL_get _
  rw [e] at this
  exact this
 ·intro i j hi hj e
  exact hinj (hlive hi).1 (hlive hj).1 (hg.inj (hlive hi).2 (hlive hj).2 e)
 ·rintro k ⟨i,hl,hk⟩ hT
  exact hg.apart ⟨gOf m i,(hlive hl).2,hk⟩ hT
 ·intro i b hb' hv hn
  obtain ⟨k1,k2⟩:=hkey hb'
  have:=hg.tight (hη _ k2) hv hn
  have hlen:(b.ren (gOf m)).cs.length=b.cs.length:=renL_len _
  rw [hlen] at this
  exact this
end
end Go.Proofs.YtgknefkobpnjaaaGreatDoor
namespace Go.Proofs.YtgknefkobpnjaaaGreatDoor
set_option linter.unusedVariables false
set_option linter.unusedSimpArgs false
open Go.RowKit
section
variable {P:Program} {τ:Nat→AV} {η:Heap} {d:Option Tmp} {ty:TypeId} {pos:String} {af:Array Edge} {g:Option (Nat×Bool)}
def deltaH (m:List (Nat×Nat)) (hb':List (Nat×Option Blk)):List (Nat×Option Blk):=hb'.map fun p=>(gOf m p.1,p.2.map (Blk.ren (gOf m)))
theorem LOp.of_callH {o:Oper} {f:FuncId} {args:List AV} {hb:List (Nat×Blk)} {hb':List (Nat×Option Blk)} {ret:AV} (m:List (Nat×Nat)) (hc:HCall P f args hb hb' ret)
  (hm:m.map (·.1)=hb'.map (·.1)) (h1:nodupB (m.map (·.1))=true) (h2:nodupB (m.map (·.2))=true) (hsub:hb.all (fun p=>Nat.ble TOP p.1&&(m.map (·.1)).contains p.1)=true)
  (hη:allP (fun p=>η (gOf m p.1)=some (p.2.ren (gOf m))) hb) (hok:allP (fun p=>okBlk (hb.map (·.1)) p.2) hb) (hok':allP (fun p=>okO (m.map (·.1)) p.2) hb') (hargs:inL (hb.map (·.1)) args=true) (hret:ret.inB (m.map (·.1))=true)
  (h:∀ (C:Ctx) (a:Act),Good C→(∀ x∈o.op.operands,VR C (aev τ x) (a.eval x))→∃ vals,VRs C (renL (gOf m) args) vals∧(execOp a.eval o).run P C.w=.ok (.enter f vals) C.w) :
  LOp P o τ η (hb.map fun p=>gOf m p.1) (deltaH m hb') (ret.ren (gOf m)):=by
 intro C a hg hxs hfp hnew K Q hK
 have n1:=nodupB_iff.1 h1
 have n2:=nodupB_iff.1 h2
 have n3:(hb'.map (·.1)).Nodup:=hm ▸ n1
 have hsub':∀ p∈hb,TOP≤p.1∧p.1∈m.map (·.1):=fun p hp=>by
  have:=List.all_eq_true.1 hsub p hp
  rw [Bool.and_eq_true] at this
  exact ⟨Nat.le_of_ble_eq_true this.1,List.contains_iff_mem.1 this.2⟩
 have hη1:=allP_iff.1 hη
 have hok1:=allP_iff.1 hok
 have hok2:=allP_iff.1 hok'
 have hCη:∀ p∈hb,C.η (gOf m p.1)=some (p.2.ren (gOf m)):=fun p hp=>(hfp _ (List.mem_map.2 ⟨p,hp,rfl⟩)).trans (hη1 p hp)
 obtain ⟨hu,hg0,hmine0⟩:=handed hg n2 n1 (fun p hp=>(hsub' p hp).2) hCη hok1
 generalize hC0:(⟨fun i=>C.ρ (gOf m i),fun i=>C.sz (gOf m i),hLz hb,fun i=>i∈hb.map (·.1),C.T,C.w⟩:Ctx)=C0 at hu hg0 hmine0
 have eη:C0.η=hLz hb:=by rw [← hC0]
 have eU:∀ i,C0.U i↔i∈hb.map (·.1):=fun i=>by rw [← hC0]
 have eρ:∀ i,C0.ρ i=C.ρ (gOf m i):=fun i=>by rw [← hC0]
 have esz:∀ i,C0.sz i=C.sz (gOf m i):=fun i=>by rw [← hC0]
 have eT:C0.T=C.T:=by rw [← hC0]
 have ew:C0.w=C.w:=by rw [← hC0]
 obtain ⟨vals,⟨hvl,hv⟩,hrun⟩:=h C a hg hxs
 have hvals:VRs C0 args vals:=by
  rw [renL_len] at hvl
  refine ⟨hvl,fun i hi hi'=>VR.unren hu _ _ (inL_at hargs i hi) ?_⟩
  have:=hv i (by rw [renL_len]; exact hi) hi'
  rw [renL_get] at this
  exact this
 have hmine:∀ {k},C0.mine k→C.mine k:=fun hk=>by
  obtain ⟨i,_,hl,e⟩:=hmine0 _ hk
  exact ⟨_,hl,e⟩
 unfold Oper.wp
 rw [hrun]
 have hcall:=hc C0 vals hg0 eη (fun i hi=>by
  obtain ⟨p,hp,rfl⟩:=List.mem_map.1 ((eU i).1 hi)
  exact (hsub' p hp).1) hvals
 rw [ew] at hcall
 refine Calls.mono hcall ?_
 rintro e w' ⟨x,C1,rfl,rfl,hη',hg1,hfr,hx⟩
 -- the caller's blocks after the call
 let C2:Ctx:=⟨fun k=>match bwd m k with | some i=>C1.ρ i | none=>C.ρ k,fun k=>match bwd m k with | some i=>C1.sz i | none=>C.sz k,
  fun k=>match bwd m k with | some i=>(C1.η i).map (Blk.ren (gOf m)) | none=>C.η k,fun k=>C.U k∨(bwd m k).isSome=true,C1.T,C1.w⟩
 have hgm:∀ {i k},(i,k)∈m→gOf m i=k:=fun h=>gOf_mem n1 h
 have hD:∀ {i},i∈m.map (·.1)→bwd m (gOf m i)=some i:=by
  intro i hi
  obtain ⟨⟨i',k⟩,h3,h4⟩:=List.mem_map.1 hi
  simp only at h4; subst h4
  rw [hgm h3]; exact bwd_of n2 h3
 have hren:Rens (m.map (·.1)) (gOf m) C1 C2:=by
  refine ⟨fun i hi=>?_,fun i hi=>?_,fun i hi=>?_,fun i hi=>?_,rfl,rfl⟩
  ·simp only [C2,hD hi]
  ·simp only [C2,hD hi]
  ·simp only [C2,hD hi]
  ·simp only [C2,hD hi]; exact .inr rfl
 have hin1:∀ {i b},C1.η i=some b→i∈m.map (·.1)∧(i,some b)∈hb':=by
  intro i b hb1
  rw [hη'] at hb1
  by_cases hi:i∈hb'.map (·.1)
  ·obtain ⟨⟨i',ob⟩,h3,h4⟩:=List.mem_map.1 hi
   simp only at h4; subst h4
   have:=heapO_in n3 h3
   rw [this] at hb1; subst hb1
   exact ⟨hm ▸ hi,h3⟩
  ·rw [heapO_out hi] at hb1; cases hb1
 have hcells:∀ {i b},C1.η i=some b→inL (m.map (·.1)) b.cs=true:=fun hb1=>hok2 _ (hin1 hb1).2
 -- live blocks
 have hl2:∀ {k b},C2.η k=some b→(∃ i b1,bwd m k=some i∧C1.η i=some b1∧b=b1.ren (gOf m))∨(bwd m k=none∧C.η k=some b):=by
  intro k b hb2
  cases hbw:bwd m k with
  | none=>right; refine ⟨rfl,?_⟩; simpa only [C2,hbw] using hb2
  | some i=>
   left
   have:(C1.η i).map (Blk.ren (gOf m))=some b:=by simpa only [C2,hbw] using hb2
   cases hc1:C1.η i with
   | none=>rw [hc1] at this; cases this
   | some b1=>rw [hc1] at this; simp only [Option.map_some,Option.some.injEq] at this; exact ⟨i,b1,rfl,hc1,this.symm⟩
 have hnot0:∀ {k},bwd m k=none→C.live k→¬ C0.mine (C.ρ k).1:=by
  intro k hbw hl hm0
  obtain ⟨i,hi,hl',e⟩:=hmine0 _ hm0
  have:=hg.inj hl' hl e
  subst this
  obtain ⟨p,hp,rfl⟩:=List.mem_map.1 hi
  rw [hD (hsub' p hp).2] at hbw
  cases hbw
 have hlt:∀ {k},C.live k→(C.ρ k).1 < C0.w.heap.size:=fun hl=>by rw [ew]; exact hg.lt hl
 have hm1c:∀ {k},C1.mine k→C.mine k∨C.w.heap.size≤k:=fun hk=>(hfr.mine _ hk).imp hmine (fun h=>by rw [ew] at h; exact h)
 have hev:Ev C C2:=by
  refine ⟨⟨?_,?_,?_,?_,?_,?_,?_,?_⟩,fun _ h=>.inl h,?_⟩
  ·have:=hfr.os; rw [ew] at this; exact this
  ·have:=hfr.tape; rw [ew] at this; exact this
  ·have:=hfr.output; rw [ew] at this; exact this
  ·have:=hfr.size; rw [ew] at this; exact this
  ·intro k hk hn
   have:=hfr.keep k (by rw [ew]; exact hk) (fun h=>hn (hmine h))
   rw [ew] at this; exact this
  ·rintro k ⟨id,⟨b,hb2,hk2⟩,rfl⟩
   rcases hl2 hb2 with ⟨i,b1,e1,e2,rfl⟩ | ⟨e1,e2⟩
   ·have e3:C2.ρ id=C1.ρ i:=by simp only [C2,e1]
    rw [e3]
    exact hm1c ⟨i,⟨b1,e2,by rw [Blk.ren_kind] at hk2; exact hk2⟩,rfl⟩
   ·have e3:C2.ρ id=C.ρ id:=by simp only [C2,e1]
    rw [e3]
    exact .inl ⟨id,⟨b,e2,hk2⟩,rfl⟩
  ·intro k hk
   exact hfr.T k (by rw [eT]; exact hk)
  ·intro k hk
   rcases hfr.Tnew k hk with h | h | h
   ·exact .inl (by rw [← eT]; exact h)
   ·exact .inr (.inl (hmine h))
   ·exact .inr (.inr (by rw [← ew]; exact h))
  ·intro id b' hU hb2
   rcases hl2 hb2 with ⟨i,b1,e1,e2,rfl⟩ | ⟨e1,e2⟩
   ·have hmem:=bwd_some e1
    have hgi:=hgm hmem
    by_cases hi:i∈hb.map (·.1)
    ·have hTi:TOP≤i:=by obtain ⟨p,hp,rfl⟩:=List.mem_map.1 hi; exact (hsub' p hp).1
     obtain ⟨_,hold⟩:=hfr.pin i hTi ((eU i).2 hi)
     obtain ⟨b0,q1,q2,q3⟩:=hold b1 e2
     obtain ⟨b0',q4,q5⟩:=hu.η i hi
     rw [q1] at q4; cases q4
     rw [hgi] at q5
     refine ⟨_,q5,q2,fun e=>?_⟩
     obtain ⟨r1,r2,r3,r4⟩:=q3 e
     refine ⟨?_,?_,by rw [Blk.ren_kind,Blk.ren_kind]; exact r3,r4⟩
     ·simp only [C2,e1]; rw [r1,eρ,hgi]
     ·simp only [C2,e1]; rw [r2,esz,hgi]
    ·exfalso
     have hmem':i∈m.map (·.1):=List.mem_map.2 ⟨_,hmem,rfl⟩
     obtain ⟨ob,hob⟩:∃ ob,(i,ob)∈hb':=by
      rw [hm] at hmem'
      obtain ⟨⟨i',ob⟩,h3,h4⟩:=List.mem_map.1 hmem'
      simp only at h4; subst h4
      exact ⟨ob,h3⟩
     refine hnew (gOf m i,ob.map (Blk.ren (gOf m))) (List.mem_map.2 ⟨(i,ob),hob,rfl⟩) (fun hfpi=>?_) (by rw [hgi]; exact hU)
     obtain ⟨p,hp,e⟩:=List.mem_map.1 hfpi
     have h5:=hD (hsub' p hp).2
     simp only at e
     rw [e,hD hmem'] at h5
     exact hi (List.mem_map.2 ⟨p,hp,(Option.some.inj h5).symm⟩)
   ·refine ⟨b',e2,Nat.le_refl _,fun _=>⟨?_,?_,rfl,rfl⟩⟩
    ·simp only [C2,e1]
    ·simp only [C2,e1]
 have hkeep:∀ {k},bwd m k=none→C.live k→C1.w.heap[(C.ρ k).1]? = C.w.heap[(C.ρ k).1]?:=fun hbw hl=>by
  have:=hfr.keep _ (hlt hl) (hnot0 hbw hl)
  rw [ew] at this; exact this
 have hgood:Good C2:=by
  refine ⟨?_,?_,?_,?_,fun {k} hk=>hg1.tlt (k:=k) hk,?_,?_⟩
  ·intro k b hb2
   rcases hl2 hb2 with ⟨i,b1,e1,e2,rfl⟩ | ⟨e1,e2⟩
   ·exact .inr (by simp [e1])
   ·exact .inl (hg.used e2)
  ·intro k b hb2 hk
   rcases hl2 hb2 with ⟨i,b1,e1,e2,rfl⟩ | ⟨e1,e2⟩
   ·have e3:C2.ρ k=C1.ρ i:=by simp only [C2,e1]
    obtain ⟨ob,q1,q2⟩:=hg1.obj e2 (by rw [Blk.ren_kind] at hk; exact hk)
    rw [e3]
    exact ⟨ob,q1,q2.ren hren (hcells e2)⟩
   ·have e3:C2.ρ k=C.ρ k:=by simp only [C2,e1]
    obtain ⟨ob,q1,q2⟩:=hg.obj e2 hk
    rw [e3]
    exact ⟨ob,(hkeep e1 ⟨b,e2,by rw [hk]; decide⟩).trans q1,q2.mono hg hev⟩
  ·intro k b hb2 hn
   rcases hl2 hb2 with ⟨i,b1,e1,e2,rfl⟩ | ⟨e1,e2⟩
   ·have e3:C2.ρ k=C1.ρ i:=by simp only [C2,e1]
    have e4:C2.sz k=C1.sz i:=by simp only [C2,e1]
    have hlen:(b1.ren (gOf m)).cs.length=b1.cs.length:=renL_len _
    obtain ⟨c,t,q1,q2,q3,q4⟩:=hg1.blk e2 hn
    rw [e3,e4]
    refine ⟨c,t,q1,q2,by rw [hlen]; exact q3,fun j hj hj'=>?_⟩
    have hj2:j < b1.cs.length:=by rw [hlen] at hj; exact hj
    have e5:(b1.ren (gOf m)).cs[j]'hj=(b1.cs[j]).ren (gOf m):=renL_get hj
    rw [e5]
    exact (q4 j hj2 hj').ren hren (inL_at (hcells e2) j hj2)
   ·have e3:C2.ρ k=C.ρ k:=by simp only [C2,e1]
    have e4:C2.sz k=C.sz k:=by simp only [C2,e1]
    obtain ⟨c,t,q1,q2,q3,q4⟩:=hg.blk e2 hn
    rw [e3,e4]
    exact ⟨c,t,(hkeep e1 ⟨b,e2,Blk.k0' hn⟩).trans q1,q2,q3,fun j hj hj'=>(q4 j hj hj').mono hg hev⟩
  ·rintro k k' ⟨b,hb2,hk2⟩ ⟨b',hb2',hk2'⟩ e
   rcases hl2 hb2 with ⟨i,b1,e1,e2,rfl⟩ | ⟨e1,e2⟩ <;> rcases hl2 hb2' with ⟨i',b1',e1',e2',rfl⟩ | ⟨e1',e2'⟩
   ·have f1:C2.ρ k=C1.ρ i:=by simp only [C2,e1]
    have f2:C2.ρ k'=C1.ρ i':=by simp only [C2,e1']
    rw [f1,f2] at e
    have:=hg1.inj ⟨b1,e2,by rw [Blk.ren_kind] at hk2; exact hk2⟩ ⟨b1',e2',by rw [Blk.ren_kind] at hk2'; exact hk2'⟩ e
    subst this
    rw [← hgm (bwd_some e1),← hgm (bwd_some e1')]
   ·exfalso
    have f1:C2.ρ k=C1.ρ i:=by simp only [C2,e1]
    have f2:C2.ρ k'=C.ρ k':=by simp only [C2,e1']
    rw [f1,f2] at e
    have hm1:C1.mine (C1.ρ i).1:=⟨i,⟨b1,e2,by rw [Blk.ren_kind] at hk2; exact hk2⟩,rfl⟩
    rcases hfr.mine _ hm1 with q | q
    ·rw [e] at q; exact hnot0 e1' ⟨b',e2',hk2'⟩ q
    ·have:=hlt ⟨b',e2',hk2'⟩; omega
   ·exfalso
    have f1:C2.ρ k'=C1.ρ i':=by simp only [C2,e1']
    have f2:C2.ρ k=C.ρ k:=by simp only [C2,e1]
    rw [f1,f2] at e
    have hm1:C1.mine (C1.ρ i').1:=⟨i',⟨b1',e2',by rw [Blk.ren_kind] at hk2'; exact hk2'⟩,rfl⟩
    rcases hfr.mine _ hm1 with q | q
    ·rw [← e] at q; exact hnot0 e1 ⟨b,e2,hk2⟩ q
    ·have:=hlt ⟨b,e2,hk2⟩; omega
   ·have f1:C2.ρ k=C.ρ k:=by simp only [C2,e1]
    have f2:C2.ρ k'=C.ρ k':=by simp only [C2,e1']
    rw [f1,f2] at e
    exact hg.inj ⟨b,e2,hk2⟩ ⟨b',e2',hk2'⟩ e
  ·rintro k ⟨id,⟨b,hb2,hk2⟩,rfl⟩ hT
   rcases hl2 hb2 with ⟨i,b1,e1,e2,rfl⟩ | ⟨e1,e2⟩
   ·have f1:C2.ρ id=C1.ρ i:=by simp only [C2,e1]
    rw [f1] at hT
    exact hg1.apart ⟨i,⟨b1,e2,by rw [Blk.ren_kind] at hk2; exact hk2⟩,rfl⟩ hT
   ·have f1:C2.ρ id=C.ρ id:=by simp only [C2,e1]
    rw [f1] at hT
    rcases hfr.Tnew _ hT with q | q | q
    ·rw [eT] at q; exact hg.apart ⟨id,⟨b,e2,hk2⟩,rfl⟩ q
    ·exact hnot0 e1 ⟨b,e2,hk2⟩ q
    ·have:=hlt ⟨b,e2,hk2⟩; omega
  ·intro k b hb2 hv hn
   rcases hl2 hb2 with ⟨i,b1,e1,e2,rfl⟩ | ⟨e1,e2⟩
   ·have e3:C2.ρ k=C1.ρ i:=by simp only [C2,e1]
    have e4:C2.sz k=C1.sz i:=by simp only [C2,e1]
    have hlen:(b1.ren (gOf m)).cs.length=b1.cs.length:=renL_len _
    rw [e3,e4,hlen]
    exact hg1.tight e2 hv hn
   ·have e3:C2.ρ k=C.ρ k:=by simp only [C2,e1]
    have e4:C2.sz k=C.sz k:=by simp only [C2,e1]
    rw [e3,e4]
    exact hg.tight e2 hv hn
 -- what is written
 have hids:(deltaH m hb').map (·.1)=m.map (·.2):=by
  have e1:(deltaH m hb').map (·.1)=(hb'.map (·.1)).map (gOf m):=by simp [deltaH,Function.comp_def]
  rw [e1,← hm,List.map_map]
  exact List.map_congr_left (fun p hp=>hgm (show (p.1,p.2)∈m from hp))
 have hput:C2.η=C.η.put (deltaH m hb'):=by
  funext k
  cases hbw:bwd m k with
  | none=>
   rw [put_out (by
    rw [hids]
    intro hk
    obtain ⟨p,hp,rfl⟩:=List.mem_map.1 hk
    exact bwd_none hbw p.1 hp)]
   simp only [C2,hbw]
  | some i=>
   have hmem:=bwd_some hbw
   have hmem':i∈hb'.map (·.1):=hm ▸ List.mem_map.2 ⟨_,hmem,rfl⟩
   obtain ⟨⟨i',ob⟩,h3,h4⟩:=List.mem_map.1 hmem'
   simp only at h4; subst h4
   have h5:(gOf m i',ob.map (Blk.ren (gOf m)))∈deltaH m hb':=List.mem_map.2 ⟨_,h3,rfl⟩
   rw [hgm hmem] at h5
   rw [put_in (by rw [hids]; exact n2) h5]
   simp only [C2,hbw,hη',heapO_in n3 h3]
 refine hK x C2 hput (fun k=>?_) hgood hev (hx.ren hren hret)
 rw [hids]
 constructor
 ·rintro (hk | hk)
  ·exact .inl hk
  ·obtain ⟨i,hi⟩:=Option.isSome_iff_exists.1 hk
   exact .inr (List.mem_map.2 ⟨_,bwd_some hi,rfl⟩)
 ·rintro (hk | hk)
  ·exact .inl hk
  ·obtain ⟨⟨i,k'⟩,hp,rfl⟩:=List.mem_map.1 hk
   exact .inr (by rw [bwd_of n2 hp]; rfl)
theorem LOp.callH {f:FuncId} {xs:Array Operand} {ats:Array TypeId} {args:List AV} {hb:List (Nat×Blk)} {hb':List (Nat×Option Blk)} {ret r:AV} {fp:List Nat} {δ:List (Nat×Option Blk)} (m:List (Nat×Nat)) (hbd:bodied P f=true) (hc:HCall P f args hb hb' ret)
  (hm:m.map (·.1)=hb'.map (·.1)) (h1:nodupB (m.map (·.1))=true) (h2:nodupB (m.map (·.2))=true) (hsub:hb.all (fun p=>Nat.ble TOP p.1&&(m.map (·.1)).contains p.1)=true)
  (hη:allP (fun p=>η (gOf m p.1)=some (p.2.ren (gOf m))) hb) (hok:allP (fun p=>okBlk (hb.map (·.1)) p.2) hb) (hok':allP (fun p=>okO (m.map (·.1)) p.2) hb') (hargs:inL (hb.map (·.1)) args=true) (hret:ret.inB (m.map (·.1))=true)
  (hxs:xs.toList.map (aev τ)=renL (gOf m) args) (hfp:(hb.map fun p=>gOf m p.1)=fp) (hδ:deltaH m hb'=δ) (hr:ret.ren (gOf m)=r) :
  LOp P ⟨d,.call { callee:=.value (.func f),args:=xs,argTypes:=ats },ty,pos,af,g⟩ τ η fp δ r:=by
 subst hfp hδ hr
 refine LOp.of_callH m hc hm h1 h2 hsub hη hok hok' hargs hret fun C a hg hx=>⟨xs.map a.eval,?_,?_⟩
 ·rw [← hxs]
  refine ⟨by simp,fun i h h'=>?_⟩
  simp only [List.getElem_map,Array.getElem_toList,Array.getElem_map]
  exact hx _ (by simp [Op.operands,Call.operands])
 ·have:execOp a.eval ⟨d,.call { callee:=.value (.func f),args:=xs,argTypes:=ats },ty,pos,af,g⟩=callFunc f (#[]++xs.map a.eval++#[]):=rfl
  rw [this,run_callFunc' hbd]
  simp
/-- What is written as it stands is not written. -/
theorem LOp.still {o:Oper} {fp:List Nat} {δ:List (Nat×Option Blk)} {v:AV} (h:LOp P o τ η fp δ v) (hs:allP (fun p=>p.1∈fp∧η p.1=p.2∧p.2.isSome=true) δ):LOp P o τ η fp [] v:=by
 have hs':=allP_iff.1 hs
 intro C a hg hxs hfp _ K Q hK
 refine h C a hg hxs hfp (fun p hp hn=>absurd (hs' p hp).1 hn) K Q fun x C' h1 h2 h3 h4 h5=>hK x C' ?_ (fun id=>?_) h3 h4 h5
 ·rw [h1]
  have:∀ (δ:List (Nat×Option Blk)) (η':Heap),(∀ p∈δ,η' p.1=p.2)→η'.put δ=η':=by
   intro δ
   induction δ with
   | nil=>intro _ _; rfl
   | cons p r ih=>
    intro η' hp
    have e:η'.set p.1 p.2=η':=by
     funext k
     by_cases hk:k=p.1
     ·subst hk; rw [Heap.set_same,hp p (by simp)]
     ·rw [Heap.set_other _ _ hk]
    show (η'.set p.1 p.2).put r=η'
    rw [e]
    exact ih η' (fun q hq=>hp q (by simp [hq]))
  exact this δ C.η (fun p hp=>(hfp _ (hs' p hp).1).trans (hs' p hp).2.1)
 ·rw [h2]
  simp only [List.map_nil,List.not_mem_nil,or_false]
  constructor
  ·rintro (hk | hk)
   ·exact hk
   ·obtain ⟨p,hp,rfl⟩:=List.mem_map.1 hk
    obtain ⟨q1,q2,q3⟩:=hs' p hp
    obtain ⟨b,hb⟩:=Option.isSome_iff_exists.1 q3
    exact hg.used ((hfp _ q1).trans (q2.trans hb))
  ·exact .inl
end
end Go.Proofs.YtgknefkobpnjaaaGreatDoor
namespace Go.Proofs.YtgknefkobpnjaaaGreatDoor
set_option linter.unusedVariables false
set_option linter.unusedSimpArgs false
open Go.RowKit
/-- Some blocks are forgotten, the cells of others are read otherwise, more of the memory is left alone from now on. -/
theorem VR.shift {C C':Ctx} (hρ:C'.ρ=C.ρ) (hsz:C'.sz=C.sz) (hw:C'.w=C.w) (hU:C'.U=C.U) (hT:∀ b,C.T b→C'.T b) (hused:∀ {id b},C.η id=some b→C.U id)
  (hη:∀ id b',C'.η id=some b'→∃ b,C.η id=some b∧b'.ver=b.ver∧b'.nilp=b.nilp∧b'.kind=b.kind∧b'.esz=b.esz) {a:AV} {x:Value} (h:VR C a x):VR C' a x:=by
 have st:∀ {id ver:Nat},(∀ b,C.η id=some b→ver < b.ver)→∀ b,C'.η id=some b→ver < b.ver:=by
  intro id ver h b hb
  obtain ⟨b0,h0,h1,_⟩:=hη id b hb
  rw [h1]; exact h b0 h0
 have keep:∀ {id:Nat} {b:Blk},C.η id=some b→(∃ b',C'.η id=some b'∧b'.ver=b.ver∧b'.nilp=b.nilp∧b'.kind=b.kind∧b'.esz=b.esz)∨C'.η id=none:=by
  intro id b hb
  cases h':C'.η id with
  | none=>exact .inr rfl
  | some b'=>
   obtain ⟨b0,h0,hh⟩:=hη id b' h'
   rw [hb] at h0; cases h0
   exact .inl ⟨b',rfl,hh⟩
 induction h with
 | imm h=>exact .imm (h.mono hT (fun _ _=>by rw [hw]))
 | ptr hb he hn=>
  rcases keep hb with ⟨b',h',e1,e2,e3,e4⟩ | h'
  ·rw [← hρ]; exact .ptr h' (e1.trans he) (e2.trans hn)
  ·exact .stalep rfl (by rw [hU]; exact hused hb) (fun b hb'=>by rw [h'] at hb'; cases hb')
 | sl hb he hn h1 h2 h3 h4=>
  rcases keep hb with ⟨b',h',e1,e2,e3,e4⟩ | h'
  ·rw [← hρ]; exact .sl h' (e1.trans he) (e2.trans hn) h1 h2 h3 (by rw [hρ,hsz,e4]; exact h4)
  ·exact .stales rfl (by rw [hU]; exact hused hb) (fun b hb'=>by rw [h'] at hb'; cases hb')
 | slz hb he hn=>
  rcases keep hb with ⟨b',h',e1,e2,e3,e4⟩ | h'
  ·exact .slz h' (e1.trans he) (e2.trans hn)
  ·exact .stales rfl (by rw [hU]; exact hused hb) (fun b hb'=>by rw [h'] at hb'; cases hb')
 | slnil hb he hn=>
  rcases keep hb with ⟨b',h',e1,e2,e3,e4⟩ | h'
  ·exact .slnil h' (e1.trans he) (e3.trans hn)
  ·exact .stales rfl (by rw [hU]; exact hused hb) (fun b hb'=>by rw [h'] at hb'; cases hb')
 | mp hb he hn=>
  rcases keep hb with ⟨b',h',e1,e2,e3,e4⟩ | h'
  ·rw [← hρ]; exact .mp h' (e1.trans he) (e3.trans hn)
  ·exact .stalem rfl (by rw [hU]; exact hused hb) (fun b hb'=>by rw [h'] at hb'; cases hb')
 | it hb he hn=>
  rcases keep hb with ⟨b',h',e1,e2,e3,e4⟩ | h'
  ·rw [← hρ]; exact .it h' (e1.trans he) (e3.trans hn)
  ·exact .stalei rfl (by rw [hU]; exact hused hb) (fun b hb'=>by rw [h'] at hb'; cases hb')
 | stalem h1 hu hs=>exact .stalem h1 (by rw [hU]; exact hu) (st hs)
 | stalei h1 hu hs=>exact .stalei h1 (by rw [hU]; exact hu) (st hs)
 | stalep h1 hu hs=>exact .stalep h1 (by rw [hU]; exact hu) (st hs)
 | stales h1 hu hs=>exact .stales h1 (by rw [hU]; exact hu) (st hs)
 | agg hl _ ih=>exact .agg hl ih
 | tup hl _ ih=>exact .tup hl ih
 | clo hl _ ih=>exact .clo hl ih
theorem ObjR.shift {C C':Ctx} (h:∀ {a:AV} {x:Value},VR C a x→VR C' a x) {cs:List AV} {o:Obj} (ho:ObjR C cs o):ObjR C' cs o:=by
 cases ho with
 | map hl hi=>exact .map hl (fun i h1 h2=>⟨(hi i h1 h2).1,h (hi i h1 h2).2.1,(hi i h1 h2).2.2⟩)
 | siter=>exact .siter
 | miter0=>exact .miter0
 | miter hv=>exact .miter (h hv)
/-- Values, some of which are frozen. -/
inductive FzC (fp:List Nat) (η:Heap):List AV→List AV→Prop where
 | nil:FzC fp η [] []
 | same {a:AV} {cs ds:List AV}:FzC fp η cs ds→FzC fp η (a :: cs) (a :: ds)
 | fz {a r:AV} {cs ds:List AV}:FzP fp η a r→FzC fp η cs ds→FzC fp η (a :: cs) (r :: ds)
theorem FzC.refl {fp:List Nat} {η:Heap}:∀ l:List AV,FzC fp η l l
 | []=>.nil
 | _ :: r=>.same (FzC.refl r)
theorem FzC.len {fp:List Nat} {η:Heap} {cs ds:List AV} (h:FzC fp η cs ds):cs.length=ds.length:=by
 induction h with
 | nil=>rfl
 | same _ ih=>simp [ih]
 | fz _ _ ih=>simp [ih]
theorem FzC.at {fp:List Nat} {η:Heap} {cs ds:List AV} (h:FzC fp η cs ds):∀ (i:Nat) (h1:i < cs.length) (h2:i < ds.length),ds[i]=cs[i]∨FzP fp η cs[i] ds[i]:=by
 induction h with
 | nil=>intro i h1; simp at h1
 | same _ ih=>intro i h1 h2; cases i with
  | zero=>exact .inl rfl
  | succ i=>simpa using ih i (by simpa using h1) (by simpa using h2)
 | fz hf _ ih=>intro i h1 h2; cases i with
  | zero=>exact .inr hf
  | succ i=>simpa using ih i (by simpa using h1) (by simpa using h2)
inductive RetFz (fp:List Nat) (η:Heap):AV→AV→Prop where
 | same {a:AV}:RetFz fp η a a
 | fz {a r:AV}:FzP fp η a r→RetFz fp η a r
 | tup {cs ds:List AV}:FzC fp η cs ds→RetFz fp η (.tup cs) (.tup ds)
/-- A block as it is left. -/
inductive Left (fp:List Nat) (η:Heap):Nat×Option Blk→Prop where
 | gone {i:Nat}:Left fp η (i,none)
 | same {i:Nat} {b:Blk}:η i=some b→i∉fp→Left fp η (i,some b)
 | cells {i ver ez:Nat} {cs ds:List AV}:η i=some ⟨ver,cs,ez,false⟩→i∉fp→FzC fp η cs ds→Left fp η (i,some ⟨ver,ds,ez,false⟩)
def ResIs (P:Program) (N:Nat) (fn:Func) (s:St) (a0:AV):Prop:=∀ C a,SRel N C s a→∃ x,(results fn a.tmps).run P C.w=.ok x C.w∧VR C a0 x
theorem SRel.toX {N:Nat} {C:Ctx} {s:St} {a:Act} (h:SRel N C s a):SRelX [] (fun _=>True) s.u N C s a:=⟨h.good,fun id _=>by rw [h.η],fun id h1 h2=>by omega,h.defers,h.size,h.τ⟩
theorem ResIs.all {P:Program} {N:Nat} {fn:Func} {s:St} {vs:List AV} (h:AllX P (fun _=>True) s.u N s fn.results.toList vs):ResIs P N fn s (pack vs):=fun C a hr=>OutsX.of_all h [] C a hr.toX
theorem ResIs.res {P:Program} {N:Nat} {fn:Func} {s:St} {vs:List AV} {rs:Array ResultVar} (hr:fn.results=rs) (h:AllX P (fun _=>True) s.u N s rs.toList vs):ResIs P N fn s (pack vs):=ResIs.all (by rw [hr]; exact h)
/-- What the function gives and leaves in a state. -/
def OutsH (P:Program) (N:Nat) (fn:Func) (s:St) (hb':List (Nat×Option Blk)) (ret:AV):Prop :=
 ∀ C a,SRel N C s a→∃ x C',(results fn a.tmps).run P C.w=.ok x C.w∧C'.w=C.w∧C'.η=heapO hb'∧Good C'∧Fr C C'∧VR C' ret x
theorem OutsH.of {P:Program} {N:Nat} {fn:Func} {s:St} {hb':List (Nat×Option Blk)} {a0 ret:AV} (fp:List Nat) (hres:ResIs P N fn s a0) (hn:nodupB (hb'.map (·.1))=true) (hl:allP (Left fp s.η) hb') (hr:RetFz fp s.η a0 ret):OutsH P N fn s hb' ret:=by
 intro C a hs
 have n:=nodupB_iff.1 hn
 have hl1:=allP_iff.1 hl
 obtain ⟨x,h1,h2⟩:=hres C a hs
 let C':Ctx:={ C with η:=heapO hb',T:=fun b=>C.T b∨C.mineOf fp b }
 have hin:∀ {i b},heapO hb' i=some b→(i,some b)∈hb':=by
  intro i b hb1
  by_cases hi:i∈hb'.map (·.1)
  ·obtain ⟨⟨i',ob⟩,h3,h4⟩:=List.mem_map.1 hi
   simp only at h4; subst h4
   have:=heapO_in n h3
   rw [this] at hb1; subst hb1
   exact h3
  ·rw [heapO_out hi] at hb1; cases hb1
 have hold:∀ {i b'},heapO hb' i=some b'→∃ b,C.η i=some b∧i∉fp∧b'.ver=b.ver∧b'.nilp=b.nilp∧b'.kind=b.kind∧b'.esz=b.esz∧FzC fp s.η b.cs b'.cs∧(b'.nilp=true→b'.cs=b.cs):=by
  intro i b' hb1
  have:=hl1 _ (hin hb1)
  cases this with
  | same h3 h4=>exact ⟨b',by rw [hs.η]; exact h3,h4,rfl,rfl,rfl,rfl,FzC.refl _,fun _=>rfl⟩
  | @cells _ ver ez cs ds h3 h4 h5=>exact ⟨⟨ver,cs,ez,false⟩,by rw [hs.η]; exact h3,h4,rfl,rfl,(Blk.k0 rfl).trans (Blk.k0 rfl).symm,rfl,h5,fun e=>by cases e⟩
 have hvr:∀ {a:AV} {x:Value},VR C a x→VR C' a x:=fun hv=>VR.shift (C:=C) (C':=C') rfl rfl rfl rfl (fun b hb=>.inl hb) hs.good.used (fun id b' hb=>by
  obtain ⟨b,q1,_,q2,q3,q4,q5,_⟩:=hold hb
  exact ⟨b,q1,q2,q3,q4,q5⟩) hv
 have hfz:∀ {a r:AV} {x:Value},FzP fp s.η a r→VR C a x→VR C' r x:=fun hf hv=>.imm (hf C hs.good (fun id _=>by rw [hs.η]) _ hv)
 have hlive:∀ {i},C'.live i→C.live i∧i∉fp:=by
  rintro i ⟨b',hb1,hk⟩
  obtain ⟨b,q1,q0,q2,q3,q4,_⟩:=hold hb1
  exact ⟨⟨b,q1,by rw [← q4]; exact hk⟩,q0⟩
 refine ⟨x,C',h1,rfl,rfl,⟨?_,?_,?_,?_,?_,?_,?_⟩,⟨⟨rfl,rfl,rfl,Nat.le_refl _,fun _ _ _=>rfl,fun k ⟨i,q1,q2⟩=>.inl ⟨i,(hlive q1).1,q2⟩,fun k h=>.inl h,fun k h=>?_⟩,?_⟩,?_⟩
 ·intro i b' hb1
  obtain ⟨b,q1,_⟩:=hold hb1
  exact hs.good.used q1
 ·intro i b' hb1 hk
  obtain ⟨b,q1,_,q2,q3,q4,_,_,q5⟩:=hold hb1
  obtain ⟨o,g1,g2⟩:=hs.good.obj q1 (by rw [← q4]; exact hk)
  refine ⟨o,g1,?_⟩
  rw [q5 (Blk.nil2 hk).1]
  exact ObjR.shift hvr g2
 ·intro i b' hb1 hn'
  obtain ⟨b,q1,_,q2,q3,q4,_,q5,_⟩:=hold hb1
  obtain ⟨c,t,g1,g2,g3,g4⟩:=hs.good.blk q1 (by rw [← q3]; exact hn')
  have hlen:=q5.len
  refine ⟨c,t,g1,g2,by rw [← hlen]; exact g3,fun j hj hj'=>?_⟩
  have:=g4 j (by omega) hj'
  rcases q5.at j (by omega) hj with e | e
  ·rw [e]; exact hvr this
  ·exact hfz e this
 ·intro i j hi hj e
  exact hs.good.inj (hlive hi).1 (hlive hj).1 e
 ·rintro k (hk | hk)
  ·exact hs.good.tlt hk
  ·exact Ctx.mine_lt hs.good (Ctx.mineOf_mine hk)
 ·rintro k ⟨i,hl',hk⟩ (hT | ⟨i',hi',hl'',e⟩)
  ·exact hs.good.apart ⟨i,(hlive hl').1,hk⟩ hT
  ·have:i'=i:=hs.good.inj hl'' (hlive hl').1 (e.trans hk.symm)
   subst this
   exact (hlive hl').2 hi'
 ·intro i b' hb1 hv hn'
  obtain ⟨b,q1,_,q2,q3,q4,_,q5,_⟩:=hold hb1
  have:=hs.good.tight q1 (q2 ▸ hv) (by rw [← q3]; exact hn')
  rw [← q5.len]; exact this
 ·rcases h with h | h
  ·exact .inl h
  ·exact .inr (.inl (Ctx.mineOf_mine h))
 ·intro id _ hu
  refine ⟨hu,fun b' hb1=>?_⟩
  obtain ⟨b,q1,_,q2,q3,q4,q5,_⟩:=hold hb1
  exact ⟨b,q1,by omega,fun _=>⟨rfl,rfl,q4,q5⟩⟩
 ·cases hr with
  | same=>exact hvr h2
  | fz hf=>exact hfz hf h2
  | tup hf=>
   obtain ⟨vs,rfl,hl1,hi1⟩:=h2.tup_inv'
   have hlen:=hf.len
   refine .tup (by omega) (fun i hi hi'=>?_)
   have:=hi1 i (by omega) hi'
   rcases hf.at i (by omega) hi with e | e
   ·rw [e]; exact hvr this
   ·exact hfz e this
/-- nil, as a slice of the caller's that is nil so far. -/
theorem OutsH.nil {P:Program} {N:Nat} {fn:Func} {s:St} {z v:Nat} (hres:ResIs P N fn s (.v (.slice none 0 0))):OutsH P N fn s [(0,some ⟨v,[],z,true⟩)] (.sl 0 v 0 0):=by
 intro C a hs
 obtain ⟨x,h1,h2⟩:=hres C a hs
 have h3:=h2.v_inv
 subst h3
 let C':Ctx:={ C with η:=heapO [(0,some ⟨v,[],z,true⟩)],U:=fun i=>C.U i∨i=0 }
 have hone:∀ {i b},C'.η i=some b→i=0∧b=⟨v,[],z,true⟩:=by
  intro i b hb1
  by_cases e:i=0
  ·subst e
   have:C'.η 0=some ⟨v,[],z,true⟩:=rfl
   rw [this] at hb1; cases hb1; exact ⟨rfl,rfl⟩
  ·have:C'.η i=none:=by simp [C',heapO,beq_ne e]
   rw [this] at hb1; cases hb1
 have hno:∀ {i},¬ C'.live i:=by
  rintro i ⟨b,h,hk⟩
  obtain ⟨_,rfl⟩:=hone h
  exact hk rfl
 have hnm:∀ {k},¬ C'.mine k:=fun ⟨i,h,_⟩=>hno h
 refine ⟨_,C',h1,rfl,rfl,⟨fun h=>.inr (hone h).1,?_,?_,fun h=>absurd h hno,fun hk=>hs.good.tlt hk,fun h=>absurd h hnm,?_⟩,⟨⟨rfl,rfl,rfl,Nat.le_refl _,fun _ _ _=>rfl,fun k h=>absurd h hnm,fun _ h=>h,fun _ h=>.inl h⟩,fun id ht hu=>⟨.inl hu,fun b' hb1=>?_⟩⟩,.slnil (b:=⟨v,[],z,true⟩) rfl rfl rfl⟩
 ·intro i b h hk
  obtain ⟨_,rfl⟩:=hone h
  cases hk
 ·intro i b h hn
  obtain ⟨_,rfl⟩:=hone h
  cases hn
 ·intro i b h _ hn
  obtain ⟨_,rfl⟩:=hone h
  cases hn
 ·obtain ⟨rfl,_⟩:=hone hb1
  exact absurd ht (by decide)
theorem HCall.of_body {P:Program} {f:FuncId} {fn:Func} {c:Code} {N:Nat} {args:List AV} {hb:List (Nat×Blk)} {hb':List (Nat×Option Blk)} {ret:AV} (hf:P.funcs[f]? = some fn) (hbd:fn.body=some c) (hN:fn.ntmps=N) (hl:args.length≤N)
  (h:AWP P N c (fun e s'=>(e=.normal∨e=.ret)∧OutsH P N fn s' hb' ret) ⟨frameOf args,hLz hb,0⟩):HCall P f args hb hb' ret:=by
 intro C vals hg hη hU ⟨hlen,hv⟩
 have hr:SRel N C ⟨frameOf args,hLz hb,0⟩ { tmps:=vals++Array.replicate (fn.ntmps - vals.size) undef,defers:=[] }:=by
  refine ⟨hg,hη,fun id h=>.inr (hU id h),rfl,by simp; omega,fun t=>?_⟩
  simp only [Act.eval,frameOf]
  by_cases ht:t < args.length
  ·have h1:args.getD t (.v undef)=args[t]:=by simp [List.getD,ht]
   have h2:(vals++Array.replicate (fn.ntmps - vals.size) undef).getD t undef=vals[t]'(by omega):=by
    rw [Array.getD_eq_getD_getElem?,Array.getElem?_append_left (by omega)]
    simp [show t < vals.size by omega]
   rw [h1,h2]
   exact hv t ht (by omega)
  ·have h1:args.getD t (.v undef)=.v undef:=by simp [List.getD,List.getElem?_eq_none (Nat.le_of_not_lt ht)]
   have h2:(vals++Array.replicate (fn.ntmps - vals.size) undef).getD t undef=undef:=by
    rw [Array.getD_eq_getD_getElem?,Array.getElem?_append_right (by omega)]
    rw [Array.getElem?_replicate]
    split <;> rfl
   rw [h1,h2]
   exact VR.v _ _
 refine calls_of_wp hf hbd (Code.wp_mono ?_ (h C _ hr))
 rintro e a' w' ⟨s',C',⟨he,ho⟩,rfl,hr',hfr⟩
 obtain ⟨x,C2,h1,h2,h3,h4,h5,h6⟩:=ho C' a' hr'
 have hgive:∃ x' C'',(Ending.returned x)=.returned x'∧C''.w=C'.w∧C''.η=heapO hb'∧Good C''∧Fr C C''∧VR C'' ret x':=⟨x,C2,rfl,h2,h3,h4,hfr.trans h5,h6⟩
 rcases he with rfl | rfl
 ·exact ⟨hr'.defers,x,h1,hgive⟩
 ·exact ⟨hr'.defers,x,h1,hgive⟩
end Go.Proofs.YtgknefkobpnjaaaGreatDoor
namespace Go.Proofs.YtgknefkobpnjaaaGreatDoor
set_option linter.unusedVariables false
set_option linter.unusedSimpArgs false
open Go.RowKit Go.Sort
def iF (l:List Int):List AV:=l.map fun n=>.v (.int .i64 n)
theorem iF_len {l:List Int}:(iF l).length=l.length:=by simp [iF]
theorem HCall.ofRow {P:Program} {f:FuncId} {l l':List Int} {v:Nat} {ret:AV} {rv:Nat→Nat→Nat→Value} (hpos:0 < l.length) (hlen:l'.length=l.length)
  (hret:(ret=.v (.tuple #[])∧∀ b o c,rv b o c=.tuple #[])∨∃ m,m≤l.length∧ret=.sl TOP v 0 m∧∀ b o c,rv b o c=.slice (some ⟨b,o,none⟩) m c)
  (h:∀ (blk off cap:Nat) (w:World),Holds (Value.int .i64) w blk off l.toArray→blk < w.heap.size→l.length≤cap→Calls P f #[.slice (some ⟨blk,off,none⟩) l.length cap] w (fun e w'=>e=.returned (rv blk off cap)∧∃ q os,w'=grow ((w.drewN q).setCells blk off (l'.map (Value.int .i64))) os)) :
  HCall P f [.sl TOP v 0 l.length] [(TOP,⟨v,iF l,1,false⟩)] [(TOP,some ⟨v,iF l',1,false⟩)] ret:=by
 intro C vals hg hη hU ⟨hvl,hv⟩
 have hb:C.η TOP=some ⟨v,iF l,1,false⟩:=by rw [hη]; simp [hLz]
 have h0:=hv 0 (by simp) (by simp at hvl; omega)
 simp only [List.getElem_cons_zero] at h0
 obtain ⟨ad,cap,e1,c1,c2,c3,c4⟩:=h0.sl_inv hb rfl rfl
 have had:ad=⟨(C.ρ TOP).1,(C.ρ TOP).2+0,none⟩∧(C.ρ TOP).2+0+cap * 1≤C.sz TOP:=by
  rcases c4 with ⟨h,_⟩ | ⟨h1,h2⟩
  ·omega
  ·exact ⟨h1,h2⟩
 obtain ⟨rfl,hsz⟩:=had
 have hvals:vals=#[.slice (some ⟨(C.ρ TOP).1,(C.ρ TOP).2+0,none⟩) l.length cap]:=by
  apply Array.ext
  ·simpa using hvl.symm
  ·intro i hi hi'
   have:i=0:=by simp at hi'; omega
   subst this
   exact e1
 obtain ⟨c,t,g1,g2,g3,g4⟩:=hg.blk hb rfl
 simp only [iF_len] at g3
 have hcell:∀ j,j < l.length→∃ hj:(C.ρ TOP).2+j < c.size,c[(C.ρ TOP).2+j]=.int .i64 (l.getD j 0):=by
  intro j hj
  refine ⟨by omega,?_⟩
  have:=g4 j (by simp [iF_len,hj]) (by omega)
  have e:(iF l)[j]'(by simp [iF_len,hj])=.v (.int .i64 l[j]):=by simp [iF]
  rw [e] at this
  rw [this.v_inv]; simp [List.getD,hj]
 have hH:Holds (Value.int .i64) C.w (C.ρ TOP).1 ((C.ρ TOP).2+0) l.toArray:=by
  intro j hj
  have hj':j < l.length:=by simpa using hj
  obtain ⟨k1,k2⟩:=hcell j hj'
  refine ⟨?_,by simp [World.frozen?,g1]⟩
  have:C.w.cell? ⟨(C.ρ TOP).1,(C.ρ TOP).2+0+j,none⟩=c[(C.ρ TOP).2+j]?:=by simp [World.cell?,g1]
  rw [this,Array.getElem?_eq_getElem k1,k2]
  simp [List.getD,hj']
 have hlt:(C.ρ TOP).1 < C.w.heap.size:=(Array.getElem?_eq_some_iff.1 g1).1
 rw [hvals]
 refine Calls.mono (h _ _ cap C.w hH hlt c1) ?_
 rintro e w' ⟨rfl,q,os,rfl⟩
 have k1:(C.w.drewN q).heap[(C.ρ TOP).1]? = some (.cells c t (0,0)):=g1
 have k2:=setCells_heap (l'.map (Value.int .i64)) (C.w.drewN q) (C.ρ TOP).1 ((C.ρ TOP).2+0) c t k1
 obtain ⟨r1,r2,r3,r4⟩:=setCells_rest (l'.map (Value.int .i64)) (C.w.drewN q) (C.ρ TOP).1 ((C.ρ TOP).2+0)
 have r4':((C.w.drewN q).setCells (C.ρ TOP).1 ((C.ρ TOP).2+0) (l'.map (Value.int .i64))).heap.size=C.w.heap.size:=r4
 have hgrow:∀ k,k < C.w.heap.size→(grow ((C.w.drewN q).setCells (C.ρ TOP).1 ((C.ρ TOP).2+0) (l'.map (Value.int .i64))) os).heap[k]? = ((C.w.drewN q).setCells (C.ρ TOP).1 ((C.ρ TOP).2+0) (l'.map (Value.int .i64))).heap[k]?:=by
  intro k hk
  unfold grow
  rw [Array.getElem?_append_left (by rw [r4']; exact hk)]
 have hother:∀ k,k < C.w.heap.size→k≠(C.ρ TOP).1→(grow ((C.w.drewN q).setCells (C.ρ TOP).1 ((C.ρ TOP).2+0) (l'.map (Value.int .i64))) os).heap[k]? = C.w.heap[k]?:=by
  intro k hk hne
  rw [hgrow k hk,setCells_other _ _ _ _ _ hne]
  rfl
 generalize hw':grow ((C.w.drewN q).setCells (C.ρ TOP).1 ((C.ρ TOP).2+0) (l'.map (Value.int .i64))) os=w' at hgrow hother
 have hsize:C.w.heap.size≤w'.heap.size:=by
  rw [← hw']
  show _≤(((C.w.drewN q).setCells (C.ρ TOP).1 ((C.ρ TOP).2+0) (l'.map (Value.int .i64))).heap++os).size
  rw [Array.size_append,r4']
  omega
 have hrest:w'.os=C.w.os∧w'.tape=C.w.tape∧w'.output=C.w.output:=by rw [← hw']; exact ⟨r1,r2,r3⟩
 have hblk:w'.heap[(C.ρ TOP).1]? = some (.cells (setR c ((C.ρ TOP).2+0) (l'.map (Value.int .i64))) t (0,0)):=by rw [hgrow _ hlt]; exact k2
 let C':Ctx:={ C with η:=heapO [(TOP,some ⟨v,iF l',1,false⟩)],w:=w' }
 have hone:∀ {i b},C'.η i=some b→i=TOP∧b=⟨v,iF l',1,false⟩:=by
  intro i b hb1
  by_cases e:i=TOP
  ·subst e
   have:C'.η TOP=some ⟨v,iF l',1,false⟩:=by simp [C',heapO]
   rw [this] at hb1; cases hb1; exact ⟨rfl,rfl⟩
  ·have:C'.η i=none:=by simp [C',heapO,beq_ne e]
   rw [this] at hb1; cases hb1
 have hmine:∀ {k},C'.mine k→k=(C.ρ TOP).1:=by
  rintro k ⟨i,⟨b,hb1,_⟩,rfl⟩
  obtain ⟨rfl,_⟩:=hone hb1
  rfl
 have hminC:C.mine (C.ρ TOP).1:=⟨TOP,⟨_,hb,Blk.k0' rfl⟩,rfl⟩
 refine ⟨_,C',rfl,rfl,rfl,⟨?_,?_,?_,?_,?_,?_,?_⟩,⟨⟨hrest.1,hrest.2.1,hrest.2.2,hsize,fun k hk hn=>hother k hk (fun e=>hn (by rw [e]; exact hminC)),fun k hk=>.inl (by rw [hmine hk]; exact hminC),fun _ h=>h,fun _ h=>.inl h⟩,?_⟩,?_⟩
 ·intro i b hb1
  obtain ⟨rfl,_⟩:=hone hb1
  exact hg.used hb
 ·intro i b hb1 hk
  obtain ⟨rfl,rfl⟩:=hone hb1
  rw [Blk.k0 rfl] at hk; cases hk
 ·intro i b hb1 hn
  obtain ⟨rfl,rfl⟩:=hone hb1
  refine ⟨_,t,hblk,by rw [setR_size]; exact g2,by rw [setR_size,iF_len,hlen]; exact g3,fun j hj hj'=>?_⟩
  have hj2:j < l'.length:=by simpa [iF_len] using hj
  have e2:(iF l')[j]'(by simpa [iF_len] using hj2)=.v (.int .i64 l'[j]):=by simp [iF]
  have e3:=setR_in (l'.map (Value.int .i64)) c ((C.ρ TOP).2+0) j (by simp; omega) (by simpa using hj2)
  have e4:(setR c ((C.ρ TOP).2+0) (l'.map (Value.int .i64)))[(C.ρ TOP).2+j]? = some (.int .i64 l'[j]):=by
   rw [Nat.add_zero] at e3 ⊢
   rw [e3]; simp [hj2]
  have e5:(setR c ((C.ρ TOP).2+0) (l'.map (Value.int .i64)))[(C.ρ TOP).2+j]'hj'=.int .i64 l'[j]:=by
   rw [Array.getElem?_eq_getElem hj'] at e4
   exact Option.some.inj e4
  show VR C' (iF l')[j] _
  rw [e2]
  have e6:(setR c ((C.ρ TOP).2+0) (l'.map (Value.int .i64)))[(C'.ρ TOP).2+j]'hj'=.int .i64 l'[j]:=e5
  rw [e6]
  exact VR.v _ _
 ·rintro i j ⟨b,hb1,_⟩ ⟨b',hb2,_⟩ _
  rw [(hone hb1).1,(hone hb2).1]
 ·intro k hk
  exact Nat.lt_of_lt_of_le (hg.tlt (k:=k) hk) hsize
 ·intro k hk hT
  rw [hmine hk] at hT
  exact hg.apart hminC hT
 ·intro i b hb1 hv' hn
  obtain ⟨rfl,rfl⟩:=hone hb1
  have:=hg.tight hb hv' rfl
  show C.sz TOP=(C.ρ TOP).2+(iF l').length
  rw [this,iF_len,iF_len,hlen]
 ·intro id ht hu
  refine ⟨hu,fun b' hb1=>?_⟩
  obtain ⟨rfl,rfl⟩:=hone hb1
  exact ⟨_,hb,Nat.le_refl _,fun _=>⟨rfl,rfl,by rw [Blk.k0 rfl,Blk.k0 rfl],rfl⟩⟩
 ·rcases hret with ⟨rfl,hrv⟩ | ⟨m,hm,rfl,hrv⟩
  ·rw [hrv]; exact VR.v _ _
  ·rw [hrv]
   have:=VR.sl (C:=C') (id:=TOP) (ver:=v) (off:=0) (len:=m) (cap:=cap) (b:=⟨v,iF l',1,false⟩) (by simp [C',heapO]) rfl rfl (by omega) c2 (by omega) hsz
   exact this
end Go.Proofs.YtgknefkobpnjaaaGreatDoor
namespace Go.Proofs.YtgknefkobpnjaaaGreatDoor
set_option linter.unusedVariables false
set_option linter.unusedSimpArgs false
open Go.RowKit
/-- The entries of a map of ints, in the order in which they came. -/
def mEs:Nat→List (Int×Int)→List (Value×AV×Nat)
 | _,[]=>[]
 | i,p :: r=>(.int .i64 p.1,.v (.int .i64 p.2),i) :: mEs (i+1) r
theorem mEs_len:∀ (i:Nat) (l:List (Int×Int)),(mEs i l).length=l.length
 | _,[]=>rfl
 | i,p :: r=>by simp [mEs,mEs_len (i+1) r]
theorem mEs_get:∀ (i:Nat) (l:List (Int×Int)) (j:Nat) (h:j < (mEs i l).length),(mEs i l)[j]=(.int .i64 (l[j]'(by rw [mEs_len] at h; exact h)).1,.v (.int .i64 (l[j]'(by rw [mEs_len] at h; exact h)).2),i+j)
 | _,[],_,h=>absurd h (by simp [mEs])
 | i,p :: r,0,_=>rfl
 | i,p :: r,j+1,h=>by
  have:=mEs_get (i+1) r j (by simpa [mEs] using h)
  simp only [mEs,List.getElem_cons_succ,this]
  rw [show i+1+j=i+(j+1) by omega]
theorem mEs_mem {i:Nat} {l:List (Int×Int)} {e:Value×AV×Nat} (h:e∈mEs i l):∃ (j:Nat) (hj:j < l.length),e=(.int .i64 l[j].1,.v (.int .i64 l[j].2),i+j):=by
 obtain ⟨j,hj,rfl⟩:=List.getElem_of_mem h
 exact ⟨j,by rw [mEs_len] at hj; exact hj,mEs_get i l j hj⟩
theorem mEs_in {i:Nat} {l:List (Int×Int)} {j:Nat} (hj:j < l.length):(.int .i64 l[j].1,.v (.int .i64 l[j].2),i+j)∈mEs i l:=by
 have h:j < (mEs i l).length:=by rw [mEs_len]; exact hj
 rw [← mEs_get i l j h]
 exact List.getElem_mem h
theorem mEs_app:∀ (i:Nat) (l:List (Int×Int)) (p:Int×Int),mEs i l++[(.int .i64 p.1,.v (.int .i64 p.2),i+l.length)]=mEs i (l++[p])
 | i,[],p=>rfl
 | i,q :: r,p=>by
  have:=mEs_app (i+1) r p
  simp only [mEs,List.cons_append,List.length_cons]
  rw [show i+(r.length+1)=i+1+r.length by omega,this]
theorem mEs_pure (D:List Nat):∀ (i:Nat) (l:List (Int×Int)),inL D ((mEs i l).map fun e=>.agg [.v e.1,e.2.1,.v (.int .i64 (Int.ofNat e.2.2))])=true
 | _,[]=>rfl
 | i,p :: r=>by
  have:=mEs_pure D (i+1) r
  simp only [mEs,List.map_cons,inL,AV.inB,this]
  rfl
theorem mEs_low (u:Nat):∀ (i:Nat) (l:List (Int×Int)),lowL u ((mEs i l).map fun e=>.agg [.v e.1,e.2.1,.v (.int .i64 (Int.ofNat e.2.2))])=true
 | _,[]=>rfl
 | i,p :: r=>by
  have:=mEs_low u (i+1) r
  simp only [mEs,List.map_cons,lowL,AV.lowB,this]
  rfl
theorem mEs_ren (g:Nat→Nat):∀ (i:Nat) (l:List (Int×Int)),((mEs i l).map fun e=>(e.1,e.2.1.ren g,e.2.2))=mEs i l
 | _,[]=>rfl
 | i,p :: r=>by simp [mEs,AV.ren,mEs_ren g (i+1) r]
theorem mapCs_in (D:List Nat) (c:Nat) (l:List (Int×Int)):inL D (mapCs c (mEs 0 l))=true:=by
 unfold mapCs
 simp only [inL,AV.inB,Bool.true_and]
 exact mEs_pure D 0 l
theorem mapCs_low (u:Nat) (c:Nat) (l:List (Int×Int)):lowL u (mapCs c (mEs 0 l))=true:=by
 unfold mapCs
 simp only [lowL,AV.lowB,Bool.true_and]
 exact mEs_low u 0 l
theorem mapB_ren {g:Nat→Nat} {v z c:Nat} {l:List (Int×Int)}:(mapBlk v z c (mEs 0 l)).ren g=mapBlk v z c (mEs 0 l):=by
 unfold mapBlk Blk.ren
 simp only [mapCs_ren,mEs_ren]
theorem some_mapB {g:Nat→Nat} {v z c:Nat} {l:List (Int×Int)}:some (mapBlk v z c (mEs 0 l))=some ((mapBlk v z c (mEs 0 l)).ren g):=by rw [mapB_ren]
theorem ok_mapB {K:List Nat} {v z c:Nat} {l:List (Int×Int)}:okBlk K (mapBlk v z c (mEs 0 l)):=⟨mapCs_in _ _ _,.inr (.inr (.inl ⟨c,_,rfl⟩))⟩
theorem delta_mapB {m:List (Nat×Nat)} {i k v z c:Nat} {l:List (Int×Int)} (h:gOf m i=k):deltaH m [(i,some (mapBlk v z c (mEs 0 l)))]=[(k,some (mapBlk v z c (mEs 0 l)))]:=by
 simp only [deltaH,List.map_cons,List.map_nil,h,Option.map_some,mapB_ren]
theorem miter_low {u ver z mid mver since last:Nat} {seen:List Nat} (h:lowId u mid=true):lowL u (miterBlk ver z (.mp mid mver) since seen last).cs=true:=by
 show lowL u (miterCs (.mp mid mver) since seen last)=true
 unfold miterCs
 simp only [lowL,AV.lowB,Bool.true_and,h]
 rw [lowL_iff]
 intro a ha
 obtain ⟨n,_,rfl⟩:=List.mem_map.1 ha
 rfl
section
variable {P:Program} {τ:Nat→AV} {η:Heap} {d:Option Tmp} {ty:TypeId} {pos:String} {af:Array Edge} {g:Option (Nat×Bool)}
theorem LOp.rangeM (u:Nat) {t kt et id ver z clock:Nat} {x:Operand} {es:List (Value×AV×Nat)} (ht:P.underlying t=some (.map kt et)) (hx:aev τ x=.mp id ver) (hb:η id=some (mapBlk ver z clock es)) (hne:Nat.beq id u=false) :
  LOp P ⟨d,.range t x,ty,pos,af,g⟩ τ η [id] [(u,some (miterBlk 0 0 (.mp id ver) clock [] clock))] (.it u 0):=by
 refine rangeE_ok (u:=u) (r:=⟨[id],[(u,some (miterBlk 0 0 (.mp id ver) clock [] clock))],.it u 0,u+1⟩) ?_
 unfold rangeE
 rw [ht]
 simp only [hx,liveM_map hb,hne,cond_false]
theorem LOp.entryM {x:Operand} {id ver mid mver since clock z zm:Nat} {seen:List Nat} {l:List (Int×Int)} {j:Nat} (hx:aev τ x=.it id ver) (hb:η id=some (miterBlk ver z (.mp mid mver) since (seen++[j]) clock)) (hm:η mid=some (mapBlk mver zm clock (mEs 0 l))) (hj:j < l.length) :
  LOp P ⟨d,.entry x,ty,pos,af,g⟩ τ η [id,mid] [] (.tup [.v (.int .i64 l[j].1),.v (.int .i64 l[j].2)]):=by
 have hf:(mEs 0 l).find? (fun e=>Nat.beq e.2.2 j)=some (.int .i64 l[j].1,.v (.int .i64 l[j].2),j):=by
  have hlen:j < (mEs 0 l).length:=by rw [mEs_len]; exact hj
  have hg:=mEs_get 0 l j hlen
  rw [Nat.zero_add] at hg
  rw [List.find?_eq_some_iff_getElem]
  refine ⟨by simp,j,hlen,hg,fun i hi=>?_⟩
  rw [mEs_get]
  have:=beq_ne (show 0+i≠j by omega)
  simp only [this]; rfl
 refine entryE_ok (u:=0) (r:=⟨[id,mid],[],.tup [.v (.int .i64 l[j].1),.v (.int .i64 l[j].2)],0⟩) ?_
 unfold entryE
 rw [hx]
 have hl:(seen++[j]).getLast? = some j:=by simp
 simp only [liveI_miter hb,liveM_map hm]
 rw [Nat.beq_refl]
 simp only [cond_true,hl]
 rw [hf]
end
end Go.Proofs.YtgknefkobpnjaaaGreatDoor
namespace Go.Proofs.YtgknefkobpnjaaaGreatDoor
set_option linter.unusedVariables false
set_option linter.unusedSimpArgs false
open Go.RowKit
section
variable {P:Program} {N:Nat} {Q:Exit→St→Prop} {τ:Nat→AV} {η:Heap} {u:Nat}
/-- A value in a slot is read as one that nobody writes any more; its blocks are given up. -/
theorem AWP.freeze {c:Code} (fp:List Nat) (t:Nat) (r:AV) (hf:FzP fp η (τ t) r) {η':Heap} (hη':(η.put (fp.map fun id=>(id,none)))=η') (hc:AWP P N c Q ⟨upd τ t r,η',u⟩):AWP P N c Q ⟨τ,η,u⟩:=by
 subst hη'
 intro C a hs
 let C':Ctx:={ C with η:=C.η.put (fp.map fun id=>(id,none)),T:=fun b=>C.T b∨C.mineOf fp b }
 have hold:∀ {i b'},C'.η i=some b'→C.η i=some b'∧i∉fp:=by
  intro i b' hb1
  have:(C.η.put (fp.map fun id=>(id,none))) i=some b':=hb1
  rw [put_none] at this
  by_cases e:i∈fp
  ·rw [if_pos e] at this; cases this
  ·rw [if_neg e] at this; exact ⟨this,e⟩
 have hvr:∀ {a:AV} {x:Value},VR C a x→VR C' a x:=fun hv=>VR.shift (C:=C) (C':=C') rfl rfl rfl rfl (fun b hb=>.inl hb) hs.good.used (fun id b' hb=>⟨b',(hold hb).1,rfl,rfl,rfl,rfl⟩) hv
 have hlive:∀ {i},C'.live i→C.live i∧i∉fp:=by
  rintro i ⟨b',hb1,hk⟩
  exact ⟨⟨b',(hold hb1).1,hk⟩,(hold hb1).2⟩
 have hg:Good C':=by
  refine ⟨fun h=>hs.good.used (hold h).1,?_,?_,fun hi hj e=>hs.good.inj (hlive hi).1 (hlive hj).1 e,?_,?_,fun h hv hn=>hs.good.tight (hold h).1 hv hn⟩
  ·intro i b' hb1 hk
   obtain ⟨o,g1,g2⟩:=hs.good.obj (hold hb1).1 hk
   exact ⟨o,g1,ObjR.shift hvr g2⟩
  ·intro i b' hb1 hn'
   obtain ⟨c,t,g1,g2,g3,g4⟩:=hs.good.blk (hold hb1).1 hn'
   exact ⟨c,t,g1,g2,g3,fun j hj hj'=>hvr (g4 j hj hj')⟩
  ·rintro k (hk | hk)
   ·exact hs.good.tlt hk
   ·exact Ctx.mine_lt hs.good (Ctx.mineOf_mine hk)
  ·rintro k ⟨i,hl',hk⟩ (hT | ⟨i',hi',hl'',e⟩)
   ·exact hs.good.apart ⟨i,(hlive hl').1,hk⟩ hT
   ·have:i'=i:=hs.good.inj hl'' (hlive hl').1 (e.trans hk.symm)
    subst this
    exact (hlive hl').2 hi'
 have hfr:Fr C C':=⟨⟨rfl,rfl,rfl,Nat.le_refl _,fun _ _ _=>rfl,fun k ⟨i,q1,q2⟩=>.inl ⟨i,(hlive q1).1,q2⟩,fun k h=>.inl h,fun k h=>h.imp (fun h=>h) (fun h=>.inl (Ctx.mineOf_mine h))⟩,fun id _ hu=>⟨hu,fun b' hb1=>⟨b',(hold hb1).1,Nat.le_refl _,fun _=>⟨rfl,rfl,rfl,rfl⟩⟩⟩⟩
 have hr':SRel N C' ⟨upd τ t r,η.put (fp.map fun id=>(id,none)),u⟩ a:=by
  have e0:C.η=η:=hs.η
  refine ⟨hg,by simp only [C',e0],hs.u,hs.defers,hs.size,fun q=>?_⟩
  by_cases e:q=t
  ·subst e
   have e1:upd τ q r q=r:=by simp [upd]
   show VR C' (upd τ q r q) _
   rw [e1]
   exact .imm (hf C hs.good (fun id _=>by rw [e0]) _ (hs.τ q))
  ·have e1:upd τ t r q=τ q:=by simp [upd,beq_ne e]
   show VR C' (upd τ t r q) _
   rw [e1]; exact hvr (hs.τ q)
 have:=hc C' a hr'
 exact Code.wp_mono (fun e a' w' ⟨s',C'',h1,h2,h3,h4⟩=>⟨s',C'',h1,h2,h3,hfr.trans h4⟩) this
end
end Go.Proofs.YtgknefkobpnjaaaGreatDoor
namespace Go.Proofs.YtgknefkobpnjaaaGreatDoor
set_option linter.unusedVariables false
set_option linter.unusedSimpArgs false
open Go.RowKit
/-- Rows of q cells each that name no block. -/
structure RowF {α:Type} (f:α→List AV) (q:Nat):Prop where
 len:∀ a,(f a).length=q
 one:∀ a,(f a).all AV.one=true
 low:∀ u a,lowL u (f a)=true
 ins:∀ D a,inL D (f a)=true
 ren:∀ g a,renL g (f a)=f a
 pure:∀ a,pureL (f a)=true
def rF {α:Type} (f:α→List AV) (l:List α):List AV:=(l.map f).flatten
section
variable {α:Type} {f:α→List AV} {q:Nat}
theorem rF_cons {a:α} {l:List α}:rF f (a :: l)=f a++rF f l:=rfl
theorem rF_app {l m:List α}:rF f (l++m)=rF f l++rF f m:=by simp [rF]
theorem rF_snoc {a:α} {l:List α}:rF f (l++[a])=rF f l++f a:=by simp [rF]
theorem rF_len (h:RowF f q):∀ l:List α,(rF f l).length=l.length * q
 | []=>by simp [rF]
 | a :: l=>by rw [rF_cons,List.length_append,h.len,rF_len h l,List.length_cons,Nat.add_mul,Nat.one_mul,Nat.add_comm]
theorem rF_one (h:RowF f q):∀ l:List α,(rF f l).all AV.one=true
 | []=>rfl
 | a :: l=>by rw [rF_cons,List.all_append,h.one,rF_one h l]; rfl
theorem lowL_app {u:Nat}:∀ {l m:List AV},lowL u (l++m)=(lowL u l&&lowL u m)
 | [],_=>rfl
 | a :: l,m=>by rw [List.cons_append,lowL,lowL,lowL_app,Bool.and_assoc]
theorem inL_app {D:List Nat}:∀ {l m:List AV},inL D (l++m)=(inL D l&&inL D m)
 | [],_=>rfl
 | a :: l,m=>by rw [List.cons_append,inL,inL,inL_app,Bool.and_assoc]
theorem rF_low (h:RowF f q) (u:Nat):∀ l:List α,lowL u (rF f l)=true
 | []=>rfl
 | a :: l=>by rw [rF_cons,lowL_app,h.low,rF_low h u l]; rfl
theorem rF_in (h:RowF f q) (D:List Nat):∀ l:List α,inL D (rF f l)=true
 | []=>rfl
 | a :: l=>by rw [rF_cons,inL_app,h.ins,rF_in h D l]; rfl
theorem rF_ren (h:RowF f q) (g:Nat→Nat):∀ l:List α,renL g (rF f l)=rF f l
 | []=>rfl
 | a :: l=>by rw [rF_cons,renL_eq,List.map_append,← renL_eq,← renL_eq,h.ren,rF_ren h g l]
theorem rF_blk (h:RowF f q) {g:Nat→Nat} {v:Nat} {l:List α} {n:Bool}:(Blk.mk v (rF f l) q n).ren g=⟨v,rF f l,q,n⟩:=by simp only [Blk.ren,rF_ren h]
theorem rF_ok (h:RowF f q) {K:List Nat} {v:Nat} {l:List α}:okBlk K ⟨v,rF f l,q,Nat.beq l.length 0⟩:=⟨rF_in h K l,by
 cases l with
 | nil=>exact .inr (.inl rfl)
 | cons a r=>exact .inl rfl⟩
theorem FzP.rowsF (h:RowF f q) {fp:List Nat} {η:Heap} {id v:Nat} {l:List α} (hid:id∈fp) (hb:η id=some ⟨v,rF f l,q,false⟩):FzP fp η (.sl id v 0 l.length) (.tree q (l.map f)) :=
 FzP.slMap (f:=f) hid hb rfl rfl rfl rfl rfl (fun a _=>⟨h.len a,h.pure a⟩)
theorem FzP.rows (h:RowF f q) {fp:List Nat} {η:Heap} {id v:Nat} {l:List α} (hid:id∈fp) (hb:η id=some ⟨v,rF f l,q,Nat.beq l.length 0⟩):FzP fp η (.sl id v 0 l.length) (.tree q (l.map f)):=by
 cases l with
 | nil=>
  intro C hg hη x hx
  obtain ⟨e,_,_⟩:=hx.slnil_inv ((hη id hid).trans hb) rfl rfl
  subst e
  exact .tree0 (by unfold maxLen; omega)
 | cons a r=>exact FzP.rowsF h hid hb
end
section
variable {P:Program} {τ:Nat→AV} {η:Heap} {d:Option Tmp} {ty:TypeId} {pos:String} {af:Array Edge} {g:Option (Nat×Bool)}
/-- One more row. -/
theorem LOp.appRow {α:Type} {f:α→List AV} {q:Nat} (hf:RowF f q) {t e by_:Nat} {s x:Operand} {z:Value} {fp:List Nat} {id ver:Nat} {l:List α} {a:α} {news:List AV} (ht:P.underlying t=some (.slice e)) (hs:sizeInfo P e=some q) (hz:zeroOf P e=some z) (hby:(P.info? e).map (·.bytes)=some by_) (hzs:z.cells.size=q)
  (hx:aev τ s=.sl id ver 0 l.length) (hb:η id=some ⟨ver,rF f l,q,Nat.beq l.length 0⟩) (hsrc:Src η fp (aev τ x) 1 news) (hnews:news=f a) (hmax:(l.length+1) * by_≤140737488355328) (hmax2:l.length+1≤140737488355328) (htv:ver+1≠TV) :
  LOp P ⟨d,.call { callee:=.builtin .append,args:=#[s,x],argTypes:=#[t,t] },ty,pos,af,g⟩ τ η (id :: fp) [(id,some ⟨ver+1,rF f (l++[a]),q,Nat.beq (l++[a]).length 0⟩)] (.sl id (ver+1) 0 (l++[a]).length):=by
 subst hnews
 have e1:Nat.beq (l++[a]).length 0=false:=beq_ne (by simp)
 have e2:(l++[a]).length=l.length+1:=by simp
 rw [e1,e2,rF_snoc]
 exact LOp.appendA (m:=1) ht hs hz hby hzs hx hb rfl (rF_len hf l) hsrc (by decide) (by rw [Nat.one_mul]; exact hf.len a) (hf.one a) hmax hmax2 htv
end
end Go.Proofs.YtgknefkobpnjaaaGreatDoor
