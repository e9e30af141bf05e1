/- Texts of the claim. -/
import Derived.Lib.RowBridge
import Derived.Sort.Grow
import Derived.Shelf.SlLaysE
import Derived.Shelf.SlicesE.Kit
import Derived.Shelf.RegionOpenPlain
import Derived.WalkKit
import Derived.Deep.LoopGhost
import Derived.Deep.RegionLaw
import Derived.Lib.Walk
import Derived.Sort.WalkB12
import Derived.Lib.SliceRun
import Derived.Shelf.SlicesE.Clone
import Derived.Laws.Strings2
import Derived.Laws.Slices
import Derived.Laws.Concat
import Derived.Test.YthpangmpihkniaaGreatDoorE3
import Derived.Test.YthpangmpihkniaaGreatDoorA2
namespace Go.Proofs.YthpangmpihkniaaGreatDoor
set_option maxRecDepth 1000000
set_option maxHeartbeats 0
set_option linter.unusedVariables false
set_option linter.unusedSimpArgs false
open Go.RowKit
section
variable {P:Program} {N:Nat} {τ:Nat->AV} {η:au} {u:Nat} {op:Op} {ty:TypeId} {pos:String} {af:Array Edge} {g:Option (Nat×Bool)}
/-- A step of several outcomes. -/
theorem Kc {ops:Array Oper} {K:St->Prop} {l:List Oper} {d:Nat} {fp:List Nat} {id:Nat} {outs:List (Blk×AV)} (hL:LOps P ⟨some d,op,ty,pos,af,g⟩ τ η fp id outs) (hb:∃ b,η id=some b) (hw:ly ops τ ⟨some d,op,ty,pos,af,g⟩=some true) (hd:ic N ops ⟨some d,op,ty,pos,af,g⟩=true)
  (h:∀ q∈outs,wv P N ops l K ⟨upd τ d q.2,η.set id (some q.1),u⟩):wv P N ops (⟨some d,op,ty,pos,af,g⟩ :: l) K ⟨τ,η,u⟩:=by
 intro C a Q hr hK
 unfold wpList
 rw [lx hw hr (ic.guard hd)]
 simp only [if_true]
 left
 refine hL C a hr.good (fun x _=>hr.eval x) (fun i _=>by rw [hr.η]) _ _ fun q hq x C' hη hU hg he hv=>?_
 have hs:=hr.put he hg (fun i hi=>hr.u i (by rw [hU] at hi; exact hi)) (ic.dst hd) hv
 rw [hη,hr.η] at hs
 exact h q hq C' _ Q hs (fun s' C'' a' hk hr' he'=>hK s' C'' a' hk hr' (he.toFr.trans he'))
end
theorem kx {α β:Type} {P:Program}:∀ {s:Sem α} {f:α->Sem β} {a:α} {b:β},db P s=some a->db P (f a)=some b->db P (s.bind f)=some b:=by
 intro s
 induction s with
 | pure a=>intro f a' b h1 h2; simp only [db,Zh] at h1; subst h1; exact h2
 | program k ih=>intro f a b h1 h2; exact ih P h1 h2
 | mark m k ih=>intro f a b h1 h2; exact ih h1 h2
 | choose q k ih=>
  intro f a b h1 h2
  simp only [Sem.bind,db] at h1 ⊢
  cases hq:q.forced with
  | false=>rw [hq] at h1; simp at h1
  | true=>
   rw [hq] at h1
   simp only [cond_true] at h1 ⊢
   exact ih 0 h1 h2
 | _=>intro f a b h1 h2; simp [db] at h1
theorem tq {P:Program} {t:TypeId} {d:TypeDesc} (h:P.underlying t=some d):db P (underlying t)=some d:=by
 show db P (match P.underlying t with | some d=>(pure d:Sem TypeDesc) | none=>stuck "no such type")=some d
 rw [h]; rfl
section
variable {P:Program} {kt:TypeId}
theorem ts {k:Int} {e:Bool} (hk:P.underlying kt=some (.int .i64)):db P (Instr.checkKey e 10000 kt (.int .i64 k))=some ():=by
 show db P (Instr.checkKey e (9999+1) kt (.int .i64 k))=some ()
 unfold Instr.checkKey
 have:db P (underlying kt)=some (.int .i64):=tq hk
 exact kx this rfl
theorem p3 {k:Int}:∀ (es:List (Value×AV×Nat)) (i:Nat),(∀ e∈es,∃ n,e.1=.int .i64 n/\n≠k)->Instr.findNow (.int .i64) (.int .i64 k) (iw es) i=some none
 | [],_,_=>rfl
 | e :: es,i,h=>by
  obtain ⟨n,h1,h2⟩:=h e (by simp)
  have h3:(k==n)=false:=by simpa using fun e=>h2 e.symm
  simp only [iw,List.map_cons,Instr.findNow,h1,Instr.sameNow,if_true,h3]
  exact p3 es (i+1) (fun e he=>h e (by simp [he]))
theorem pz {k:Int}:∀ (es:List (Value×AV×Nat)) (i j:Nat) (hj:j < es.length),(∀ e∈es,∃ n,e.1=.int .i64 n)->es[j].1=.int .i64 k->(∀ i (h:i < es.length),i < j->es[i].1≠.int .i64 k)->∃ v,Instr.findNow (.int .i64) (.int .i64 k) (iw es) i=some (some (i+j,v))
 | [],_,_,hj,_,_,_=>absurd hj (by simp)
 | e :: es,i,0,hj,hi,h1,_=>by
  simp only [List.getElem_cons_zero] at h1
  exact ⟨undef,by simp [iw,Instr.findNow,h1,Instr.sameNow]⟩
 | e :: es,i,j+1,hj,hi,h1,h2=>by
  obtain ⟨n,hn⟩:=hi e (by simp)
  have hne:n≠k:=fun e'=>h2 0 (by simp) (by omega) (by simp [hn,e'])
  have h3:(k==n)=false:=by simpa using fun e=>hne e.symm
  obtain ⟨v,hv⟩:=pz es (i+1) j (by simpa using hj) (fun e he=>hi e (by simp [he])) (by simpa using h1) (fun q hq hqj=>by
   have:=h2 (q+1) (by simpa using hq) (by omega)
   simpa using this)
  refine ⟨v,?_⟩
  simp only [iw,List.map_cons,Instr.findNow,hn,Instr.sameNow,if_true,h3]
  rw [show i+(j+1)=i+1+j by omega]
  exact hv
theorem wm {k:Int} {es:List (Value×AV×Nat)} (hk:P.underlying kt=some (.int .i64)) (h:∀ e∈es,∃ n,e.1=.int .i64 n/\n≠k):sd P kt (.int .i64 k) es=some none:=by
 unfold sd
 rw [ts hk]
 have h1:db P (Instr.findKey kt (.int .i64 k) (iw es))=some none:=by
  unfold Instr.findKey
  refine kx (tq hk) ?_
  rw [p3 es 0 h]
  rfl
 rw [h1]
theorem E4 {k:Int} {es:List (Value×AV×Nat)} {j:Nat} (hk:P.underlying kt=some (.int .i64)) (hj:j < es.length) (hi:∀ e∈es,∃ n,e.1=.int .i64 n) (h1:es[j].1=.int .i64 k) (h2:∀ i (h:i < es.length),i < j->es[i].1≠.int .i64 k):sd P kt (.int .i64 k) es=some (some j):=by
 unfold sd
 rw [ts hk]
 obtain ⟨v,hv⟩:=pz es 0 j hj hi h1 h2
 rw [Nat.zero_add] at hv
 have h1:db P (Instr.findKey kt (.int .i64 k) (iw es))=some (some (j,v)):=by
  unfold Instr.findKey
  refine kx (tq hk) ?_
  rw [hv]
  rfl
 rw [h1]
end
theorem Cj:∀ es:List (Value×AV×Nat),Nl (es.map fun e=>.agg [.v e.1,e.2.1,.v (.int .i64 (Int.ofNat e.2.2))])=some es
 | []=>rfl
 | e :: es=>by
  have ih:=Cj es
  simp only [List.map_cons,Nl,ih]
theorem kg {η:au} {id ver z clock:Nat} {es:List (Value×AV×Nat)} (h:η id=some (bn ver z clock es)):nv η id ver=some (bn ver z clock es,clock,es):=by
 have h1:Gj (jm clock es)=some (clock,es):=by
  have e:Gj (jm clock es)=(match Nl (es.map fun e=>.agg [.v e.1,e.2.1,.v (.int .i64 (Int.ofNat e.2.2))]) with | some es=>some (clock,es) | none=>none):=rfl
  rw [e,Cj]
 unfold nv
 rw [h]
 have e2:(bn ver z clock es).cs=jm clock es:=rfl
 have e3:(bn ver z clock es).ver=ver:=rfl
 have e4:(bn ver z clock es).nilp=true:=rfl
 simp only [e2,e3,e4,h1]
 simp
section
variable {P:Program} {τ:Nat->AV} {η:au} {d:Option Tmp} {ty:TypeId} {pos:String} {af:Array Edge} {g:Option (Nat×Bool)}
/-- m[k] = x at a key that the map does not hold. -/
theorem Fu {t kt et id ver z clock:Nat} {m k x:Operand} {n:Int} {es:List (Value×AV×Nat)} (ht:P.underlying t=some (.map kt et)) (hk:P.underlying kt=some (.int .i64)) (hm:aev τ m=.mp id ver) (hkey:aev τ k=.v (.int .i64 n)) (hb:η id=some (bn ver z clock es))
  (h:∀ e∈es,∃ q,e.1=.int .i64 q/\q≠n):LOp P ⟨d,.mapUpdate t m k x,ty,pos,af,g⟩ τ η [id] [(id,some (bn ver z (clock+1) (es++[(.int .i64 n,aev τ x,clock)])))] (.v undef):=by
 refine qq (u:=0) (r:=⟨[id],[(id,some (bn ver z (clock+1) (es++[(.int .i64 n,aev τ x,clock)])))],.v undef,0⟩) (.inl rfl) ?_
 unfold tz
 rw [ht]
 simp only [hkey,hm,kg hb,ts hk,wm hk h]
 rfl
/-- m[k] at a key that the map holds. -/
theorem Fv {t kt et id ver z clock j:Nat} {x i:Operand} {n:Int} {v:AV} {z0:Value} {es:List (Value×AV×Nat)} (ht:P.underlying t=some (.map kt et)) (hk:P.underlying kt=some (.int .i64)) (hz:ax P et=some z0) (hm:aev τ x=.mp id ver) (hkey:aev τ i=.v (.int .i64 n)) (hb:η id=some (bn ver z clock es))
  (hj:j < es.length) (hi:∀ e∈es,∃ q,e.1=.int .i64 q) (h1:es[j].1=.int .i64 n) (h2:∀ i (h:i < es.length),i < j->es[i].1≠.int .i64 n) (hv:es[j].2.1=v):LOp P ⟨d,.lookup t x i false,ty,pos,af,g⟩ τ η [id] [] v:=by
 subst hv
 refine xq (u:=0) (r:=⟨[id],[],es[j].2.1,0⟩) ?_
 unfold H5
 rw [ht]
 simp only [hkey,hz,hm,kg hb,E4 hk hj hi h1 h2,Zf hj]
 rfl
end
theorem vp:∀ ns:List Nat,pd (ns.map fun n=>.v (.int .i64 (Int.ofNat n)))=some ns
 | []=>rfl
 | n :: ns=>by
  have ih:=vp ns
  have e:pd ((n :: ns).map fun n=>.v (.int .i64 (Int.ofNat n)))=(match pd (ns.map fun n=>.v (.int .i64 (Int.ofNat n))) with | some l=>some (n :: l) | none=>none):=rfl
  rw [e,ih]
theorem ud {η:au} {id ver z mid mver since last:Nat} {seen:List Nat} (h:η id=some (cd ver z (.mp mid mver) since seen last)):Bg η id ver=some (cd ver z (.mp mid mver) since seen last,.ofm mid mver since seen last):=by
 have h1:yx (d5 (.mp mid mver) since seen last)=some (.ofm mid mver since seen last):=by
  have e:yx (d5 (.mp mid mver) since seen last)=(match pd (seen.map fun n=>.v (.int .i64 (Int.ofNat n))) with | some seen=>some (.ofm mid mver since seen last) | none=>none):=rfl
  rw [e,vp]
 unfold Bg
 rw [h]
 have e2:(cd ver z (.mp mid mver) since seen last).cs=d5 (.mp mid mver) since seen last:=rfl
 have e3:(cd ver z (.mp mid mver) since seen last).ver=ver:=rfl
 have e4:(cd ver z (.mp mid mver) since seen last).nilp=true:=rfl
 simp only [e2,e3,e4,h1]
 simp
section
variable {P:Program} {N:Nat} {τ:Nat->AV} {η:au} {u:Nat} {ty:TypeId} {pos:String} {af:Array Edge} {g:Option (Nat×Bool)}
theorem wv.next {ops:Array Oper} {K:St->Prop} {l:List Oper} {d:Nat} {x:Operand} {id ver mid mver since clock z zm last:Nat} {seen:List Nat} {es:List (Value×AV×Nat)}
  (hx:aev τ x=.it id ver) (hb:η id=some (cd ver z (.mp mid mver) since seen last)) (hm:η mid=some (bn mver zm clock es))
  (hid:oq u id=true) (hw:ly ops τ ⟨some d,.next x false,ty,pos,af,g⟩=some true) (hd:ic N ops ⟨some d,.next x false,ty,pos,af,g⟩=true)
  (hold:∀ e∈es,e.2.2 < since) (hgone:seen=[]\/es=[]\/∃ e∈es,e.2.2 < last)
  (hdone:(∀ e∈es,seen.contains e.2.2=true)->wv P N ops l K ⟨upd τ d (.tup [.v (.bool false)]),η,u⟩)
  (hmore:∀ e∈es,seen.contains e.2.2=false->wv P N ops l K ⟨upd τ d (.tup [.v (.bool true),.v e.1,e.2.1]),η.set id (some (cd ver z (.mp mid mver) since (seen++[e.2.2]) clock)),u⟩) :
  wv P N ops (⟨some d,.next x false,ty,pos,af,g⟩ :: l) K ⟨τ,η,u⟩:=by
 have hI:=ud hb
 have hM:=kg hm
 have hg:(!seen.isEmpty&&!es.isEmpty&&es.all (fun e=>Nat.ble last e.2.2))=false:=by
  rcases hgone with h | h | ⟨e,he,hlt⟩
  ·rw [h]; rfl
  ·rw [h]; simp
  ·have:es.all (fun e=>Nat.ble last e.2.2)=false:=by
    rw [List.all_eq_false]
    exact ⟨e,he,by simp [Nat.ble_eq]; omega⟩
   rw [this]; simp
 have f1:(es.filter fun e=>!seen.contains e.2.2).filter (fun e=>Nat.blt e.2.2 since)=es.filter fun e=>!seen.contains e.2.2:=by
  rw [List.filter_eq_self]
  intro e he
  simpa using hold e (List.mem_filter.1 he).1
 have f2:(es.filter fun e=>!seen.contains e.2.2).filter (fun e=>Nat.ble since e.2.2)=[]:=by
  rw [List.filter_eq_nil_iff]
  intro e he
  have:=hold e (List.mem_filter.1 he).1
  simp [Nat.ble_eq]; omega
 have hmem:∀ e,e∈(es.filter fun e=>!seen.contains e.2.2)->e∈es/\seen.contains e.2.2=false:=fun e he=>by
  obtain ⟨h1,h2⟩:=List.mem_filter.1 he
  exact ⟨h1,by simpa using h2⟩
 match hr:(es.filter fun e=>!seen.contains e.2.2) with
 | []=>
  have hE:Ba P τ η u x false=some ⟨[id,mid],[],.tup [.v (.bool false)],u⟩:=by
   unfold Ba
   rw [hx]
   rw [hr] at f1 f2
   simp only [hI,hM,hg,hr,f1,f2,cond_false]
  have:=xl (d:=some d) (ty:=ty) (pos:=pos) (af:=af) (g:=g) hE
  refine wv.op (s:=⟨τ,η,u⟩) u this hw hd (by simp) rfl (hdone fun e he=>?_)
  cases hc:seen.contains e.2.2 with
  | true=>rfl
  | false=>
   have:e∈(es.filter fun e=>!seen.contains e.2.2):=List.mem_filter.2 ⟨he,by simp only [hc]; rfl⟩
   rw [hr] at this
   cases this
 | [e]=>
  have hE:Ba P τ η u x false=some ⟨[id,mid],[(id,some (cd ver z (.mp mid mver) since (seen++[e.2.2]) clock))],.tup [.v (.bool true),.v e.1,e.2.1],u⟩:=by
   unfold Ba
   rw [hx]
   rw [hr] at f1 f2
   simp only [hI,hM,hg,hr,f1,f2,cond_false]
   rfl
  have:=xl (d:=some d) (ty:=ty) (pos:=pos) (af:=af) (g:=g) hE
  obtain ⟨h1,h2⟩:=hmem e (by rw [hr]; simp)
  refine wv.op (s:=⟨τ,η,u⟩) u this hw hd (by simp) ?_ (hmore e h1 h2)
  simp [vh,hid]
 | e1 :: e2 :: l'=>
  have hE:C9 P τ η x=some (id,mid,(e1 :: e2 :: l').map fun e=>(cd ver z (.mp mid mver) since (seen++[e.2.2]) clock,.tup [.v (.bool true),.v e.1,e.2.1])):=by
   unfold C9
   rw [hx]
   rw [hr] at f1 f2
   simp only [hI,hM,hg,hr,f1,f2,cond_false]
   rfl
  obtain ⟨h1,h2⟩:=Ht (d:=some d) (ty:=ty) (pos:=pos) (af:=af) (g:=g) hE
  refine Kc h2 h1 hw hd (fun q hq=>?_)
  obtain ⟨e,he,rfl⟩:=List.mem_map.1 hq
  obtain ⟨g1,g2⟩:=hmem e (by rw [hr]; exact he)
  exact hmore e g1 g2
end
mutual
/-- Other numbers for the blocks. -/
def AV.ren (g:Nat->Nat):AV->AV
 | .v x=>.v x
 | .tree n xs=>.tree n xs
 | .tp cs o=>.tp cs o
 | .unk=>.unk
 | .ptr id ver off=>.ptr (g id) ver off
 | .mp id ver=>.mp (g id) ver
 | .it id ver=>.it (g id) ver
 | .sl id ver off len=>.sl (g id) ver off len
 | .agg cs=>.agg (pm g cs)
 | .tup cs=>.tup (pm g cs)
 | .clo f cs=>.clo f (pm g cs)
def pm (g:Nat->Nat):List AV->List AV
 | []=>[]
 | a :: r=>a.ren g :: pm g r
end
mutual
/-- All blocks that are named are among those of D. -/
def AV.inB (D:List Nat):AV->Bool
 | .v _=>true
 | .tree _ _=>true
 | .tp _ _=>true
 | .unk=>true
 | .ptr id _ _=>D.contains id
 | .mp id _=>D.contains id
 | .it id _=>D.contains id
 | .sl id _ _ _=>D.contains id
 | .agg cs=>inL D cs
 | .tup cs=>inL D cs
 | .clo _ cs=>inL D cs
def inL (D:List Nat):List AV->Bool
 | []=>true
 | a :: r=>a.inB D&&inL D r
end
theorem ma {g:Nat->Nat}:∀ l:List AV,pm g l=l.map (AV.ren g)
 | []=>rfl
 | a :: r=>by rw [pm,ma r]; rfl
theorem ca {g:Nat->Nat} (l:List AV):(pm g l).length=l.length:=by rw [ma,Zl]
theorem ff {g:Nat->Nat} {l:List AV} {i:Nat} (h:i < (pm g l).length):(pm g l)[i]=(l[i]'(by rw [ca] at h; exact h)).ren g:=by
 simp only [ma,List.getElem_map]
theorem X7 {D:List Nat} {l:List AV}:inL D l=true↔∀ a∈l,a.inB D=true:=by
 induction l with
 | nil=>simp [inL]
 | cons a r ih=>simp [inL,ih]
theorem ki {D:List Nat} {l:List AV} (h:inL D l=true) (i:Nat) (hi:i < l.length):l[i].inB D=true:=X7.1 h _ (Ze _)
def Blk.ren (g:Nat->Nat) (b:Blk):Blk:=⟨b.ver,pm g b.cs,b.esz,b.nilp⟩
theorem bg {g:Nat->Nat} {b:Blk}:(b.ren g).kind=b.kind:=by
 obtain ⟨v,cs,z,n⟩:=b
 cases n <;> cases cs <;> rfl
/-- What C' says under the new numbers, C says under the old ones. -/
structure Rens (D:List Nat) (g:Nat->Nat) (C C':Ctx):Prop where
 ρ:∀ i,i∈D->C'.ρ (g i)=C.ρ i
 sz:∀ i,i∈D->C'.sz (g i)=C.sz i
 η:∀ i,i∈D->C'.η (g i)=(C.η i).map (Blk.ren g)
 U:∀ i,i∈D->C'.U (g i)
 T:C'.T=C.T
 w:C'.w=C.w
theorem TR.ren {D:List Nat} {g:Nat->Nat} {C C':Ctx} (hr:Rens D g C C') {a:AV} {x:Value} (h:TR C.T C.w a x) (hd:a.inB D=true):VR C' (a.ren g) x:=by
 induction h with
 | v=>exact .imm (.v _)
 | unk=>exact .imm (.unk _)
 | tree cell h1 h2 h3 h4 h5 h6 h7=>exact .imm (by rw [hr.T,hr.w]; exact .tree cell h1 h2 h3 h4 h5 h6 h7)
 | tree0 h=>exact .imm (.tree0 h)
 | tp cell h1 h2 h3=>exact .imm (by rw [hr.T,hr.w]; exact .tp cell h1 h2 h3)
 | @agg cs vs hl hi ih=>exact .agg (by rw [ca]; exact hl) (fun i h1 h2=>by
   have h3:i < cs.length:=by rw [ca] at h1; exact h1
   rw [ff h1]; exact ih i h3 h2 (ki hd i h3))
 | @tup cs vs hl hi ih=>exact .tup (by rw [ca]; exact hl) (fun i h1 h2=>by
   have h3:i < cs.length:=by rw [ca] at h1; exact h1
   rw [ff h1]; exact ih i h3 h2 (ki hd i h3))
 | @clo f cs vs hl hi ih=>exact .clo (by rw [ca]; exact hl) (fun i h1 h2=>by
   have h3:i < cs.length:=by rw [ca] at h1; exact h1
   rw [ff h1]; exact ih i h3 h2 (ki hd i h3))
theorem VR.ren {D:List Nat} {g:Nat->Nat} {C C':Ctx} (hr:Rens D g C C') {a:AV} {x:Value} (h:VR C a x) (hd:a.inB D=true):VR C' (a.ren g) x:=by
 have st:∀ {id ver:Nat},id∈D->(∀ b,C.η id=some b->ver < b.ver)->∀ b,C'.η (g id)=some b->ver < b.ver:=by
  intro id ver hid h b hb
  rw [hr.η id hid] at hb
  cases hc:C.η id with
  | none=>rw [hc] at hb; cases hb
  | some b0=>rw [hc] at hb; simp only [Option.map_some,Zh] at hb; subst hb; exact h b0 hc
 have lv:∀ {id:Nat} {b:Blk},id∈D->C.η id=some b->C'.η (g id)=some (b.ren g):=fun hid hb=>by rw [hr.η _ hid,hb]; rfl
 induction h with
 | imm h=>exact TR.ren hr h hd
 | ptr hb he hn=>
  have hid:_∈D:=List.contains_iff_mem.1 hd
  rw [<- hr.ρ _ hid]; exact .ptr (lv hid hb) he hn
 | sl hb he hn h1 h2 h3 h4=>
  have hid:_∈D:=List.contains_iff_mem.1 hd
  rw [<- hr.ρ _ hid]; exact .sl (lv hid hb) he hn h1 h2 h3 (by rw [hr.ρ _ hid,hr.sz _ hid]; exact h4)
 | slz hb he hn=>
  have hid:_∈D:=List.contains_iff_mem.1 hd
  exact .slz (lv hid hb) he hn
 | slnil hb he hn=>
  have hid:_∈D:=List.contains_iff_mem.1 hd
  exact .slnil (lv hid hb) he (by rw [bg]; exact hn)
 | mp hb he hn=>
  have hid:_∈D:=List.contains_iff_mem.1 hd
  rw [<- hr.ρ _ hid]; exact .mp (lv hid hb) he (by rw [bg]; exact hn)
 | it hb he hn=>
  have hid:_∈D:=List.contains_iff_mem.1 hd
  rw [<- hr.ρ _ hid]; exact .it (lv hid hb) he (by rw [bg]; exact hn)
 | stalem h1 hu hs=>have hid:_∈D:=List.contains_iff_mem.1 hd; exact .stalem h1 (hr.U _ hid) (st hid hs)
 | stalei h1 hu hs=>have hid:_∈D:=List.contains_iff_mem.1 hd; exact .stalei h1 (hr.U _ hid) (st hid hs)
 | stalep h1 hu hs=>have hid:_∈D:=List.contains_iff_mem.1 hd; exact .stalep h1 (hr.U _ hid) (st hid hs)
 | stales h1 hu hs=>have hid:_∈D:=List.contains_iff_mem.1 hd; exact .stales h1 (hr.U _ hid) (st hid hs)
 | @agg cs vs hl hi ih=>exact .agg (by rw [ca]; exact hl) (fun i h1 h2=>by
   have h3:i < cs.length:=by rw [ca] at h1; exact h1
   rw [ff h1]; exact ih i h3 h2 (ki hd i h3))
 | @tup cs vs hl hi ih=>exact .tup (by rw [ca]; exact hl) (fun i h1 h2=>by
   have h3:i < cs.length:=by rw [ca] at h1; exact h1
   rw [ff h1]; exact ih i h3 h2 (ki hd i h3))
 | @clo f cs vs hl hi ih=>exact .clo (by rw [ca]; exact hl) (fun i h1 h2=>by
   have h3:i < cs.length:=by rw [ca] at h1; exact h1
   rw [ff h1]; exact ih i h3 h2 (ki hd i h3))
/-- C0: what is lr of C, under the callee's numbers. -/
structure Unrens (g:Nat->Nat) (K:List Nat) (C C0:Ctx):Prop where
 ρ:∀ i,i∈K->C0.ρ i=C.ρ (g i)
 sz:∀ i,i∈K->C0.sz i=C.sz (g i)
 η:∀ i,i∈K->∃ b,C0.η i=some b/\C.η (g i)=some (b.ren g)
 U:∀ i,i∈K->C0.U i
 T:C0.T=C.T
 w:C0.w=C.w
theorem VR.unren {g:Nat->Nat} {K:List Nat} {C C0:Ctx} (hu:Unrens g K C C0):∀ (a:AV) (x:Value),a.inB K=true->VR C (a.ren g) x->VR C0 a x
 | .v y,x,_,h=>by cases h with | imm h=>exact .imm (by rw [hu.T,hu.w]; exact h)
 | .unk,x,_,h=>by cases h with | imm h=>exact .imm (by rw [hu.T,hu.w]; exact h)
 | .tree n xs,x,_,h=>by cases h with | imm h=>exact .imm (by rw [hu.T,hu.w]; exact h)
 | .tp cs o,x,_,h=>by cases h with | imm h=>exact .imm (by rw [hu.T,hu.w]; exact h)
 | .ptr id ver off,x,hd,h=>by
  have hid:id∈K:=List.contains_iff_mem.1 hd
  obtain ⟨b,h1,h2⟩:=hu.η id hid
  change VR C (.ptr (g id) ver off) x at h
  cases h with
  | imm h=>cases h
  | ptr hb he hn=>
   rw [h2] at hb; cases hb
   rw [<- hu.ρ id hid]; exact .ptr h1 he hn
  | stalep hx _ hs=>exact .stalep hx (hu.U id hid) (fun b' hb'=>by rw [h1] at hb'; cases hb'; exact (show ver < (b.ren g).ver from hs _ h2))
 | .sl id ver off len,x,hd,h=>by
  have hid:id∈K:=List.contains_iff_mem.1 hd
  obtain ⟨b,h1,h2⟩:=hu.η id hid
  change VR C (.sl (g id) ver off len) x at h
  cases h with
  | imm h=>cases h
  | sl hb he hn q1 q2 q3 q4=>
   rw [h2] at hb; cases hb
   rw [<- hu.ρ id hid]; exact .sl h1 he hn q1 q2 q3 (by rw [hu.ρ id hid,hu.sz id hid]; exact q4)
  | slz hb he hn=>rw [h2] at hb; cases hb; exact .slz h1 he hn
  | slnil hb he hn=>rw [h2] at hb; cases hb; exact .slnil h1 he (by rw [<- bg (g:=g)]; exact hn)
  | stales hx _ hs=>exact .stales hx (hu.U id hid) (fun b' hb'=>by rw [h1] at hb'; cases hb'; exact (show ver < (b.ren g).ver from hs _ h2))
 | .mp id ver,x,hd,h=>by
  have hid:id∈K:=List.contains_iff_mem.1 hd
  obtain ⟨b,h1,h2⟩:=hu.η id hid
  change VR C (.mp (g id) ver) x at h
  cases h with
  | imm h=>cases h
  | mp hb he hn=>
   rw [h2] at hb; cases hb
   rw [<- hu.ρ id hid]; exact .mp h1 he (by rw [<- bg (g:=g)]; exact hn)
  | stalem hx _ hs=>exact .stalem hx (hu.U id hid) (fun b' hb'=>by rw [h1] at hb'; cases hb'; exact (show ver < (b.ren g).ver from hs _ h2))
 | .it id ver,x,hd,h=>by
  have hid:id∈K:=List.contains_iff_mem.1 hd
  obtain ⟨b,h1,h2⟩:=hu.η id hid
  change VR C (.it (g id) ver) x at h
  cases h with
  | imm h=>cases h
  | it hb he hn=>
   rw [h2] at hb; cases hb
   rw [<- hu.ρ id hid]; exact .it h1 he (by rw [<- bg (g:=g)]; exact hn)
  | stalei hx _ hs=>exact .stalei hx (hu.U id hid) (fun b' hb'=>by rw [h1] at hb'; cases hb'; exact (show ver < (b.ren g).ver from hs _ h2))
 | .agg cs,x,hd,h=>by
  change VR C (.agg (pm g cs)) x at h
  obtain ⟨vs,rfl,h1,h2⟩:=h.agg_inv
  rw [ca] at h1
  exact .agg h1 (fun i hi hi'=>by
   have hlt:=List.sizeOf_lt_of_mem (Ze hi:cs[i]∈cs)
   exact VR.unren hu cs[i] vs[i] (ki hd i hi) (by have:=h2 i (by rw [ca]; exact hi) hi'; rw [ff] at this; exact this))
 | .tup cs,x,hd,h=>by
  change VR C (.tup (pm g cs)) x at h
  obtain ⟨vs,rfl,h1,h2⟩:=h.tup_inv'
  rw [ca] at h1
  exact .tup h1 (fun i hi hi'=>by
   have hlt:=List.sizeOf_lt_of_mem (Ze hi:cs[i]∈cs)
   exact VR.unren hu cs[i] vs[i] (ki hd i hi) (by have:=h2 i (by rw [ca]; exact hi) hi'; rw [ff] at this; exact this))
 | .clo f cs,x,hd,h=>by
  change VR C (.clo f (pm g cs)) x at h
  obtain ⟨vs,rfl,h1,h2⟩:=h.clo_inv
  rw [ca] at h1
  exact .clo h1 (fun i hi hi'=>by
   have hlt:=List.sizeOf_lt_of_mem (Ze hi:cs[i]∈cs)
   exact VR.unren hu cs[i] vs[i] (ki hd i hi) (by have:=h2 i (by rw [ca]; exact hi) hi'; rw [ff] at this; exact this))
termination_by a=>SizeOf.sizeOf a
decreasing_by all_goals (simp; omega)
/-- What is no row of cells, under other numbers: the renamed pseudo-cells. -/
theorem ua {g:Nat->Nat} {clock:Nat} {es:List (Value×AV×Nat)}:pm g (jm clock es)=jm clock (es.map fun e=>(e.1,e.2.1.ren g,e.2.2)):=by
 unfold jm
 rw [ma,List.map_cons,List.map_cons,List.map_map,List.map_map]
 rfl
theorem A1 {g:Nat->Nat} {s:ByteArray} {pos:Nat}:pm g (j5 s pos)=j5 s pos:=rfl
theorem tv {g:Nat->Nat} {m:AV} {since last:Nat} {seen:List Nat}:pm g (d5 m since seen last)=d5 (m.ren g) since seen last:=by
 unfold d5
 rw [ma,List.map_cons,List.map_cons,List.map_cons,List.map_cons,List.map_map]
 rfl
theorem ObjR.ren {D:List Nat} {g:Nat->Nat} {C C':Ctx} (hr:Rens D g C C') {cs:List AV} {o:Obj} (h:ObjR C cs o) (hd:inL D cs=true):ObjR C' (pm g cs) o:=by
 cases h with
 | map hl hi=>
  rename_i es entries clock
  rw [ua]
  refine .map (by simpa using hl) (fun i h1 h2=>?_)
  have h3:i < es.length:=by simpa using h1
  have:=hi i h3 h2
  simp only [List.getElem_map]
  refine ⟨this.1,this.2.1.ren hr ?_,this.2.2⟩
  have hm:=X7.1 hd (.agg [.v es[i].1,es[i].2.1,.v (.int .i64 (Int.ofNat es[i].2.2))]) (by
   unfold jm
   exact List.mem_cons_of_mem _ (List.mem_cons_of_mem _ (List.mem_map.2 ⟨es[i],Ze _,rfl⟩)))
  simp only [AV.inB,inL,Bool.and_eq_true] at hm
  exact hm.2.1
 | siter=>exact .siter
 | miter0=>rw [tv]; exact .miter0
 | miter hv=>
  rw [tv]
  exact .miter (hv.ren hr (X7.1 hd _ (by unfold d5; simp)))
theorem ObjR.unren {g:Nat->Nat} {K:List Nat} {C C0:Ctx} (hu:Unrens g K C C0) {cs:List AV} {o:Obj} (h:ObjR C (pm g cs) o) (hd:inL K cs=true) (hk:(∃ clock es,cs=jm clock es)\/∃ s p,cs=j5 s p):ObjR C0 cs o:=by
 rcases hk with ⟨clock,es,rfl⟩ | ⟨s,p,rfl⟩
 ·rw [ua] at h
  obtain ⟨entries,rfl,hl,hi⟩:=h.map_inv
  have hl':es.length=entries.size:=by simpa using hl
  refine .map hl' (fun i h1 h2=>?_)
  have:=hi i (by simpa using h1) h2
  simp only [List.getElem_map] at this
  refine ⟨this.1,VR.unren hu _ _ ?_ this.2.1,this.2.2⟩
  have hm:=X7.1 hd (.agg [.v es[i].1,es[i].2.1,.v (.int .i64 (Int.ofNat es[i].2.2))]) (by
   unfold jm
   exact List.mem_cons_of_mem _ (List.mem_cons_of_mem _ (List.mem_map.2 ⟨es[i],Ze _,rfl⟩)))
  simp only [AV.inB,inL,Bool.and_eq_true] at hm
  exact hm.2.1
 ·rw [A1] at h
  rw [h.siter_inv]; exact .siter
def mr:List (Nat×Option Blk)->au
 | []=>fun _=>none
 | p :: r=>fun id=>bif Nat.beq id p.1 then p.2 else mr r id
/-- f is lr the blocks hb under the numbers that stand there (from TOP on); it leaves the blocks hb' (those of hb, and new ones, by the callee's numbers). -/
def ra (P:Program) (f:FuncId) (args:List AV) (hb:List (Nat×Blk)) (hb':List (Nat×Option Blk)) (ret:AV):Prop :=
 ∀ (C:Ctx) (vals:Array Value),Good C->C.η=bl hb->(∀ id,C.U id->TOP<=id)->VRs C args vals ->
  Calls P f vals C.w (fun e w'=>∃ x C',e=.returned x/\C'.w=w'/\C'.η=mr hb'/\Good C'/\Fr C C'/\VR C' ret x)
def gOf:List (Nat×Nat)->Nat->Nat
 | [],i=>i
 | p :: r,i=>bif Nat.beq i p.1 then p.2 else gOf r i
def bwd (m:List (Nat×Nat)) (k:Nat):Option Nat:=(m.find? fun p=>Nat.beq p.2 k).map (·.1)
def pq:List Nat->Bool
 | []=>true
 | a :: r=>!r.contains a&&pq r
theorem Eo:∀ {l:List Nat},pq l=true↔l.Nodup
 | []=>by simp [pq]
 | a :: r=>by simp [pq,Eo (l:=r)]
theorem jo {a b:Nat} (h:a≠b):Nat.beq a b=false:=by
 cases hb:Nat.beq a b with
 | false=>rfl
 | true=>exact absurd (Zg hb) h
theorem xw:∀ {m:List (Nat×Nat)} {i k:Nat},(m.map (·.1)).Nodup->(i,k)∈m->gOf m i=k
 | p :: r,i,k,hn,h=>by
  rw [List.map_cons,List.nodup_cons] at hn
  rcases List.mem_cons.1 h with rfl | h
  ·simp [gOf]
  ·have:i≠p.1:=fun e=>hn.1 (by rw [<- e]; exact List.mem_map.2 ⟨(i,k),h,rfl⟩)
   simp only [gOf,jo this,cond_false]
   exact xw hn.2 h
theorem nj {m:List (Nat×Nat)} {i k:Nat} (h:bwd m k=some i):(i,k)∈m:=by
 unfold bwd at h
 cases hf:m.find? (fun p=>Nat.beq p.2 k) with
 | none=>rw [hf] at h; cases h
 | some p=>
  rw [hf] at h
  simp only [Option.map_some,Zh] at h
  have h1:=List.find?_some hf
  have h2:=Zg h1
  rw [<- h,<- h2]
  exact List.mem_of_find?_eq_some hf
theorem D0 {m:List (Nat×Nat)} {k:Nat} (h:bwd m k=none):∀ i,(i,k)∉m:=by
 intro i hi
 unfold bwd at h
 rw [Option.map_eq_none_iff,List.find?_eq_none] at h
 exact h (i,k) hi (by simp)
theorem G1 {m:List (Nat×Nat)} (hn:(m.map (·.2)).Nodup) {i i' k:Nat} (h:(i,k)∈m) (h':(i',k)∈m):i=i':=by
 induction m with
 | nil=>cases h
 | cons p r ih=>
  rw [List.map_cons,List.nodup_cons] at hn
  rcases List.mem_cons.1 h with rfl | h1 <;> rcases List.mem_cons.1 h' with e | h2
  ·exact (Prod.mk.inj e).1.symm
  ·exact absurd (List.mem_map.2 ⟨(i',k),h2,rfl⟩) hn.1
  ·subst e; exact absurd (List.mem_map.2 ⟨(i,k),h1,rfl⟩) hn.1
  ·exact ih hn.2 h1 h2
theorem Oo {m:List (Nat×Nat)} (hn:(m.map (·.2)).Nodup) {i k:Nat} (h:(i,k)∈m):bwd m k=some i:=by
 cases hb:bwd m k with
 | none=>exact absurd h (D0 hb i)
 | some i'=>rw [G1 hn (nj hb) h]
theorem A7:∀ {δ:List (Nat×Option Blk)} {η:au} {k:Nat},k∉δ.map (·.1)->η.put δ k=η k
 | [],_,_,_=>rfl
 | p :: r,η,k,h=>by
  rw [List.map_cons,List.mem_cons] at h
  have h1:k≠p.1:=fun e=>h (.inl e)
  show (η.set p.1 p.2).put r k=η k
  rw [A7 (fun e=>h (.inr e)),am _ _ h1]
theorem N3:∀ {δ:List (Nat×Option Blk)} {η:au} {k:Nat} {ob:Option Blk},(δ.map (·.1)).Nodup->(k,ob)∈δ->η.put δ k=ob
 | p :: r,η,k,ob,hn,h=>by
  rw [List.map_cons,List.nodup_cons] at hn
  show (η.set p.1 p.2).put r k=ob
  rcases List.mem_cons.1 h with e | h
  ·subst e
   rw [A7 hn.1,ae]
  ·exact N3 hn.2 h
theorem sr:∀ {l:List (Nat×Option Blk)} {i:Nat} {ob:Option Blk},(l.map (·.1)).Nodup->(i,ob)∈l->mr l i=ob
 | p :: r,i,ob,hn,h=>by
  rw [List.map_cons,List.nodup_cons] at hn
  rcases List.mem_cons.1 h with rfl | h
  ·simp [mr]
  ·have:i≠p.1:=fun e=>hn.1 (by rw [<- e]; exact List.mem_map.2 ⟨(i,ob),h,rfl⟩)
   simp only [mr,jo this,cond_false]
   exact sr hn.2 h
theorem ui:∀ {l:List (Nat×Option Blk)} {i:Nat},i∉l.map (·.1)->mr l i=none
 | [],_,_=>rfl
 | p :: r,i,h=>by
  rw [List.map_cons,List.mem_cons] at h
  simp only [mr,jo (fun e=>h (.inl e)),cond_false]
  exact ui (fun e=>h (.inr e))
theorem xu:∀ {l:List (Nat×Blk)} {i:Nat},i∈l.map (·.1)->∃ b,bl l i=some b/\(i,b)∈l
 | p :: r,i,h=>by
  by_cases e:i=p.1
  ·subst e; exact ⟨p.2,by simp [bl],by simp⟩
  ·rw [List.map_cons,List.mem_cons] at h
   obtain ⟨b,h1,h2⟩:=xu (h.resolve_left e)
   exact ⟨b,by simp only [bl,jo e,cond_false]; exact h1,List.mem_cons_of_mem _ h2⟩
theorem zq:∀ {l:List (Nat×Blk)} {i:Nat},i∉l.map (·.1)->bl l i=none
 | [],_,_=>rfl
 | p :: r,i,h=>by
  rw [List.map_cons,List.mem_cons] at h
  simp only [bl,jo (fun e=>h (.inl e)),cond_false]
  exact zq (fun e=>h (.inr e))
/-- A block that can be lr. -/
def Hm (K:List Nat) (b:Blk):Prop:=inL K b.cs=true/\(b.nilp=false\/b.cs=[]\/(∃ clock es,b.cs=jm clock es)\/∃ s p,b.cs=j5 s p)
def okO (D:List Nat):Option Blk->Prop
 | some b=>inL D b.cs=true
 | none=>True
def Ga {α:Type} (p:α->Prop):List α->Prop
 | []=>True
 | a :: r=>p a/\Ga p r
theorem M5 {α:Type} {p:α->Prop}:∀ {l:List α},Ga p l↔∀ a∈l,p a
 | []=>by simp [Ga]
 | a :: r=>by simp [Ga,M5 (l:=r)]
section
variable {P:Program} {τ:Nat->AV} {η:au} {d:Option Tmp} {ty:TypeId} {pos:String} {af:Array Edge} {g:Option (Nat×Bool)}
/-- What is lr, in a state of its own. -/
theorem lr {C:Ctx} (hg:Good C) {m:List (Nat×Nat)} {hb:List (Nat×Blk)} (hm2:(m.map (·.2)).Nodup) (hm1:(m.map (·.1)).Nodup) (hsub:∀ p∈hb,p.1∈m.map (·.1)) (hη:∀ p∈hb,C.η (gOf m p.1)=some (p.2.ren (gOf m))) (hok:∀ p∈hb,Hm (hb.map (·.1)) p.2) :
  let C0:Ctx:=⟨fun i=>C.ρ (gOf m i),fun i=>C.sz (gOf m i),bl hb,fun i=>i∈hb.map (·.1),C.T,C.w⟩
  Unrens (gOf m) (hb.map (·.1)) C C0/\Good C0/\∀ k,C0.mine k->∃ i,i∈hb.map (·.1)/\C.live (gOf m i)/\(C.ρ (gOf m i)).1=k:=by
 intro C0
 have hu:Unrens (gOf m) (hb.map (·.1)) C C0:=by
  refine ⟨fun _ _=>rfl,fun _ _=>rfl,fun i hi=>?_,fun _ hi=>hi,rfl,rfl⟩
  obtain ⟨b,h1,h2⟩:=xu hi
  exact ⟨b,h1,hη _ h2⟩
 have hkey:∀ {i b},C0.η i=some b->i∈hb.map (·.1)/\(i,b)∈hb:=by
  intro i b hb'
  by_cases hi:i∈hb.map (·.1)
  ·obtain ⟨b1,h1,h2⟩:=xu hi
   have:C0.η i=some b1:=h1
   rw [this] at hb'; cases hb'
   exact ⟨hi,h2⟩
  ·have:C0.η i=none:=zq hi
   rw [this] at hb'; cases hb'
 have hlive:∀ {i},C0.live i->i∈hb.map (·.1)/\C.live (gOf m i):=by
  rintro i ⟨b,h1,h2⟩
  obtain ⟨k1,k2⟩:=hkey h1
  exact ⟨k1,_,hη _ k2,by rw [bg]; exact h2⟩
 have hinj:∀ {i j},i∈hb.map (·.1)->j∈hb.map (·.1)->gOf m i=gOf m j->i=j:=by
  intro i j hi hj e
  obtain ⟨p,hp,rfl⟩:=List.mem_map.1 hi
  obtain ⟨q,hq,rfl⟩:=List.mem_map.1 hj
  obtain ⟨⟨i',k⟩,h1,h2⟩:=List.mem_map.1 (hsub p hp)
  obtain ⟨⟨j',k'⟩,h3,h4⟩:=List.mem_map.1 (hsub q hq)
  simp only at h2 h4
  subst h2 h4
  rw [xw hm1 h1,xw hm1 h3] at e
  subst e
  exact G1 hm2 h1 h3
 refine ⟨hu,⟨fun h=>(hkey h).1,?_,?_,?_,hg.tok,?_,?_⟩,fun k ⟨i,hl,hk⟩=>⟨i,(hlive hl).1,(hlive hl).2,hk⟩⟩
 ·intro i b hb' hk
  obtain ⟨k1,k2⟩:=hkey hb'
  obtain ⟨o,h1,h2⟩:=hg.obj (hη _ k2) (by rw [bg]; exact hk)
  obtain ⟨q1,q2⟩:=hok _ k2
  refine ⟨o,h1,ObjR.unren hu h2 q1 ?_⟩
  rcases q2 with h | h | h
  ·rw [eg h] at hk; cases hk
  ·obtain ⟨_,h3⟩:=D8 hk; exact absurd h h3
  ·exact h
 ·intro i b hb' hn
  obtain ⟨k1,k2⟩:=hkey hb'
  obtain ⟨c,t,g1,g2,g3,g4⟩:=hg.blk (hη _ k2) hn
  obtain ⟨q1,_⟩:=hok _ k2
  have hlen:(b.ren (gOf m)).cs.length=b.cs.length:=ca _
  refine ⟨c,t,g1,g2,by rw [<- hlen]; exact g3,fun j h h'=>VR.unren hu _ _ (ki q1 j h) ?_⟩
  have:=g4 j (by rw [hlen]; exact h) h'
  have e:(b.ren (gOf m)).cs[j]'(by rw [hlen]; exact h)=(b.cs[j]).ren (gOf m):=ff _
  rw [e] at this
  exact this
 ·intro i j hi hj e
  exact hinj (hlive hi).1 (hlive hj).1 (hg.inj (hlive hi).2 (hlive hj).2 e)
 ·rintro k ⟨i,hl,hk⟩ hT
  exact hg.apart ⟨gOf m i,(hlive hl).2,hk⟩ hT
 ·intro i b hb' hv hn
  obtain ⟨k1,k2⟩:=hkey hb'
  have:=hg.tight (hη _ k2) hv hn
  have hlen:(b.ren (gOf m)).cs.length=b.cs.length:=ca _
  rw [hlen] at this
  exact this
end
section
variable {P:Program} {τ:Nat->AV} {η:au} {d:Option Tmp} {ty:TypeId} {pos:String} {af:Array Edge} {g:Option (Nat×Bool)}
def jn (m:List (Nat×Nat)) (hb':List (Nat×Option Blk)):List (Nat×Option Blk):=hb'.map fun p=>(gOf m p.1,p.2.map (Blk.ren (gOf m)))
theorem Al {o:Oper} {f:FuncId} {args:List AV} {hb:List (Nat×Blk)} {hb':List (Nat×Option Blk)} {ret:AV} (m:List (Nat×Nat)) (hc:ra P f args hb hb' ret)
  (hm:m.map (·.1)=hb'.map (·.1)) (h1:pq (m.map (·.1))=true) (h2:pq (m.map (·.2))=true) (hsub:hb.all (fun p=>Nat.ble TOP p.1&&(m.map (·.1)).contains p.1)=true)
  (hη:Ga (fun p=>η (gOf m p.1)=some (p.2.ren (gOf m))) hb) (hok:Ga (fun p=>Hm (hb.map (·.1)) p.2) hb) (hok':Ga (fun p=>okO (m.map (·.1)) p.2) hb') (hargs:inL (hb.map (·.1)) args=true) (hret:ret.inB (m.map (·.1))=true)
  (h:∀ (C:Ctx) (a:Act),Good C->(∀ x∈o.op.operands,VR C (aev τ x) (a.eval x))->∃ vals,VRs C (pm (gOf m) args) vals/\(execOp a.eval o).run P C.w=.ok (.enter f vals) C.w) :
  LOp P o τ η (hb.map fun p=>gOf m p.1) (jn m hb') (ret.ren (gOf m)):=by
 intro C a hg hxs hfp hnew K Q hK
 have n1:=Eo.1 h1
 have n2:=Eo.1 h2
 have n3:(hb'.map (·.1)).Nodup:=hm ▸ n1
 have hsub':∀ p∈hb,TOP<=p.1/\p.1∈m.map (·.1):=fun p hp=>by
  have:=List.all_eq_true.1 hsub p hp
  rw [Bool.and_eq_true] at this
  exact ⟨Nat.le_of_ble_eq_true this.1,List.contains_iff_mem.1 this.2⟩
 have hη1:=M5.1 hη
 have hok1:=M5.1 hok
 have hok2:=M5.1 hok'
 have hCη:∀ p∈hb,C.η (gOf m p.1)=some (p.2.ren (gOf m)):=fun p hp=>(hfp _ (List.mem_map.2 ⟨p,hp,rfl⟩)).trans (hη1 p hp)
 obtain ⟨hu,hg0,hmine0⟩:=lr hg n2 n1 (fun p hp=>(hsub' p hp).2) hCη hok1
 generalize hC0:(⟨fun i=>C.ρ (gOf m i),fun i=>C.sz (gOf m i),bl hb,fun i=>i∈hb.map (·.1),C.T,C.w⟩:Ctx)=C0 at hu hg0 hmine0
 have eη:C0.η=bl hb:=by rw [<- hC0]
 have eU:∀ i,C0.U i↔i∈hb.map (·.1):=fun i=>by rw [<- hC0]
 have eρ:∀ i,C0.ρ i=C.ρ (gOf m i):=fun i=>by rw [<- hC0]
 have esz:∀ i,C0.sz i=C.sz (gOf m i):=fun i=>by rw [<- hC0]
 have eT:C0.T=C.T:=by rw [<- hC0]
 have ew:C0.w=C.w:=by rw [<- hC0]
 obtain ⟨vals,⟨hvl,hv⟩,hrun⟩:=h C a hg hxs
 have hvals:VRs C0 args vals:=by
  rw [ca] at hvl
  refine ⟨hvl,fun i hi hi'=>VR.unren hu _ _ (ki hargs i hi) ?_⟩
  have:=hv i (by rw [ca]; exact hi) hi'
  rw [ff] at this
  exact this
 have hmine:∀ {k},C0.mine k->C.mine k:=fun hk=>by
  obtain ⟨i,_,hl,e⟩:=hmine0 _ hk
  exact ⟨_,hl,e⟩
 unfold Oper.wp
 rw [hrun]
 have hcall:=hc C0 vals hg0 eη (fun i hi=>by
  obtain ⟨p,hp,rfl⟩:=List.mem_map.1 ((eU i).1 hi)
  exact (hsub' p hp).1) hvals
 rw [ew] at hcall
 refine Calls.mono hcall ?_
 rintro e w' ⟨x,C1,rfl,rfl,hη',hg1,hfr,hx⟩
 -- the caller's blocks after the call
 let C2:Ctx:=⟨fun k=>match bwd m k with | some i=>C1.ρ i | none=>C.ρ k,fun k=>match bwd m k with | some i=>C1.sz i | none=>C.sz k,
  fun k=>match bwd m k with | some i=>(C1.η i).map (Blk.ren (gOf m)) | none=>C.η k,fun k=>C.U k\/(bwd m k).isSome=true,C1.T,C1.w⟩
 have hgm:∀ {i k},(i,k)∈m->gOf m i=k:=fun h=>xw n1 h
 have hD:∀ {i},i∈m.map (·.1)->bwd m (gOf m i)=some i:=by
  intro i hi
  obtain ⟨⟨i',k⟩,h3,h4⟩:=List.mem_map.1 hi
  simp only at h4; subst h4
  rw [hgm h3]; exact Oo n2 h3
 have hren:Rens (m.map (·.1)) (gOf m) C1 C2:=by
  refine ⟨fun i hi=>?_,fun i hi=>?_,fun i hi=>?_,fun i hi=>?_,rfl,rfl⟩
  ·simp only [C2,hD hi]
  ·simp only [C2,hD hi]
  ·simp only [C2,hD hi]
  ·simp only [C2,hD hi]; exact .inr rfl
 have hin1:∀ {i b},C1.η i=some b->i∈m.map (·.1)/\(i,some b)∈hb':=by
  intro i b hb1
  rw [hη'] at hb1
  by_cases hi:i∈hb'.map (·.1)
  ·obtain ⟨⟨i',ob⟩,h3,h4⟩:=List.mem_map.1 hi
   simp only at h4; subst h4
   have:=sr n3 h3
   rw [this] at hb1; subst hb1
   exact ⟨hm ▸ hi,h3⟩
  ·rw [ui hi] at hb1; cases hb1
 have hcells:∀ {i b},C1.η i=some b->inL (m.map (·.1)) b.cs=true:=fun hb1=>hok2 _ (hin1 hb1).2
 -- live blocks
 have hl2:∀ {k b},C2.η k=some b->(∃ i b1,bwd m k=some i/\C1.η i=some b1/\b=b1.ren (gOf m))\/(bwd m k=none/\C.η k=some b):=by
  intro k b hb2
  cases hbw:bwd m k with
  | none=>right; refine ⟨rfl,?_⟩; simpa only [C2,hbw] using hb2
  | some i=>
   left
   have:(C1.η i).map (Blk.ren (gOf m))=some b:=by simpa only [C2,hbw] using hb2
   cases hc1:C1.η i with
   | none=>rw [hc1] at this; cases this
   | some b1=>rw [hc1] at this; simp only [Option.map_some,Zh] at this; exact ⟨i,b1,rfl,hc1,this.symm⟩
 have hnot0:∀ {k},bwd m k=none->C.live k->¬ C0.mine (C.ρ k).1:=by
  intro k hbw hl hm0
  obtain ⟨i,hi,hl',e⟩:=hmine0 _ hm0
  have:=hg.inj hl' hl e
  subst this
  obtain ⟨p,hp,rfl⟩:=List.mem_map.1 hi
  rw [hD (hsub' p hp).2] at hbw
  cases hbw
 have hlt:∀ {k},C.live k->(C.ρ k).1 < C0.w.heap.size:=fun hl=>by rw [ew]; exact hg.lt hl
 have hm1c:∀ {k},C1.mine k->C.mine k\/C.w.heap.size<=k:=fun hk=>(hfr.mine _ hk).imp hmine (fun h=>by rw [ew] at h; exact h)
 have hev:Ev C C2:=by
  refine ⟨⟨?_,?_,?_,?_,?_,?_,?_,?_⟩,fun _ h=>.inl h,?_⟩
  ·have:=hfr.os; rw [ew] at this; exact this
  ·have:=hfr.tape; rw [ew] at this; exact this
  ·have:=hfr.output; rw [ew] at this; exact this
  ·have:=hfr.size; rw [ew] at this; exact this
  ·intro k hk hn
   have:=hfr.keep k (by rw [ew]; exact hk) (fun h=>hn (hmine h))
   rw [ew] at this; exact this
  ·rintro k ⟨id,⟨b,hb2,hk2⟩,rfl⟩
   rcases hl2 hb2 with ⟨i,b1,e1,e2,rfl⟩ | ⟨e1,e2⟩
   ·have e3:C2.ρ id=C1.ρ i:=by simp only [C2,e1]
    rw [e3]
    exact hm1c ⟨i,⟨b1,e2,by rw [bg] at hk2; exact hk2⟩,rfl⟩
   ·have e3:C2.ρ id=C.ρ id:=by simp only [C2,e1]
    rw [e3]
    exact .inl ⟨id,⟨b,e2,hk2⟩,rfl⟩
  ·intro k hk
   exact hfr.T k (by rw [eT]; exact hk)
  ·intro k hk
   rcases hfr.Tnew k hk with h | h | h
   ·exact .inl (by rw [<- eT]; exact h)
   ·exact .inr (.inl (hmine h))
   ·exact .inr (.inr (by rw [<- ew]; exact h))
  ·intro id b' hU hb2
   rcases hl2 hb2 with ⟨i,b1,e1,e2,rfl⟩ | ⟨e1,e2⟩
   ·have hmem:=nj e1
    have hgi:=hgm hmem
    by_cases hi:i∈hb.map (·.1)
    ·have hTi:TOP<=i:=by obtain ⟨p,hp,rfl⟩:=List.mem_map.1 hi; exact (hsub' p hp).1
     obtain ⟨_,hold⟩:=hfr.pin i hTi ((eU i).2 hi)
     obtain ⟨b0,q1,q2,q3⟩:=hold b1 e2
     obtain ⟨b0',q4,q5⟩:=hu.η i hi
     rw [q1] at q4; cases q4
     rw [hgi] at q5
     refine ⟨_,q5,q2,fun e=>?_⟩
     obtain ⟨r1,r2,r3,r4⟩:=q3 e
     refine ⟨?_,?_,by rw [bg,bg]; exact r3,r4⟩
     ·simp only [C2,e1]; rw [r1,eρ,hgi]
     ·simp only [C2,e1]; rw [r2,esz,hgi]
    ·exfalso
     have hmem':i∈m.map (·.1):=List.mem_map.2 ⟨_,hmem,rfl⟩
     obtain ⟨ob,hob⟩:∃ ob,(i,ob)∈hb':=by
      rw [hm] at hmem'
      obtain ⟨⟨i',ob⟩,h3,h4⟩:=List.mem_map.1 hmem'
      simp only at h4; subst h4
      exact ⟨ob,h3⟩
     refine hnew (gOf m i,ob.map (Blk.ren (gOf m))) (List.mem_map.2 ⟨(i,ob),hob,rfl⟩) (fun hfpi=>?_) (by rw [hgi]; exact hU)
     obtain ⟨p,hp,e⟩:=List.mem_map.1 hfpi
     have h5:=hD (hsub' p hp).2
     simp only at e
     rw [e,hD hmem'] at h5
     exact hi (List.mem_map.2 ⟨p,hp,(Option.some.inj h5).symm⟩)
   ·refine ⟨b',e2,Nat.le_refl _,fun _=>⟨?_,?_,rfl,rfl⟩⟩
    ·simp only [C2,e1]
    ·simp only [C2,e1]
 have hkeep:∀ {k},bwd m k=none->C.live k->C1.w.heap[(C.ρ k).1]? = C.w.heap[(C.ρ k).1]?:=fun hbw hl=>by
  have:=hfr.keep _ (hlt hl) (hnot0 hbw hl)
  rw [ew] at this; exact this
 have hgood:Good C2:=by
  refine ⟨?_,?_,?_,?_,hg1.tok,?_,?_⟩
  ·intro k b hb2
   rcases hl2 hb2 with ⟨i,b1,e1,e2,rfl⟩ | ⟨e1,e2⟩
   ·exact .inr (by simp [e1])
   ·exact .inl (hg.used e2)
  ·intro k b hb2 hk
   rcases hl2 hb2 with ⟨i,b1,e1,e2,rfl⟩ | ⟨e1,e2⟩
   ·have e3:C2.ρ k=C1.ρ i:=by simp only [C2,e1]
    obtain ⟨ob,q1,q2⟩:=hg1.obj e2 (by rw [bg] at hk; exact hk)
    rw [e3]
    exact ⟨ob,q1,q2.ren hren (hcells e2)⟩
   ·have e3:C2.ρ k=C.ρ k:=by simp only [C2,e1]
    obtain ⟨ob,q1,q2⟩:=hg.obj e2 hk
    rw [e3]
    exact ⟨ob,(hkeep e1 ⟨b,e2,by rw [hk]; decide⟩).trans q1,q2.mono hg hev⟩
  ·intro k b hb2 hn
   rcases hl2 hb2 with ⟨i,b1,e1,e2,rfl⟩ | ⟨e1,e2⟩
   ·have e3:C2.ρ k=C1.ρ i:=by simp only [C2,e1]
    have e4:C2.sz k=C1.sz i:=by simp only [C2,e1]
    have hlen:(b1.ren (gOf m)).cs.length=b1.cs.length:=ca _
    obtain ⟨c,t,q1,q2,q3,q4⟩:=hg1.blk e2 hn
    rw [e3,e4]
    refine ⟨c,t,q1,q2,by rw [hlen]; exact q3,fun j hj hj'=>?_⟩
    have hj2:j < b1.cs.length:=by rw [hlen] at hj; exact hj
    have e5:(b1.ren (gOf m)).cs[j]'hj=(b1.cs[j]).ren (gOf m):=ff hj
    rw [e5]
    exact (q4 j hj2 hj').ren hren (ki (hcells e2) j hj2)
   ·have e3:C2.ρ k=C.ρ k:=by simp only [C2,e1]
    have e4:C2.sz k=C.sz k:=by simp only [C2,e1]
    obtain ⟨c,t,q1,q2,q3,q4⟩:=hg.blk e2 hn
    rw [e3,e4]
    exact ⟨c,t,(hkeep e1 ⟨b,e2,d7 hn⟩).trans q1,q2,q3,fun j hj hj'=>(q4 j hj hj').mono hg hev⟩
  ·rintro k k' ⟨b,hb2,hk2⟩ ⟨b',hb2',hk2'⟩ e
   rcases hl2 hb2 with ⟨i,b1,e1,e2,rfl⟩ | ⟨e1,e2⟩ <;> rcases hl2 hb2' with ⟨i',b1',e1',e2',rfl⟩ | ⟨e1',e2'⟩
   ·have f1:C2.ρ k=C1.ρ i:=by simp only [C2,e1]
    have f2:C2.ρ k'=C1.ρ i':=by simp only [C2,e1']
    rw [f1,f2] at e
    have:=hg1.inj ⟨b1,e2,by rw [bg] at hk2; exact hk2⟩ ⟨b1',e2',by rw [bg] at hk2'; exact hk2'⟩ e
    subst this
    rw [<- hgm (nj e1),<- hgm (nj e1')]
   ·exfalso
    have f1:C2.ρ k=C1.ρ i:=by simp only [C2,e1]
    have f2:C2.ρ k'=C.ρ k':=by simp only [C2,e1']
    rw [f1,f2] at e
    have hm1:C1.mine (C1.ρ i).1:=⟨i,⟨b1,e2,by rw [bg] at hk2; exact hk2⟩,rfl⟩
    rcases hfr.mine _ hm1 with q | q
    ·rw [e] at q; exact hnot0 e1' ⟨b',e2',hk2'⟩ q
    ·have:=hlt ⟨b',e2',hk2'⟩; omega
   ·exfalso
    have f1:C2.ρ k'=C1.ρ i':=by simp only [C2,e1']
    have f2:C2.ρ k=C.ρ k:=by simp only [C2,e1]
    rw [f1,f2] at e
    have hm1:C1.mine (C1.ρ i').1:=⟨i',⟨b1',e2',by rw [bg] at hk2'; exact hk2'⟩,rfl⟩
    rcases hfr.mine _ hm1 with q | q
    ·rw [<- e] at q; exact hnot0 e1 ⟨b,e2,hk2⟩ q
    ·have:=hlt ⟨b,e2,hk2⟩; omega
   ·have f1:C2.ρ k=C.ρ k:=by simp only [C2,e1]
    have f2:C2.ρ k'=C.ρ k':=by simp only [C2,e1']
    rw [f1,f2] at e
    exact hg.inj ⟨b,e2,hk2⟩ ⟨b',e2',hk2'⟩ e
  ·rintro k ⟨id,⟨b,hb2,hk2⟩,rfl⟩ hT
   rcases hl2 hb2 with ⟨i,b1,e1,e2,rfl⟩ | ⟨e1,e2⟩
   ·have f1:C2.ρ id=C1.ρ i:=by simp only [C2,e1]
    rw [f1] at hT
    exact hg1.apart ⟨i,⟨b1,e2,by rw [bg] at hk2; exact hk2⟩,rfl⟩ hT
   ·have f1:C2.ρ id=C.ρ id:=by simp only [C2,e1]
    rw [f1] at hT
    rcases hfr.Tnew _ hT with q | q | q
    ·rw [eT] at q; exact hg.apart ⟨id,⟨b,e2,hk2⟩,rfl⟩ q
    ·exact hnot0 e1 ⟨b,e2,hk2⟩ q
    ·have:=hlt ⟨b,e2,hk2⟩; omega
  ·intro k b hb2 hv hn
   rcases hl2 hb2 with ⟨i,b1,e1,e2,rfl⟩ | ⟨e1,e2⟩
   ·have e3:C2.ρ k=C1.ρ i:=by simp only [C2,e1]
    have e4:C2.sz k=C1.sz i:=by simp only [C2,e1]
    have hlen:(b1.ren (gOf m)).cs.length=b1.cs.length:=ca _
    rw [e3,e4,hlen]
    exact hg1.tight e2 hv hn
   ·have e3:C2.ρ k=C.ρ k:=by simp only [C2,e1]
    have e4:C2.sz k=C.sz k:=by simp only [C2,e1]
    rw [e3,e4]
    exact hg.tight e2 hv hn
 -- what is written
 have hids:(jn m hb').map (·.1)=m.map (·.2):=by
  have e1:(jn m hb').map (·.1)=(hb'.map (·.1)).map (gOf m):=by simp [jn,Function.comp_def]
  rw [e1,<- hm,List.map_map]
  exact List.map_congr_left (fun p hp=>hgm (show (p.1,p.2)∈m from hp))
 have hput:C2.η=C.η.put (jn m hb'):=by
  funext k
  cases hbw:bwd m k with
  | none=>
   rw [A7 (by
    rw [hids]
    intro hk
    obtain ⟨p,hp,rfl⟩:=List.mem_map.1 hk
    exact D0 hbw p.1 hp)]
   simp only [C2,hbw]
  | some i=>
   have hmem:=nj hbw
   have hmem':i∈hb'.map (·.1):=hm ▸ List.mem_map.2 ⟨_,hmem,rfl⟩
   obtain ⟨⟨i',ob⟩,h3,h4⟩:=List.mem_map.1 hmem'
   simp only at h4; subst h4
   have h5:(gOf m i',ob.map (Blk.ren (gOf m)))∈jn m hb':=List.mem_map.2 ⟨_,h3,rfl⟩
   rw [hgm hmem] at h5
   rw [N3 (by rw [hids]; exact n2) h5]
   simp only [C2,hbw,hη',sr n3 h3]
 refine hK x C2 hput (fun k=>?_) hgood hev (hx.ren hren hret)
 rw [hids]
 constructor
 ·rintro (hk | hk)
  ·exact .inl hk
  ·obtain ⟨i,hi⟩:=Option.isSome_iff_exists.1 hk
   exact .inr (List.mem_map.2 ⟨_,nj hi,rfl⟩)
 ·rintro (hk | hk)
  ·exact .inl hk
  ·obtain ⟨⟨i,k'⟩,hp,rfl⟩:=List.mem_map.1 hk
   exact .inr (by rw [Oo n2 hp]; rfl)
theorem gy {f:FuncId} {xs:Array Operand} {ats:Array TypeId} {args:List AV} {hb:List (Nat×Blk)} {hb':List (Nat×Option Blk)} {ret r:AV} {fp:List Nat} {δ:List (Nat×Option Blk)} (m:List (Nat×Nat)) (hbd:co P f=true) (hc:ra P f args hb hb' ret)
  (hm:m.map (·.1)=hb'.map (·.1)) (h1:pq (m.map (·.1))=true) (h2:pq (m.map (·.2))=true) (hsub:hb.all (fun p=>Nat.ble TOP p.1&&(m.map (·.1)).contains p.1)=true)
  (hη:Ga (fun p=>η (gOf m p.1)=some (p.2.ren (gOf m))) hb) (hok:Ga (fun p=>Hm (hb.map (·.1)) p.2) hb) (hok':Ga (fun p=>okO (m.map (·.1)) p.2) hb') (hargs:inL (hb.map (·.1)) args=true) (hret:ret.inB (m.map (·.1))=true)
  (hxs:xs.toList.map (aev τ)=pm (gOf m) args) (hfp:(hb.map fun p=>gOf m p.1)=fp) (hδ:jn m hb'=δ) (hr:ret.ren (gOf m)=r) :
  LOp P ⟨d,.call { callee:=.value (.func f),args:=xs,argTypes:=ats },ty,pos,af,g⟩ τ η fp δ r:=by
 subst hfp hδ hr
 refine Al m hc hm h1 h2 hsub hη hok hok' hargs hret fun C a hg hx=>⟨xs.map a.eval,?_,?_⟩
 ·rw [<- hxs]
  refine ⟨by simp,fun i h h'=>?_⟩
  simp only [List.getElem_map,Array.getElem_toList,Array.getElem_map]
  exact hx _ (by simp [Op.operands,Call.operands])
 ·have:execOp a.eval ⟨d,.call { callee:=.value (.func f),args:=xs,argTypes:=ats },ty,pos,af,g⟩=callFunc f (#[]++xs.map a.eval++#[]):=rfl
  rw [this,eb hbd]
  simp
/-- What is written as it ju is not written. -/
theorem Aj {o:Oper} {fp:List Nat} {δ:List (Nat×Option Blk)} {v:AV} (h:LOp P o τ η fp δ v) (hs:Ga (fun p=>p.1∈fp/\η p.1=p.2/\p.2.isSome=true) δ):LOp P o τ η fp [] v:=by
 have hs':=M5.1 hs
 intro C a hg hxs hfp _ K Q hK
 refine h C a hg hxs hfp (fun p hp hn=>absurd (hs' p hp).1 hn) K Q fun x C' h1 h2 h3 h4 h5=>hK x C' ?_ (fun id=>?_) h3 h4 h5
 ·rw [h1]
  have:∀ (δ:List (Nat×Option Blk)) (η':au),(∀ p∈δ,η' p.1=p.2)->η'.put δ=η':=by
   intro δ
   induction δ with
   | nil=>intro _ _; rfl
   | cons p r ih=>
    intro η' hp
    have e:η'.set p.1 p.2=η':=by
     funext k
     by_cases hk:k=p.1
     ·subst hk; rw [ae,hp p (by simp)]
     ·rw [am _ _ hk]
    show (η'.set p.1 p.2).put r=η'
    rw [e]
    exact ih η' (fun q hq=>hp q (by simp [hq]))
  exact this δ C.η (fun p hp=>(hfp _ (hs' p hp).1).trans (hs' p hp).2.1)
 ·rw [h2]
  simp only [List.map_nil,List.not_mem_nil,or_false]
  constructor
  ·rintro (hk | hk)
   ·exact hk
   ·obtain ⟨p,hp,rfl⟩:=List.mem_map.1 hk
    obtain ⟨q1,q2,q3⟩:=hs' p hp
    obtain ⟨b,hb⟩:=Option.isSome_iff_exists.1 q3
    exact hg.used ((hfp _ q1).trans (q2.trans hb))
  ·exact .inl
end
/-- Some blocks are forgotten, the cells of others are read otherwise, more of the memory is left alone from now on. -/
theorem VR.shift {C C':Ctx} (hρ:C'.ρ=C.ρ) (hsz:C'.sz=C.sz) (hw:C'.w=C.w) (hU:C'.U=C.U) (hT:∀ b,C.T b->C'.T b) (hused:∀ {id b},C.η id=some b->C.U id)
  (hη:∀ id b',C'.η id=some b'->∃ b,C.η id=some b/\b'.ver=b.ver/\b'.nilp=b.nilp/\b'.kind=b.kind/\b'.esz=b.esz) {a:AV} {x:Value} (h:VR C a x):VR C' a x:=by
 have st:∀ {id ver:Nat},(∀ b,C.η id=some b->ver < b.ver)->∀ b,C'.η id=some b->ver < b.ver:=by
  intro id ver h b hb
  obtain ⟨b0,h0,h1,_⟩:=hη id b hb
  rw [h1]; exact h b0 h0
 have keep:∀ {id:Nat} {b:Blk},C.η id=some b->(∃ b',C'.η id=some b'/\b'.ver=b.ver/\b'.nilp=b.nilp/\b'.kind=b.kind/\b'.esz=b.esz)\/C'.η id=none:=by
  intro id b hb
  cases h':C'.η id with
  | none=>exact .inr rfl
  | some b'=>
   obtain ⟨b0,h0,hh⟩:=hη id b' h'
   rw [hb] at h0; cases h0
   exact .inl ⟨b',rfl,hh⟩
 induction h with
 | imm h=>exact .imm (h.mono hT (fun _ _=>by rw [hw]))
 | ptr hb he hn=>
  rcases keep hb with ⟨b',h',e1,e2,e3,e4⟩ | h'
  ·rw [<- hρ]; exact .ptr h' (e1.trans he) (e2.trans hn)
  ·exact .stalep rfl (by rw [hU]; exact hused hb) (fun b hb'=>by rw [h'] at hb'; cases hb')
 | sl hb he hn h1 h2 h3 h4=>
  rcases keep hb with ⟨b',h',e1,e2,e3,e4⟩ | h'
  ·rw [<- hρ]; exact .sl h' (e1.trans he) (e2.trans hn) h1 h2 h3 (by rw [hρ,hsz,e4]; exact h4)
  ·exact .stales rfl (by rw [hU]; exact hused hb) (fun b hb'=>by rw [h'] at hb'; cases hb')
 | slz hb he hn=>
  rcases keep hb with ⟨b',h',e1,e2,e3,e4⟩ | h'
  ·exact .slz h' (e1.trans he) (e2.trans hn)
  ·exact .stales rfl (by rw [hU]; exact hused hb) (fun b hb'=>by rw [h'] at hb'; cases hb')
 | slnil hb he hn=>
  rcases keep hb with ⟨b',h',e1,e2,e3,e4⟩ | h'
  ·exact .slnil h' (e1.trans he) (e3.trans hn)
  ·exact .stales rfl (by rw [hU]; exact hused hb) (fun b hb'=>by rw [h'] at hb'; cases hb')
 | mp hb he hn=>
  rcases keep hb with ⟨b',h',e1,e2,e3,e4⟩ | h'
  ·rw [<- hρ]; exact .mp h' (e1.trans he) (e3.trans hn)
  ·exact .stalem rfl (by rw [hU]; exact hused hb) (fun b hb'=>by rw [h'] at hb'; cases hb')
 | it hb he hn=>
  rcases keep hb with ⟨b',h',e1,e2,e3,e4⟩ | h'
  ·rw [<- hρ]; exact .it h' (e1.trans he) (e3.trans hn)
  ·exact .stalei rfl (by rw [hU]; exact hused hb) (fun b hb'=>by rw [h'] at hb'; cases hb')
 | stalem h1 hu hs=>exact .stalem h1 (by rw [hU]; exact hu) (st hs)
 | stalei h1 hu hs=>exact .stalei h1 (by rw [hU]; exact hu) (st hs)
 | stalep h1 hu hs=>exact .stalep h1 (by rw [hU]; exact hu) (st hs)
 | stales h1 hu hs=>exact .stales h1 (by rw [hU]; exact hu) (st hs)
 | agg hl _ ih=>exact .agg hl ih
 | tup hl _ ih=>exact .tup hl ih
 | clo hl _ ih=>exact .clo hl ih
theorem ObjR.shift {C C':Ctx} (h:∀ {a:AV} {x:Value},VR C a x->VR C' a x) {cs:List AV} {o:Obj} (ho:ObjR C cs o):ObjR C' cs o:=by
 cases ho with
 | map hl hi=>exact .map hl (fun i h1 h2=>⟨(hi i h1 h2).1,h (hi i h1 h2).2.1,(hi i h1 h2).2.2⟩)
 | siter=>exact .siter
 | miter0=>exact .miter0
 | miter hv=>exact .miter (h hv)
/-- Values, some of which are frozen. -/
inductive FzC (fp:List Nat) (η:au):List AV->List AV->Prop where
 | nil:FzC fp η [] []
 | same {a:AV} {cs ds:List AV}:FzC fp η cs ds->FzC fp η (a :: cs) (a :: ds)
 | fz {a r:AV} {cs ds:List AV}:FzP fp η a r->FzC fp η cs ds->FzC fp η (a :: cs) (r :: ds)
theorem FzC.refl {fp:List Nat} {η:au}:∀ l:List AV,FzC fp η l l
 | []=>.nil
 | _ :: r=>.same (FzC.refl r)
theorem FzC.len {fp:List Nat} {η:au} {cs ds:List AV} (h:FzC fp η cs ds):cs.length=ds.length:=by
 induction h with
 | nil=>rfl
 | same _ ih=>simp [ih]
 | fz _ _ ih=>simp [ih]
theorem FzC.at {fp:List Nat} {η:au} {cs ds:List AV} (h:FzC fp η cs ds):∀ (i:Nat) (h1:i < cs.length) (h2:i < ds.length),ds[i]=cs[i]\/FzP fp η cs[i] ds[i]:=by
 induction h with
 | nil=>intro i h1; simp at h1
 | same _ ih=>intro i h1 h2; cases i with
  | zero=>exact .inl rfl
  | succ i=>simpa using ih i (by simpa using h1) (by simpa using h2)
 | fz hf _ ih=>intro i h1 h2; cases i with
  | zero=>exact .inr hf
  | succ i=>simpa using ih i (by simpa using h1) (by simpa using h2)
inductive RetFz (fp:List Nat) (η:au):AV->AV->Prop where
 | same {a:AV}:RetFz fp η a a
 | fz {a r:AV}:FzP fp η a r->RetFz fp η a r
 | tup {cs ds:List AV}:FzC fp η cs ds->RetFz fp η (.tup cs) (.tup ds)
/-- A block as it is left. -/
inductive Left (fp:List Nat) (η:au):Nat×Option Blk->Prop where
 | gone {i:Nat}:Left fp η (i,none)
 | same {i:Nat} {b:Blk}:η i=some b->i∉fp->Left fp η (i,some b)
 | cells {i ver ez:Nat} {cs ds:List AV}:η i=some ⟨ver,cs,ez,false⟩->i∉fp->FzC fp η cs ds->Left fp η (i,some ⟨ver,ds,ez,false⟩)
def Sf (P:Program) (N:Nat) (fn:Func) (s:St) (a0:AV):Prop:=∀ C a,SRel N C s a->∃ x,(results fn a.tmps).run P C.w=.ok x C.w/\VR C a0 x
theorem SRel.toX {N:Nat} {C:Ctx} {s:St} {a:Act} (h:SRel N C s a):SRelX [] (fun _=>True) s.u N C s a:=⟨h.good,fun id _=>by rw [h.η],fun id h1 h2=>by omega,h.defers,h.size,h.τ⟩
theorem Sf.all {P:Program} {N:Nat} {fn:Func} {s:St} {vs:List AV} (h:AllX P (fun _=>True) s.u N s fn.results.toList vs):Sf P N fn s (Sp vs):=fun C a hr=>rr h [] C a hr.toX
theorem fw {P:Program} {N:Nat} {fn:Func} {s:St} {vs:List AV} {rs:Array ResultVar} (hr:fn.results=rs) (h:AllX P (fun _=>True) s.u N s rs.toList vs):Sf P N fn s (Sp vs):=Sf.all (by rw [hr]; exact h)
/-- What the function gives and leaves in a state. -/
def M7 (P:Program) (N:Nat) (fn:Func) (s:St) (hb':List (Nat×Option Blk)) (ret:AV):Prop :=
 ∀ C a,SRel N C s a->∃ x C',(results fn a.tmps).run P C.w=.ok x C.w/\C'.w=C.w/\C'.η=mr hb'/\Good C'/\Fr C C'/\VR C' ret x
theorem M7.of {P:Program} {N:Nat} {fn:Func} {s:St} {hb':List (Nat×Option Blk)} {a0 ret:AV} (fp:List Nat) (hres:Sf P N fn s a0) (hn:pq (hb'.map (·.1))=true) (hl:Ga (Left fp s.η) hb') (hr:RetFz fp s.η a0 ret):M7 P N fn s hb' ret:=by
 intro C a hs
 have n:=Eo.1 hn
 have hl1:=M5.1 hl
 obtain ⟨x,h1,h2⟩:=hres C a hs
 let C':Ctx:={ C with η:=mr hb',T:=fun b=>C.T b\/C.mineOf fp b }
 have hin:∀ {i b},mr hb' i=some b->(i,some b)∈hb':=by
  intro i b hb1
  by_cases hi:i∈hb'.map (·.1)
  ·obtain ⟨⟨i',ob⟩,h3,h4⟩:=List.mem_map.1 hi
   simp only at h4; subst h4
   have:=sr n h3
   rw [this] at hb1; subst hb1
   exact h3
  ·rw [ui hi] at hb1; cases hb1
 have hold:∀ {i b'},mr hb' i=some b'->∃ b,C.η i=some b/\i∉fp/\b'.ver=b.ver/\b'.nilp=b.nilp/\b'.kind=b.kind/\b'.esz=b.esz/\FzC fp s.η b.cs b'.cs/\(b'.nilp=true->b'.cs=b.cs):=by
  intro i b' hb1
  have:=hl1 _ (hin hb1)
  cases this with
  | same h3 h4=>exact ⟨b',by rw [hs.η]; exact h3,h4,rfl,rfl,rfl,rfl,FzC.refl _,fun _=>rfl⟩
  | @cells _ ver ez cs ds h3 h4 h5=>exact ⟨⟨ver,cs,ez,false⟩,by rw [hs.η]; exact h3,h4,rfl,rfl,(eg rfl).trans (eg rfl).symm,rfl,h5,fun e=>by cases e⟩
 have hvr:∀ {a:AV} {x:Value},VR C a x->VR C' a x:=fun hv=>VR.shift (C:=C) (C':=C') rfl rfl rfl rfl (fun b hb=>.inl hb) hs.good.used (fun id b' hb=>by
  obtain ⟨b,q1,_,q2,q3,q4,q5,_⟩:=hold hb
  exact ⟨b,q1,q2,q3,q4,q5⟩) hv
 have hfz:∀ {a r:AV} {x:Value},FzP fp s.η a r->VR C a x->VR C' r x:=fun hf hv=>.imm (hf C hs.good (fun id _=>by rw [hs.η]) _ hv)
 have hlive:∀ {i},C'.live i->C.live i/\i∉fp:=by
  rintro i ⟨b',hb1,hk⟩
  obtain ⟨b,q1,q0,q2,q3,q4,_⟩:=hold hb1
  exact ⟨⟨b,q1,by rw [<- q4]; exact hk⟩,q0⟩
 refine ⟨x,C',h1,rfl,rfl,⟨?_,?_,?_,?_,?_,?_,?_⟩,⟨⟨rfl,rfl,rfl,Nat.le_refl _,fun _ _ _=>rfl,fun k ⟨i,q1,q2⟩=>.inl ⟨i,(hlive q1).1,q2⟩,fun k h=>.inl h,fun k h=>?_⟩,?_⟩,?_⟩
 ·intro i b' hb1
  obtain ⟨b,q1,_⟩:=hold hb1
  exact hs.good.used q1
 ·intro i b' hb1 hk
  obtain ⟨b,q1,_,q2,q3,q4,_,_,q5⟩:=hold hb1
  obtain ⟨o,g1,g2⟩:=hs.good.obj q1 (by rw [<- q4]; exact hk)
  refine ⟨o,g1,?_⟩
  rw [q5 (D8 hk).1]
  exact ObjR.shift hvr g2
 ·intro i b' hb1 hn'
  obtain ⟨b,q1,_,q2,q3,q4,_,q5,_⟩:=hold hb1
  obtain ⟨c,t,g1,g2,g3,g4⟩:=hs.good.blk q1 (by rw [<- q3]; exact hn')
  have hlen:=q5.len
  refine ⟨c,t,g1,g2,by rw [<- hlen]; exact g3,fun j hj hj'=>?_⟩
  have:=g4 j (by omega) hj'
  rcases q5.at j (by omega) hj with e | e
  ·rw [e]; exact hvr this
  ·exact hfz e this
 ·intro i j hi hj e
  exact hs.good.inj (hlive hi).1 (hlive hj).1 e
 ·refine hs.good.tokT (fun _ h=>.inl h) ?_
  rintro k (hk | hk)
  ·exact hs.good.tlt hk
  ·exact dt hs.good (bf hk)
 ·rintro k ⟨i,hl',hk⟩ (hT | ⟨i',hi',hl'',e⟩)
  ·exact hs.good.apart ⟨i,(hlive hl').1,hk⟩ hT
  ·have:i'=i:=hs.good.inj hl'' (hlive hl').1 (e.trans hk.symm)
   subst this
   exact (hlive hl').2 hi'
 ·intro i b' hb1 hv hn'
  obtain ⟨b,q1,_,q2,q3,q4,_,q5,_⟩:=hold hb1
  have:=hs.good.tight q1 (q2 ▸ hv) (by rw [<- q3]; exact hn')
  rw [<- q5.len]; exact this
 ·rcases h with h | h
  ·exact .inl h
  ·exact .inr (.inl (bf h))
 ·intro id _ hu
  refine ⟨hu,fun b' hb1=>?_⟩
  obtain ⟨b,q1,_,q2,q3,q4,q5,_⟩:=hold hb1
  exact ⟨b,q1,by omega,fun _=>⟨rfl,rfl,q4,q5⟩⟩
 ·cases hr with
  | same=>exact hvr h2
  | fz hf=>exact hfz hf h2
  | tup hf=>
   obtain ⟨vs,rfl,hl1,hi1⟩:=h2.tup_inv'
   have hlen:=hf.len
   refine .tup (by omega) (fun i hi hi'=>?_)
   have:=hi1 i (by omega) hi'
   rcases hf.at i (by omega) hi with e | e
   ·rw [e]; exact hvr this
   ·exact hfz e this
theorem ra.of_body {P:Program} {f:FuncId} {fn:Func} {c:Code} {N:Nat} {args:List AV} {hb:List (Nat×Blk)} {hb':List (Nat×Option Blk)} {ret:AV} (hf:P.funcs[f]? = some fn) (hbd:fn.body=some c) (hN:fn.ntmps=N) (hl:args.length<=N)
  (h:AWP P N c (fun e s'=>(e=.normal\/e=.ret)/\M7 P N fn s' hb' ret) ⟨f0 args,bl hb,0⟩):ra P f args hb hb' ret:=by
 intro C vals hg hη hU ⟨hlen,hv⟩
 have hr:SRel N C ⟨f0 args,bl hb,0⟩ { tmps:=vals++Array.replicate (fn.ntmps - vals.size) undef,defers:=[] }:=by
  refine ⟨hg,hη,fun id h=>.inr (hU id h),rfl,by simp; omega,fun t=>?_⟩
  simp only [Act.eval,f0]
  by_cases ht:t < args.length
  ·have h1:args.getD t (.v undef)=args[t]:=by simp [List.getD,ht]
   have h2:(vals++Array.replicate (fn.ntmps - vals.size) undef).getD t undef=vals[t]'(by omega):=by
    rw [Array.getD_eq_getD_getElem?,Array.getElem?_append_left (by omega)]
    simp [show t < vals.size by omega]
   rw [h1,h2]
   exact hv t ht (by omega)
  ·have h1:args.getD t (.v undef)=.v undef:=by simp [List.getD,List.getElem?_eq_none (Nat.le_of_not_lt ht)]
   have h2:(vals++Array.replicate (fn.ntmps - vals.size) undef).getD t undef=undef:=by
    rw [Array.getD_eq_getD_getElem?,Array.getElem?_append_right (by omega)]
    rw [Array.getElem?_replicate]
    split <;> rfl
   rw [h1,h2]
   exact VR.v _ _
 refine calls_of_wp hf hbd (Code.wp_mono ?_ (h C _ hr))
 rintro e a' w' ⟨s',C',⟨he,ho⟩,rfl,hr',hfr⟩
 obtain ⟨x,C2,h1,h2,h3,h4,h5,h6⟩:=ho C' a' hr'
 have hgive:∃ x' C'',(Ending.returned x)=.returned x'/\C''.w=C'.w/\C''.η=mr hb'/\Good C''/\Fr C C''/\VR C'' ret x':=⟨x,C2,rfl,h2,h3,h4,hfr.trans h5,h6⟩
 rcases he with rfl | rfl
 ·exact ⟨hr'.defers,x,h1,hgive⟩
 ·exact ⟨hr'.defers,x,h1,hgive⟩
open Go.RowKit Go.Sort
def iF (l:List Int):List AV:=l.map fun n=>.v (.int .i64 n)
theorem rg {l:List Int}:(iF l).length=l.length:=by simp [iF]
theorem u6 {P:Program} {f:FuncId} {l l':List Int} {v:Nat} {ret:AV} {rv:Nat->Nat->Nat->Value} (hpos:0 < l.length) (hlen:l'.length=l.length)
  (hret:(ret=.v (.tuple #[])/\∀ b o c,rv b o c=.tuple #[])\/∃ m,m<=l.length/\ret=.sl TOP v 0 m/\∀ b o c,rv b o c=.slice (some ⟨b,o,none⟩) m c)
  (h:∀ (blk off cap:Nat) (w:World),Holds (Value.int .i64) w blk off l.toArray->blk < w.heap.size->l.length<=cap->Calls P f #[.slice (some ⟨blk,off,none⟩) l.length cap] w (fun e w'=>e=.returned (rv blk off cap)/\∃ q os,w'=grow ((w.drewN q).setCells blk off (l'.map (Value.int .i64))) os)) :
  ra P f [.sl TOP v 0 l.length] [(TOP,⟨v,iF l,1,false⟩)] [(TOP,some ⟨v,iF l',1,false⟩)] ret:=by
 intro C vals hg hη hU ⟨hvl,hv⟩
 have hb:C.η TOP=some ⟨v,iF l,1,false⟩:=by rw [hη]; simp [bl]
 have h0:=hv 0 (by simp) (by simp at hvl; omega)
 simp only [List.getElem_cons_zero] at h0
 obtain ⟨ad,cap,e1,c1,c2,c3,c4⟩:=h0.sl_inv hb rfl rfl
 have had:ad=⟨(C.ρ TOP).1,(C.ρ TOP).2+0,none⟩/\(C.ρ TOP).2+0+cap * 1<=C.sz TOP:=by
  rcases c4 with ⟨h,_⟩ | ⟨h1,h2⟩
  ·omega
  ·exact ⟨h1,h2⟩
 obtain ⟨rfl,hsz⟩:=had
 have hvals:vals=#[.slice (some ⟨(C.ρ TOP).1,(C.ρ TOP).2+0,none⟩) l.length cap]:=by
  apply Array.ext
  ·simpa using hvl.symm
  ·intro i hi hi'
   have:i=0:=by simp at hi'; omega
   subst this
   exact e1
 obtain ⟨c,t,g1,g2,g3,g4⟩:=hg.blk hb rfl
 simp only [rg] at g3
 have hcell:∀ j,j < l.length->∃ hj:(C.ρ TOP).2+j < c.size,c[(C.ρ TOP).2+j]=.int .i64 (l.getD j 0):=by
  intro j hj
  refine ⟨by omega,?_⟩
  have:=g4 j (by simp [rg,hj]) (by omega)
  have e:(iF l)[j]'(by simp [rg,hj])=.v (.int .i64 l[j]):=by simp [iF]
  rw [e] at this
  rw [this.v_inv]; simp [List.getD,hj]
 have hH:Holds (Value.int .i64) C.w (C.ρ TOP).1 ((C.ρ TOP).2+0) l.toArray:=by
  intro j hj
  have hj':j < l.length:=by simpa using hj
  obtain ⟨k1,k2⟩:=hcell j hj'
  refine ⟨?_,by simp [World.frozen?,g1]⟩
  have:C.w.cell? ⟨(C.ρ TOP).1,(C.ρ TOP).2+0+j,none⟩=c[(C.ρ TOP).2+j]?:=by simp [World.cell?,g1]
  rw [this,Array.getElem?_eq_getElem k1,k2]
  simp [List.getD,hj']
 have hlt:(C.ρ TOP).1 < C.w.heap.size:=(Array.getElem?_eq_some_iff.1 g1).1
 rw [hvals]
 refine Calls.mono (h _ _ cap C.w hH hlt c1) ?_
 rintro e w' ⟨rfl,q,os,rfl⟩
 have k1:(C.w.drewN q).heap[(C.ρ TOP).1]? = some (.cells c t (0,0)):=g1
 have k2:=i9 (l'.map (Value.int .i64)) (C.w.drewN q) (C.ρ TOP).1 ((C.ρ TOP).2+0) c t k1
 obtain ⟨r1,r2,r3,r4⟩:=dh (l'.map (Value.int .i64)) (C.w.drewN q) (C.ρ TOP).1 ((C.ρ TOP).2+0)
 have r4':((C.w.drewN q).setCells (C.ρ TOP).1 ((C.ρ TOP).2+0) (l'.map (Value.int .i64))).heap.size=C.w.heap.size:=r4
 have hgrow:∀ k,k < C.w.heap.size->(grow ((C.w.drewN q).setCells (C.ρ TOP).1 ((C.ρ TOP).2+0) (l'.map (Value.int .i64))) os).heap[k]? = ((C.w.drewN q).setCells (C.ρ TOP).1 ((C.ρ TOP).2+0) (l'.map (Value.int .i64))).heap[k]?:=by
  intro k hk
  unfold grow
  rw [Array.getElem?_append_left (by rw [r4']; exact hk)]
 have hother:∀ k,k < C.w.heap.size->k≠(C.ρ TOP).1->(grow ((C.w.drewN q).setCells (C.ρ TOP).1 ((C.ρ TOP).2+0) (l'.map (Value.int .i64))) os).heap[k]? = C.w.heap[k]?:=by
  intro k hk hne
  rw [hgrow k hk,eh _ _ _ _ _ hne]
  rfl
 generalize hw':grow ((C.w.drewN q).setCells (C.ρ TOP).1 ((C.ρ TOP).2+0) (l'.map (Value.int .i64))) os=w' at hgrow hother
 have hsize:C.w.heap.size<=w'.heap.size:=by
  rw [<- hw']
  show _<=(((C.w.drewN q).setCells (C.ρ TOP).1 ((C.ρ TOP).2+0) (l'.map (Value.int .i64))).heap++os).size
  rw [Array.size_append,r4']
  omega
 have hrest:w'.os=C.w.os/\w'.tape=C.w.tape/\w'.output=C.w.output:=by rw [<- hw']; exact ⟨r1,r2,r3⟩
 have hblk:w'.heap[(C.ρ TOP).1]? = some (.cells (setR c ((C.ρ TOP).2+0) (l'.map (Value.int .i64))) t (0,0)):=by rw [hgrow _ hlt]; exact k2
 let C':Ctx:={ C with η:=mr [(TOP,some ⟨v,iF l',1,false⟩)],w:=w' }
 have hone:∀ {i b},C'.η i=some b->i=TOP/\b=⟨v,iF l',1,false⟩:=by
  intro i b hb1
  by_cases e:i=TOP
  ·subst e
   have:C'.η TOP=some ⟨v,iF l',1,false⟩:=by simp [C',mr]
   rw [this] at hb1; cases hb1; exact ⟨rfl,rfl⟩
  ·have:C'.η i=none:=by simp [C',mr,jo e]
   rw [this] at hb1; cases hb1
 have hmine:∀ {k},C'.mine k->k=(C.ρ TOP).1:=by
  rintro k ⟨i,⟨b,hb1,_⟩,rfl⟩
  obtain ⟨rfl,_⟩:=hone hb1
  rfl
 have hminC:C.mine (C.ρ TOP).1:=⟨TOP,⟨_,hb,d7 rfl⟩,rfl⟩
 refine ⟨_,C',rfl,rfl,rfl,⟨?_,?_,?_,?_,?_,?_,?_⟩,⟨⟨hrest.1,hrest.2.1,hrest.2.2,hsize,fun k hk hn=>hother k hk (fun e=>hn (by rw [e]; exact hminC)),fun k hk=>.inl (by rw [hmine hk]; exact hminC),fun _ h=>h,fun _ h=>.inl h⟩,?_⟩,?_⟩
 ·intro i b hb1
  obtain ⟨rfl,_⟩:=hone hb1
  exact hg.used hb
 ·intro i b hb1 hk
  obtain ⟨rfl,rfl⟩:=hone hb1
  rw [eg rfl] at hk; cases hk
 ·intro i b hb1 hn
  obtain ⟨rfl,rfl⟩:=hone hb1
  refine ⟨_,t,hblk,by rw [fq]; exact g2,by rw [fq,rg,hlen]; exact g3,fun j hj hj'=>?_⟩
  have hj2:j < l'.length:=by simpa [rg] using hj
  have e2:(iF l')[j]'(by simpa [rg] using hj2)=.v (.int .i64 l'[j]):=by simp [iF]
  have e3:=tc (l'.map (Value.int .i64)) c ((C.ρ TOP).2+0) j (by simp; omega) (by simpa using hj2)
  have e4:(setR c ((C.ρ TOP).2+0) (l'.map (Value.int .i64)))[(C.ρ TOP).2+j]? = some (.int .i64 l'[j]):=by
   rw [Nat.add_zero] at e3 ⊢
   rw [e3]; simp [hj2]
  have e5:(setR c ((C.ρ TOP).2+0) (l'.map (Value.int .i64)))[(C.ρ TOP).2+j]'hj'=.int .i64 l'[j]:=by
   rw [Array.getElem?_eq_getElem hj'] at e4
   exact Option.some.inj e4
  show VR C' (iF l')[j] _
  rw [e2]
  have e6:(setR c ((C.ρ TOP).2+0) (l'.map (Value.int .i64)))[(C'.ρ TOP).2+j]'hj'=.int .i64 l'[j]:=e5
  rw [e6]
  exact VR.v _ _
 ·rintro i j ⟨b,hb1,_⟩ ⟨b',hb2,_⟩ _
  rw [(hone hb1).1,(hone hb2).1]
 ·exact ⟨fun k hk=>Nat.lt_of_lt_of_le (hg.tlt (k:=k) hk) hsize,hg.tok.glob.mono (fun _ h=>h) (fun b hT=>hother b (hg.tlt hT) (fun e=>hg.apart hminC (e ▸ hT)))⟩
 ·intro k hk hT
  rw [hmine hk] at hT
  exact hg.apart hminC hT
 ·intro i b hb1 hv' hn
  obtain ⟨rfl,rfl⟩:=hone hb1
  have:=hg.tight hb hv' rfl
  show C.sz TOP=(C.ρ TOP).2+(iF l').length
  rw [this,rg,rg,hlen]
 ·intro id ht hu
  refine ⟨hu,fun b' hb1=>?_⟩
  obtain ⟨rfl,rfl⟩:=hone hb1
  exact ⟨_,hb,Nat.le_refl _,fun _=>⟨rfl,rfl,by rw [eg rfl,eg rfl],rfl⟩⟩
 ·rcases hret with ⟨rfl,hrv⟩ | ⟨m,hm,rfl,hrv⟩
  ·rw [hrv]; exact VR.v _ _
  ·rw [hrv]
   have:=VR.sl (C:=C') (id:=TOP) (ver:=v) (off:=0) (len:=m) (cap:=cap) (b:=⟨v,iF l',1,false⟩) (by simp [C',mr]) rfl rfl (by omega) c2 (by omega) hsz
   exact this
/-- The entries of a map of ints, in the order in which they came. -/
def mEs:Nat->List (Int×Int)->List (Value×AV×Nat)
 | _,[]=>[]
 | i,p :: r=>(.int .i64 p.1,.v (.int .i64 p.2),i) :: mEs (i+1) r
theorem k7:∀ (i:Nat) (l:List (Int×Int)),(mEs i l).length=l.length
 | _,[]=>rfl
 | i,p :: r=>by simp [mEs,k7 (i+1) r]
theorem oo:∀ (i:Nat) (l:List (Int×Int)) (j:Nat) (h:j < (mEs i l).length),(mEs i l)[j]=(.int .i64 (l[j]'(by rw [k7] at h; exact h)).1,.v (.int .i64 (l[j]'(by rw [k7] at h; exact h)).2),i+j)
 | _,[],_,h=>absurd h (by simp [mEs])
 | i,p :: r,0,_=>rfl
 | i,p :: r,j+1,h=>by
  have:=oo (i+1) r j (by simpa [mEs] using h)
  simp only [mEs,List.getElem_cons_succ,this]
  rw [show i+1+j=i+(j+1) by omega]
theorem Bf {i:Nat} {l:List (Int×Int)} {e:Value×AV×Nat} (h:e∈mEs i l):∃ (j:Nat) (hj:j < l.length),e=(.int .i64 l[j].1,.v (.int .i64 l[j].2),i+j):=by
 obtain ⟨j,hj,rfl⟩:=List.getElem_of_mem h
 exact ⟨j,by rw [k7] at hj; exact hj,oo i l j hj⟩
theorem Ua {i:Nat} {l:List (Int×Int)} {j:Nat} (hj:j < l.length):(.int .i64 l[j].1,.v (.int .i64 l[j].2),i+j)∈mEs i l:=by
 have h:j < (mEs i l).length:=by rw [k7]; exact hj
 rw [<- oo i l j h]
 exact Ze h
theorem Dg (D:List Nat):∀ (i:Nat) (l:List (Int×Int)),inL D ((mEs i l).map fun e=>.agg [.v e.1,e.2.1,.v (.int .i64 (Int.ofNat e.2.2))])=true
 | _,[]=>rfl
 | i,p :: r=>by
  have:=Dg D (i+1) r
  simp only [mEs,List.map_cons,inL,AV.inB,this]
  rfl
theorem H1 (u:Nat):∀ (i:Nat) (l:List (Int×Int)),n6 u ((mEs i l).map fun e=>.agg [.v e.1,e.2.1,.v (.int .i64 (Int.ofNat e.2.2))])=true
 | _,[]=>rfl
 | i,p :: r=>by
  have:=H1 u (i+1) r
  simp only [mEs,List.map_cons,n6,AV.lowB,this]
  rfl
theorem H0 (g:Nat->Nat):∀ (i:Nat) (l:List (Int×Int)),((mEs i l).map fun e=>(e.1,e.2.1.ren g,e.2.2))=mEs i l
 | _,[]=>rfl
 | i,p :: r=>by simp [mEs,AV.ren,H0 g (i+1) r]
theorem De (D:List Nat) (c:Nat) (l:List (Int×Int)):inL D (jm c (mEs 0 l))=true:=by
 unfold jm
 simp only [inL,AV.inB,Bool.true_and]
 exact Dg D 0 l
theorem mi (u:Nat) (c:Nat) (l:List (Int×Int)):n6 u (jm c (mEs 0 l))=true:=by
 unfold jm
 simp only [n6,AV.lowB,Bool.true_and]
 exact H1 u 0 l
theorem Df {g:Nat->Nat} {v z c:Nat} {l:List (Int×Int)}:(bn v z c (mEs 0 l)).ren g=bn v z c (mEs 0 l):=by
 unfold bn Blk.ren
 simp only [ua,H0]
theorem Gy {g:Nat->Nat} {v z c:Nat} {l:List (Int×Int)}:some (bn v z c (mEs 0 l))=some ((bn v z c (mEs 0 l)).ren g):=by rw [Df]
theorem Qc {K:List Nat} {v z c:Nat} {l:List (Int×Int)}:Hm K (bn v z c (mEs 0 l)):=⟨De _ _ _,.inr (.inr (.inl ⟨c,_,rfl⟩))⟩
theorem Fa {m:List (Nat×Nat)} {i k v z c:Nat} {l:List (Int×Int)} (h:gOf m i=k):jn m [(i,some (bn v z c (mEs 0 l)))]=[(k,some (bn v z c (mEs 0 l)))]:=by
 simp only [jn,List.map_cons,List.map_nil,h,Option.map_some,Df]
theorem tu {u ver z mid mver since last:Nat} {seen:List Nat} (h:oq u mid=true):n6 u (cd ver z (.mp mid mver) since seen last).cs=true:=by
 show n6 u (d5 (.mp mid mver) since seen last)=true
 unfold d5
 simp only [n6,AV.lowB,Bool.true_and,h]
 rw [Lu]
 intro a ha
 obtain ⟨n,_,rfl⟩:=List.mem_map.1 ha
 rfl
section
variable {P:Program} {τ:Nat->AV} {η:au} {d:Option Tmp} {ty:TypeId} {pos:String} {af:Array Edge} {g:Option (Nat×Bool)}
theorem Fq (u:Nat) {t kt et id ver z clock:Nat} {x:Operand} {es:List (Value×AV×Nat)} (ht:P.underlying t=some (.map kt et)) (hx:aev τ x=.mp id ver) (hb:η id=some (bn ver z clock es)) (hne:Nat.beq id u=false) :
  LOp P ⟨d,.range t x,ty,pos,af,g⟩ τ η [id] [(u,some (cd 0 0 (.mp id ver) clock [] clock))] (.it u 0):=by
 refine zf (u:=u) (r:=⟨[id],[(u,some (cd 0 0 (.mp id ver) clock [] clock))],.it u 0,u+1⟩) ?_
 unfold Cz
 rw [ht]
 simp only [hx,kg hb,hne,cond_false]
theorem Fz {x:Operand} {id ver mid mver since clock z zm:Nat} {seen:List Nat} {l:List (Int×Int)} {j:Nat} (hx:aev τ x=.it id ver) (hb:η id=some (cd ver z (.mp mid mver) since (seen++[j]) clock)) (hm:η mid=some (bn mver zm clock (mEs 0 l))) (hj:j < l.length) :
  LOp P ⟨d,.entry x,ty,pos,af,g⟩ τ η [id,mid] [] (.tup [.v (.int .i64 l[j].1),.v (.int .i64 l[j].2)]):=by
 have hf:(mEs 0 l).find? (fun e=>Nat.beq e.2.2 j)=some (.int .i64 l[j].1,.v (.int .i64 l[j].2),j):=by
  have hlen:j < (mEs 0 l).length:=by rw [k7]; exact hj
  have hg:=oo 0 l j hlen
  rw [Nat.zero_add] at hg
  rw [List.find?_eq_some_iff_getElem]
  refine ⟨by simp,j,hlen,hg,fun i hi=>?_⟩
  rw [oo]
  have:=jo (show 0+i≠j by omega)
  simp only [this]; rfl
 refine z8 (u:=0) (r:=⟨[id,mid],[],.tup [.v (.int .i64 l[j].1),.v (.int .i64 l[j].2)],0⟩) ?_
 unfold Du
 rw [hx]
 have hl:(seen++[j]).getLast? = some j:=by simp
 simp only [ud hb,kg hm]
 rw [Nat.beq_refl]
 simp only [cond_true,hl]
 rw [hf]
end
section
variable {P:Program} {N:Nat} {Q:Exit->St->Prop} {τ:Nat->AV} {η:au} {u:Nat}
/-- A value in a slot is read as one that nobody writes any more; its blocks are given up. -/
theorem fg {c:Code} (fp:List Nat) (t:Nat) (r:AV) (hf:FzP fp η (τ t) r) {η':au} (hη':(η.put (fp.map fun id=>(id,none)))=η') (hc:AWP P N c Q ⟨upd τ t r,η',u⟩):AWP P N c Q ⟨τ,η,u⟩:=by
 subst hη'
 intro C a hs
 let C':Ctx:={ C with η:=C.η.put (fp.map fun id=>(id,none)),T:=fun b=>C.T b\/C.mineOf fp b }
 have hold:∀ {i b'},C'.η i=some b'->C.η i=some b'/\i∉fp:=by
  intro i b' hb1
  have:(C.η.put (fp.map fun id=>(id,none))) i=some b':=hb1
  rw [xg] at this
  by_cases e:i∈fp
  ·rw [if_pos e] at this; cases this
  ·rw [if_neg e] at this; exact ⟨this,e⟩
 have hvr:∀ {a:AV} {x:Value},VR C a x->VR C' a x:=fun hv=>VR.shift (C:=C) (C':=C') rfl rfl rfl rfl (fun b hb=>.inl hb) hs.good.used (fun id b' hb=>⟨b',(hold hb).1,rfl,rfl,rfl,rfl⟩) hv
 have hlive:∀ {i},C'.live i->C.live i/\i∉fp:=by
  rintro i ⟨b',hb1,hk⟩
  exact ⟨⟨b',(hold hb1).1,hk⟩,(hold hb1).2⟩
 have hg:Good C':=by
  refine ⟨fun h=>hs.good.used (hold h).1,?_,?_,fun hi hj e=>hs.good.inj (hlive hi).1 (hlive hj).1 e,?_,?_,fun h hv hn=>hs.good.tight (hold h).1 hv hn⟩
  ·intro i b' hb1 hk
   obtain ⟨o,g1,g2⟩:=hs.good.obj (hold hb1).1 hk
   exact ⟨o,g1,ObjR.shift hvr g2⟩
  ·intro i b' hb1 hn'
   obtain ⟨c,t,g1,g2,g3,g4⟩:=hs.good.blk (hold hb1).1 hn'
   exact ⟨c,t,g1,g2,g3,fun j hj hj'=>hvr (g4 j hj hj')⟩
  ·refine hs.good.tokT (fun _ h=>.inl h) ?_
   rintro k (hk | hk)
   ·exact hs.good.tlt hk
   ·exact dt hs.good (bf hk)
  ·rintro k ⟨i,hl',hk⟩ (hT | ⟨i',hi',hl'',e⟩)
   ·exact hs.good.apart ⟨i,(hlive hl').1,hk⟩ hT
   ·have:i'=i:=hs.good.inj hl'' (hlive hl').1 (e.trans hk.symm)
    subst this
    exact (hlive hl').2 hi'
 have hfr:Fr C C':=⟨⟨rfl,rfl,rfl,Nat.le_refl _,fun _ _ _=>rfl,fun k ⟨i,q1,q2⟩=>.inl ⟨i,(hlive q1).1,q2⟩,fun k h=>.inl h,fun k h=>h.imp (fun h=>h) (fun h=>.inl (bf h))⟩,fun id _ hu=>⟨hu,fun b' hb1=>⟨b',(hold hb1).1,Nat.le_refl _,fun _=>⟨rfl,rfl,rfl,rfl⟩⟩⟩⟩
 have hr':SRel N C' ⟨upd τ t r,η.put (fp.map fun id=>(id,none)),u⟩ a:=by
  have e0:C.η=η:=hs.η
  refine ⟨hg,by simp only [C',e0],hs.u,hs.defers,hs.size,fun q=>?_⟩
  by_cases e:q=t
  ·subst e
   have e1:upd τ q r q=r:=by simp [upd]
   show VR C' (upd τ q r q) _
   rw [e1]
   exact .imm (hf C hs.good (fun id _=>by rw [e0]) _ (hs.τ q))
  ·have e1:upd τ t r q=τ q:=by simp [upd,jo e]
   show VR C' (upd τ t r q) _
   rw [e1]; exact hvr (hs.τ q)
 have:=hc C' a hr'
 exact Code.wp_mono (fun e a' w' ⟨s',C'',h1,h2,h3,h4⟩=>⟨s',C'',h1,h2,h3,hfr.trans h4⟩) this
end
/-- Rows of q cells each that name no block. -/
structure RowF {α:Type} (f:α->List AV) (q:Nat):Prop where
 len:∀ a,(f a).length=q
 one:∀ a,(f a).all AV.one=true
 low:∀ u a,n6 u (f a)=true
 ins:∀ D a,inL D (f a)=true
 ren:∀ g a,pm g (f a)=f a
 pure:∀ a,ay (f a)=true
def rF {α:Type} (f:α->List AV) (l:List α):List AV:=(l.map f).flatten
section
variable {α:Type} {f:α->List AV} {q:Nat}
theorem qn {a:α} {l:List α}:rF f (a :: l)=f a++rF f l:=rfl
theorem N2 {l m:List α}:rF f (l++m)=rF f l++rF f m:=by simp [rF]
theorem G8 {a:α} {l:List α}:rF f (l++[a])=rF f l++f a:=by simp [rF]
theorem nz (h:RowF f q):∀ l:List α,(rF f l).length=l.length * q
 | []=>by simp [rF]
 | a :: l=>by rw [qn,Zi,h.len,nz h l,List.length_cons,Nat.add_mul,Nat.one_mul,Nat.add_comm]
theorem G9 (h:RowF f q):∀ l:List α,(rF f l).all AV.one=true
 | []=>rfl
 | a :: l=>by rw [qn,List.all_append,h.one,G9 h l]; rfl
theorem Di {u:Nat}:∀ {l m:List AV},n6 u (l++m)=(n6 u l&&n6 u m)
 | [],_=>rfl
 | a :: l,m=>by rw [List.cons_append,n6,n6,Di,Bool.and_assoc]
theorem Ie {D:List Nat}:∀ {l m:List AV},inL D (l++m)=(inL D l&&inL D m)
 | [],_=>rfl
 | a :: l,m=>by rw [List.cons_append,inL,inL,Ie,Bool.and_assoc]
theorem ag (h:RowF f q) (u:Nat):∀ l:List α,n6 u (rF f l)=true
 | []=>rfl
 | a :: l=>by rw [qn,Di,h.low,ag h u l]; rfl
theorem vf (h:RowF f q) (D:List Nat):∀ l:List α,inL D (rF f l)=true
 | []=>rfl
 | a :: l=>by rw [qn,Ie,h.ins,vf h D l]; rfl
theorem N1 (h:RowF f q) (g:Nat->Nat):∀ l:List α,pm g (rF f l)=rF f l
 | []=>rfl
 | a :: l=>by rw [qn,ma,List.map_append,<- ma,<- ma,h.ren,N1 h g l]
theorem v6 (h:RowF f q) {g:Nat->Nat} {v:Nat} {l:List α} {n:Bool}:(Blk.mk v (rF f l) q n).ren g=⟨v,rF f l,q,n⟩:=by simp only [Blk.ren,N1 h]
theorem A6 (h:RowF f q) {K:List Nat} {v:Nat} {l:List α}:Hm K ⟨v,rF f l,q,Nat.beq l.length 0⟩:=⟨vf h K l,by
 cases l with
 | nil=>exact .inr (.inl rfl)
 | cons a r=>exact .inl rfl⟩
theorem kq (h:RowF f q) {fp:List Nat} {η:au} {id v:Nat} {l:List α} (hid:id∈fp) (hb:η id=some ⟨v,rF f l,q,false⟩):FzP fp η (.sl id v 0 l.length) (.tree q (l.map f)) :=
 jq (f:=f) hid hb rfl rfl rfl rfl rfl (fun a _=>⟨h.len a,h.pure a⟩)
theorem FzP.rows (h:RowF f q) {fp:List Nat} {η:au} {id v:Nat} {l:List α} (hid:id∈fp) (hb:η id=some ⟨v,rF f l,q,Nat.beq l.length 0⟩):FzP fp η (.sl id v 0 l.length) (.tree q (l.map f)):=by
 cases l with
 | nil=>
  intro C hg hη x hx
  obtain ⟨e,_,_⟩:=hx.slnil_inv ((hη id hid).trans hb) rfl rfl
  subst e
  exact .tree0 (by unfold maxLen; omega)
 | cons a r=>exact kq h hid hb
end
section
variable {P:Program} {τ:Nat->AV} {η:au} {d:Option Tmp} {ty:TypeId} {pos:String} {af:Array Edge} {g:Option (Nat×Bool)}
/-- One more row. -/
theorem aj {α:Type} {f:α->List AV} {q:Nat} (hf:RowF f q) {t e by_:Nat} {s x:Operand} {z:Value} {fp:List Nat} {id ver:Nat} {l:List α} {a:α} {news:List AV} (ht:P.underlying t=some (.slice e)) (hs:aa P e=some q) (hz:ax P e=some z) (hby:(P.info? e).map (·.bytes)=some by_) (hzs:z.cells.size=q)
  (hx:aev τ s=.sl id ver 0 l.length) (hb:η id=some ⟨ver,rF f l,q,Nat.beq l.length 0⟩) (hsrc:Src η fp (aev τ x) 1 news) (hnews:news=f a) (hmax:(l.length+1) * by_<=140737488355328) (hmax2:l.length+1<=140737488355328) (htv:ver+1≠TV) :
  LOp P ⟨d,.call { callee:=.builtin .append,args:=#[s,x],argTypes:=#[t,t] },ty,pos,af,g⟩ τ η (id :: fp) [(id,some ⟨ver+1,rF f (l++[a]),q,Nat.beq (l++[a]).length 0⟩)] (.sl id (ver+1) 0 (l++[a]).length):=by
 subst hnews
 have e1:Nat.beq (l++[a]).length 0=false:=jo (by simp)
 have e2:(l++[a]).length=l.length+1:=by simp
 rw [e1,e2,G8]
 exact o0 (m:=1) ht hs hz hby hzs hx hb rfl (nz hf l) hsrc (by decide) (by rw [Nat.one_mul]; exact hf.len a) (hf.one a) hmax hmax2 htv
end
open Go.RowKit Go.Sort Go.Shelf Go.Lib
open Go.RowKit Go.Shelf Go.Lib
/-- The cells of a tree. -/
theorem TR.tree_cells {T:Nat->Prop} {w:World} {q:Nat} {xs:List (List AV)} {x:Value} (h:TR T w (.tree q xs) x) :
  (xs=[]/\∃ a cap,cap<=maxLen/\x=.slice a 0 cap)\/∃ b off cap,∃ news:List Value,T b/\xs.length<=140737488355328/\xs.length<=cap/\cap<=maxLen/\(∀ k (h:k < xs.length),xs[k].length=q)/\x=.slice (some ⟨b,off,none⟩) xs.length cap/\news.length=xs.length * q/\xs.flatten.length=xs.length * q /\
   (∀ j u,news[j]? = some u->w.cell? ⟨b,off+j,none⟩=some u)/\∀ j (h:j < xs.flatten.length) (h':j < news.length),TR T w xs.flatten[j] news[j]:=by
 cases h with
 | tree0 h=>exact .inl ⟨rfl,_,_,h,rfl⟩
 | tree cell hT h1 h2 h3 h4 h5 h6=>
  rename_i b off cap
  right
  refine ⟨b,off,cap,(List.range (xs.length * q)).map fun i=>cell (i / q) (i % q),hT,h3,h1,h2,h4,rfl,by simp,im xs h4,fun j u hj=>?_,fun j hj hj'=>?_⟩
  ·simp only [List.getElem?_map] at hj
   cases hr:(List.range (xs.length * q))[j]? with
   | none=>rw [hr] at hj; cases hj
   | some p=>
    rw [hr] at hj
    obtain ⟨hlt,hq⟩:=List.getElem?_eq_some_iff.1 hr
    simp only [List.getElem_range] at hq
    subst hq
    simp only [Option.map_some,Zh] at hj
    subst hj
    have hlt':j < xs.length * q:=by simpa using hlt
    obtain ⟨g1,g2,_,_⟩:=f6 xs h4 j hlt'
    rw [h4 _ g1] at g2
    have:=h5 (j / q) (j % q) g1 g2
    rw [show off+j / q * q+j % q=off+j by have:=Nat.div_add_mod j q; rw [Nat.mul_comm] at this; omega] at this
    exact this
  ·simp only [Zl,List.length_range] at hj'
   obtain ⟨g1,g2,g3,g4⟩:=f6 xs h4 j hj'
   rw [g4]
   simp only [List.getElem_map,List.getElem_range]
   exact h6 _ g1 _ g2
theorem TR.one {T:Nat->Prop} {w:World} {a:AV} {x:Value} (h:TR T w a x) (h1:a.one=true):x.oneCell'=true :=
 VR.one (C:=⟨fun _=>(0,0),fun _=>0,fun _=>none,fun _=>False,T,w⟩) (.imm h) h1
theorem TRs.arg {T:Nat->Prop} {w:World} {a:AV} {vals:Array Value} (h:TRs T w [a] vals):∃ x,vals=#[x]/\TR T w a x:=by
 obtain ⟨hlen,hv⟩:=h
 have h1:0 < vals.size:=by simp at hlen; omega
 refine ⟨vals[0],?_,hv 0 (by simp) h1⟩
 apply Array.ext
 ·simpa using hlen.symm
 ·intro i hi hi'
  have:i=0:=by simp at hi'; omega
  subst this
  rfl
/-- A row that a call made, read as an immutable one. -/
theorem Owned.tree {T:Nat->Prop} {w w':World} {et q:Nat} {xs:List (List AV)} {v:Value} {news:List Value} (hx:∀ k (h:k < xs.length),xs[k].length=q) (hn:xs.length<=140737488355328) (hT:∀ b,T b->b < w.heap.size) (hnews:∀ j (h:j < xs.flatten.length) (h':j < news.length),TR T w xs.flatten[j] news[j])
  (ho:w'.ownsRow w.heap.size et q v xs.length news) (hb:Below w.heap.size w w'):Sj T w (.tree q xs) (.returned v) w':=by
 obtain ⟨hl,⟨rfl,h0⟩ | ⟨g,cap,cur,rfl,hg,hcell,hc1,hc2,hsz,hcur⟩⟩:=ho
 ·have:xs=[]:=List.eq_nil_of_length_eq_zero h0
  subst this
  exact ⟨_,T,rfl,.tree0 (by unfold maxLen; omega),fun _ h=>h,fun _ h=>.inl h,fun b h=>Nat.lt_of_lt_of_le (hT b h) hb.size,hb⟩
 ·have hgl:g < w'.heap.size:=(Array.getElem?_eq_some_iff.1 hcell).1
  have hT':∀ {a:AV} {x:Value},TR T w a x->TR (fun b=>T b\/b=g) w' a x:=fun h=>h.mono (fun b h=>.inl h) (fun b h=>hb.block b (hT b h))
  refine ⟨_,fun b=>T b\/b=g,rfl,?_,fun b h=>.inl h,fun b h=>h.imp (fun h=>h) (fun e=>by omega),fun b h=>h.elim (fun h=>Nat.lt_of_lt_of_le (hT b h) hb.size) (fun e=>by omega),hb⟩
  have hfl:=im xs hx
  have hat:∀ k j,k < xs.length->j < q->k * q+j < news.length/\w'.cell? ⟨g,0+k * q+j,none⟩=some (news.getD (k * q+j) undef):=by
   intro k j hk hj
   have hlt:k * q+j < xs.length * q:=by
    have:(k+1) * q<=xs.length * q:=Nat.mul_le_mul_right _ hk
    rw [Nat.add_mul] at this; omega
   refine ⟨by omega,?_⟩
   have h1:news.getD (k * q+j) undef=cur.toList.getD (k * q+j) undef:=by
    rw [<- hcur]
    simp only [List.getD]
    rw [List.getElem?_take_of_lt (by omega)]
   have hcs:k * q+j < cur.size:=by
    have:xs.length * q<=cap * q:=Nat.mul_le_mul_right _ hc1
    omega
   rw [h1,Nat.zero_add]
   simp [World.cell?,hcell,List.getD,hcs]
  refine TR.tree (fun k j=>news.getD (k * q+j) undef) (.inr rfl) hc1 hc2 hn hx (fun k j hk hj=>(hat k j hk hj).2) (fun k hk j hj=>?_)
  have hj':j < q:=by rw [<- hx k hk]; exact hj
  have hlt:=(hat k j hk hj').1
  have hlt2:k * q+j < xs.length * q:=by
   have:(k+1) * q<=xs.length * q:=Nat.mul_le_mul_right _ hk
   rw [Nat.add_mul] at this; omega
  obtain ⟨g1,g2,g3,g4⟩:=f6 xs hx (k * q+j) hlt2
  have hq:0 < q:=by omega
  have e1:(k * q+j) / q=k:=by rw [Nat.mul_comm,Nat.mul_add_div hq,Nat.div_eq_of_lt hj']; rfl
  have e2:(k * q+j) % q=j:=by rw [Nat.mul_comm,Nat.mul_add_mod,Nat.mod_eq_of_lt hj']
  have:=hnews (k * q+j) g3 hlt
  rw [g4] at this
  simp only [e1,e2] at this
  have e3:news.getD (k * q+j) undef=news[k * q+j]:=by simp [List.getD,hlt]
  rw [e3]
  exact hT' this
/-- slices.Clone of nothing, wherever it lies. -/
theorem Fg {P:Program} {ρ:Ren} (L:SlLaysE0.n41 P ρ) (i0:TypeInfo) (z:Value) (size bytes:Nat) (hi:P.info? (ρ.t 23)=some i0) (hz0:i0.zero=some z) (hz1:i0.size=size) (hz2:i0.bytes=bytes) (hzs:z.cells.size=size) (hsz:0 < size)
  (z23:∀ w,(Go.sizeOf (ρ.t 23)).run P w=.ok size w) (ad:Addr) (c:Nat) (w:World) :
  Calls P (ρ.f 41) #[.slice (some ad) 0 c] w fun e w'=>∃ v',e=.returned v'/\w'.ownsRow w.heap.size (ρ.t 23) size v' 0 []/\v'≠.slice none 0 0/\Below w.heap.size w w':=by
 have mixed:=L.mixed; have t4:=L.t4; have a4:=L.a4; have z4:=L.z4; have v4:=L.v4; have t22:=L.t22; have a22:=L.a22; have z22:=L.z22; have v22:=L.v22
 have q22:∀ (w:World) (a:Option Addr) (n c n' c':Nat),(binOp .eql (ρ.t 22) (.slice a n c) (.slice none n' c')).run P w=.ok (.bool a.isNone) w:=fun w a n c n' c'=>Lib.run_eql_slice_nil w _ _ a n c n' c' L.t22
 have u22:∀ w,Sem.run P (underlying (ρ.t 22)) w=.ok (TypeDesc.slice (ρ.t 23)) w:=run_underlying t22
 obtain ⟨_,_,FG⟩:=L.f41
 go_enter FG,SlBodyN.n41_ntmps ρ
 go_wp2_with (at_builtin; refine wpList_append_own _ rfl _ _ (ρ.t 22) rfl w.heap.size (ρ.t 23) i0 z size bytes t22 hi hz0 hz1 hz2 hzs hsz _ _ _ rfl (World.ownsRow_made w #[] 0 (Nat.le_refl _) (Nat.zero_le _) (by simp)) ad 0 c [] rfl ?qc1 ?qc2 ?qc3 ?qc4 ?qc5 ?qc6 ?_)
 case qc1=>simp
 case qc2=>intro j u hj; simp at hj
 case qc3=>intro u hu; simp at hu
 case qc4=>simp
 case qc5=>simp
 case qc6=>simp
 intro v' w1 hown hgrow hnil
 go_wp2
 go_ret
 refine ⟨v',rfl,by simpa using hown,?_,?_⟩
 ·exact hnil
 ·exact ((Below.refl _ w).alloc (Nat.le_refl _) _).grown hgrow (by simp) (by intro k hk; simp [Value.ownBlock] at hk; omega)
/-- slices.Clone is at F, for elements of q cells. -/
structure CloneL (P:Program) (F q:Nat):Prop where
 ex:∃ (ρ:Ren) (i0:TypeInfo) (z:Value) (bytes:Nat),ρ.f 41=F/\SlLaysE0.n41 P ρ/\P.info? (ρ.t 23)=some i0/\i0.zero=some z/\i0.size=q/\i0.bytes=bytes/\z.cells.size=q/\(∀ w,(Go.sizeOf (ρ.t 23)).run P w=.ok q w)/\bytes<=1000
 pos:0 < q
theorem CloneL.full {P:Program} {F q:Nat} (L:CloneL P F q) (b off n c:Nat) (news:List Value) (w:World) (hl:news.length=n * q) (hn:n<=1000000) (hc:∀ j u,news[j]? = some u->w.cell? ⟨b,off+j,none⟩=some u) (h1:∀ u∈news,u.oneCell'=true) :
  Calls P F #[.slice (some ⟨b,off,none⟩) n c] w fun e w'=>∃ v' et,e=.returned v'/\w'.ownsRow w.heap.size et q v' n news/\v'≠.slice none 0 0/\Below w.heap.size w w':=by
 obtain ⟨⟨ρ,i0,z,bytes,rfl,LL,a1,a2,a3,a4,a5,a6,a7⟩,hp⟩:=L
 refine (AnyE.slices_Clone LL i0 z q bytes a1 a2 a3 a4 a5 hp a6 b off n c news w hl (by unfold maxLen; omega) ?_ hc h1).mono ?_
 ·have:n * bytes<=1000000 * 1000:=Nat.mul_le_mul hn a7
  omega
 ·rintro e w' ⟨v',h1,h2,h3,h4⟩
  exact ⟨v',_,h1,h2,h3,h4⟩
theorem CloneL.empt {P:Program} {F q:Nat} (L:CloneL P F q) (ad:Addr) (c:Nat) (w:World) :
  Calls P F #[.slice (some ad) 0 c] w fun e w'=>∃ v' et,e=.returned v'/\w'.ownsRow w.heap.size et q v' 0 []/\v'≠.slice none 0 0/\Below w.heap.size w w':=by
 obtain ⟨⟨ρ,i0,z,bytes,rfl,LL,a1,a2,a3,a4,a5,a6,a7⟩,hp⟩:=L
 refine (Fg LL i0 z q bytes a1 a2 a3 a4 a5 hp a6 ad c w).mono ?_
 rintro e w' ⟨v',h1,h2,h3,h4⟩
 exact ⟨v',_,h1,h2,h3,h4⟩
theorem CloneL.nilc {P:Program} {F q:Nat} (L:CloneL P F q) (n c:Nat) (w:World):Calls P F #[.slice none n c] w fun e w'=>e=.returned (.slice none 0 0)/\w'=w:=by
 obtain ⟨⟨ρ,i0,z,bytes,rfl,LL,_⟩,_⟩:=L
 exact AnyE.slices_Clone_nil LL n c w
/-- A copy is the same value. -/
theorem CloneL.tree {P:Program} {F q:Nat} (L:CloneL P F q) {α:Type} {f:α->List AV} (hf:∀ a,(f a).all AV.one=true) (l:List α) (hn:l.length<=1000000):ep P F [.tree q (l.map f)] (.tree q (l.map f)):=by
 intro T w vals hv hT
 obtain ⟨x,rfl,hx⟩:=hv.arg
 rcases hx.tree_cells with ⟨he,a,cap,hcap,rfl⟩ | ⟨b,off,cap,news,hTb,h1,h2,h3,h4,rfl,h5,h6,h7,h8⟩
 ·have e0:l=[]:=by simpa using he
  subst e0
  cases a with
  | none=>
   refine (L.nilc 0 cap w).mono ?_
   rintro e w' ⟨rfl,rfl⟩
   exact ⟨_,T,rfl,.tree0 (by unfold maxLen; omega),fun _ h=>h,fun _ h=>.inl h,hT,Below.refl _ _⟩
  | some ad=>
   refine (L.empt ad cap w).mono ?_
   rintro e w' ⟨v',et,rfl,ho,_,hb⟩
   exact Owned.tree (xs:=[]) (news:=[]) (by simp) (by simp) hT (by simp) ho hb
 ·have hone:∀ u∈news,u.oneCell'=true:=fun u hu=>by
   obtain ⟨j,hj,rfl⟩:=List.getElem_of_mem hu
   have hj':j < (l.map f).flatten.length:=by omega
   refine (h8 j hj' hj).one ?_
   obtain ⟨c,hc,hcj⟩:=List.mem_flatten.1 (Ze hj')
   obtain ⟨a,_,rfl⟩:=List.mem_map.1 hc
   exact List.all_eq_true.1 (hf a) _ hcj
  have hxl:(l.map f).length=l.length:=Zl _
  refine (L.full b off _ cap news w h5 (by rw [hxl]; exact hn) h7 hone).mono ?_
  rintro e w' ⟨v',et,rfl,ho,_,hb⟩
  exact Owned.tree h4 h1 hT h8 ho hb
section
variable {P:Program} {τ:Nat->AV} {η:au} {d:Option Tmp} {ty:TypeId} {pos:String} {af:Array Edge} {g:Option (Nat×Bool)}
end
/-- The same, or frozen. -/
inductive FzLO (fp:List Nat) (η:au):List AV->List AV->Prop where
 | same (l:List AV):FzLO fp η l l
 | keep {a:AV} {l r:List AV}:FzLO fp η l r->FzLO fp η (a :: l) (a :: r)
 | fz {a b:AV} {l r:List AV}:FzP fp η a b->FzLO fp η l r->FzLO fp η (a :: l) (b :: r)
theorem FzLO.at {fp:List Nat} {η:au} {l r:List AV} (h:FzLO fp η l r):l.length=r.length/\∀ i (h:i < l.length) (h':i < r.length),l[i]=r[i]\/FzP fp η l[i] r[i]:=by
 induction h with
 | same l=>exact ⟨rfl,fun i h h'=>.inl rfl⟩
 | keep h ih=>
  refine ⟨by simp [ih.1],fun i h h'=>?_⟩
  cases i with
  | zero=>exact .inl rfl
  | succ i=>exact ih.2 i (by simpa using h) (by simpa using h')
 | fz h1 h ih=>
  refine ⟨by simp [ih.1],fun i h h'=>?_⟩
  cases i with
  | zero=>exact .inr h1
  | succ i=>exact ih.2 i (by simpa using h) (by simpa using h')
section
variable {P:Program} {N:Nat} {Q:Exit->St->Prop} {τ:Nat->AV} {η:au} {u:Nat}
/-- What the cells of a block hold is read as values that nobody writes any more; their blocks are given up. -/
theorem gg {c:Code} (fp:List Nat) (id ver z:Nat) (cs ds:List AV) (hb:η id=some ⟨ver,cs,z,false⟩) (hid:fp.contains id=false) (hf:FzLO fp η cs ds) {η':au} (hη':((η.put (fp.map fun id=>(id,none))).set id (some ⟨ver,ds,z,false⟩))=η') (hc:AWP P N c Q ⟨τ,η',u⟩):AWP P N c Q ⟨τ,η,u⟩:=by
 subst hη'
 intro C a hs
 have e0:C.η=η:=hs.η
 have hid':id∉fp:=fun h=>by rw [List.contains_iff_mem.2 h] at hid; cases hid
 obtain ⟨hlen,hat⟩:=hf.at
 let C':Ctx:={ C with η:=(C.η.put (fp.map fun id=>(id,none))).set id (some ⟨ver,ds,z,false⟩),T:=fun b=>C.T b\/C.mineOf fp b }
 have hbC:C.η id=some ⟨ver,cs,z,false⟩:=by rw [e0]; exact hb
 have hold:∀ {i b'},C'.η i=some b'->i∉fp/\((i=id/\b'=⟨ver,ds,z,false⟩)\/(i≠id/\C.η i=some b')):=by
  intro i b' hb1
  have hb1:((C.η.put (fp.map fun id=>(id,none))).set id (some ⟨ver,ds,z,false⟩)) i=some b':=hb1
  by_cases ei:i=id
  ·subst ei
   rw [ae] at hb1
   cases hb1
   exact ⟨hid',.inl ⟨rfl,rfl⟩⟩
  ·rw [am _ _ ei,xg] at hb1
   by_cases e:i∈fp
   ·rw [if_pos e] at hb1; cases hb1
   ·rw [if_neg e] at hb1; exact ⟨e,.inr ⟨ei,hb1⟩⟩
 have hold2:∀ i b',C'.η i=some b'->∃ b,C.η i=some b/\b'.ver=b.ver/\b'.nilp=b.nilp/\b'.kind=b.kind/\b'.esz=b.esz:=by
  intro i b' hb1
  obtain ⟨_,⟨rfl,rfl⟩ | ⟨_,h⟩⟩:=hold hb1
  ·exact ⟨_,hbC,rfl,rfl,by rw [eg rfl,eg rfl],rfl⟩
  ·exact ⟨_,h,rfl,rfl,rfl,rfl⟩
 have hvr:∀ {a:AV} {x:Value},VR C a x->VR C' a x:=fun hv=>VR.shift (C:=C) (C':=C') rfl rfl rfl rfl (fun b hb=>.inl hb) hs.good.used hold2 hv
 have hfzr:∀ {a b:AV} {x:Value},FzP fp η a b->VR C a x->VR C' b x:=fun hp hv=>.imm (hp C hs.good (fun id _=>by rw [e0]) _ hv)
 have hlive:∀ {i},C'.live i->C.live i/\i∉fp:=by
  rintro i ⟨b',hb1,hk⟩
  obtain ⟨b,h1,_,_,h4,_⟩:=hold2 _ _ hb1
  exact ⟨⟨b,h1,by rw [<- h4]; exact hk⟩,(hold hb1).1⟩
 have hg:Good C':=by
  refine ⟨fun h=>?_,?_,?_,fun hi hj e=>hs.good.inj (hlive hi).1 (hlive hj).1 e,?_,?_,fun h hv hn=>?_⟩
  ·obtain ⟨b,h1,_⟩:=hold2 _ _ h
   exact hs.good.used h1
  ·intro i b' hb1 hk
   obtain ⟨_,⟨rfl,rfl⟩ | ⟨_,h⟩⟩:=hold hb1
   ·rw [eg rfl] at hk; cases hk
   ·obtain ⟨o,g1,g2⟩:=hs.good.obj h hk
    exact ⟨o,g1,ObjR.shift hvr g2⟩
  ·intro i b' hb1 hn'
   obtain ⟨_,⟨rfl,rfl⟩ | ⟨_,h⟩⟩:=hold hb1
   ·obtain ⟨c,t,g1,g2,g3,g4⟩:=hs.good.blk hbC rfl
    refine ⟨c,t,g1,g2,by show (C.ρ i).2+ds.length<=c.size; rw [<- hlen]; exact g3,fun j hj hj'=>?_⟩
    have hj1:j < ds.length:=hj
    have hj0:j < cs.length:=by omega
    have h1:=g4 j hj0 hj'
    rcases hat j hj0 hj1 with e | e
    ·show VR C' ds[j] _
     rw [<- e]; exact hvr h1
    ·exact hfzr e h1
   ·obtain ⟨c,t,g1,g2,g3,g4⟩:=hs.good.blk h hn'
    exact ⟨c,t,g1,g2,g3,fun j hj hj'=>hvr (g4 j hj hj')⟩
  ·refine hs.good.tokT (fun _ h=>.inl h) ?_
   rintro k (hk | hk)
   ·exact hs.good.tlt hk
   ·exact dt hs.good (bf hk)
  ·rintro k ⟨i,hl',hk⟩ (hT | ⟨i',hi',hl'',e⟩)
   ·exact hs.good.apart ⟨i,(hlive hl').1,hk⟩ hT
   ·have:i'=i:=hs.good.inj hl'' (hlive hl').1 (e.trans hk.symm)
    subst this
    exact (hlive hl').2 hi'
  ·obtain ⟨_,⟨rfl,rfl⟩ | ⟨_,h1⟩⟩:=hold h
   ·have:=hs.good.tight hbC hv rfl
    show C.sz _=(C.ρ _).2+ds.length
    rw [<- hlen]; exact this
   ·exact hs.good.tight h1 hv hn
 have hfr:Fr C C':=⟨⟨rfl,rfl,rfl,Nat.le_refl _,fun _ _ _=>rfl,fun k ⟨i,q1,q2⟩=>.inl ⟨i,(hlive q1).1,q2⟩,fun k h=>.inl h,fun k h=>h.imp (fun h=>h) (fun h=>.inl (bf h))⟩,fun i _ hu=>⟨hu,fun b' hb1=>by
  obtain ⟨b,h1,h2,_,h4,h5⟩:=hold2 _ _ hb1
  exact ⟨b,h1,by omega,fun _=>⟨rfl,rfl,h4,h5⟩⟩⟩⟩
 have hr':SRel N C' ⟨τ,(η.put (fp.map fun id=>(id,none))).set id (some ⟨ver,ds,z,false⟩),u⟩ a:=by
  refine ⟨hg,by simp only [C',e0],hs.u,hs.defers,hs.size,fun q=>hvr (hs.τ q)⟩
 have:=hc C' a hr'
 exact Code.wp_mono (fun e a' w' ⟨s',C'',h1,h2,h3,h4⟩=>⟨s',C'',h1,h2,h3,hfr.trans h4⟩) this
end
section
variable {α:Type} {f:α->List AV} {q:Nat}
end
section
variable {P:Program} {τ:Nat->AV} {η:au} {d:Option Tmp} {ty:TypeId} {pos:String} {af:Array Edge} {g:Option (Nat×Bool)}
theorem Fp {α:Type} {t e m n:Nat} {k:IntKind} {v:Int} {x y:Operand} {f:α->List AV} {l:List α} (hu:P.underlying t=some (.slice e)) (hs:aa P e=some m) (hx:aev τ x=.tree m (l.map f)) (hi:aev τ y=.v (.int k v)) (hv:v=((n:Nat):Int)) (hn:n<=l.length) :
  LOp P ⟨d,.slice t x none (some y) none,ty,pos,af,g⟩ τ η [] [] (.tree m ((l.take n).map f)):=by
 subst hv
 have h:y8 P τ η 0 t x none (some y)=some ⟨[],[],.tree m ((l.take n).map f),0⟩:=by
  have h0:Nat.ble 0 n=true:=Nat.ble_eq_true_of_le (Nat.zero_le _)
  have h1:Nat.ble n l.length=true:=Nat.ble_eq_true_of_le hn
  have h3:aev τ y=.v (.int k (Int.ofNat n)):=hi
  unfold y8
  rw [hu]
  simp only [hs,hx,xm,h3,Zl,h0,h1,Nat.beq_refl,Bool.and_true,cond_true]
  congr 3
  simp [List.map_take]
 exact y7 h
end
section
variable {P:Program} {N:Nat} {Q:Exit->St->Prop} {τ:Nat->AV} {η:au} {u:Nat}
end
section
variable {P:Program} {τ:Nat->AV} {η:au} {d:Option Tmp} {ty:TypeId} {pos:String} {af:Array Edge} {g:Option (Nat×Bool)}
variable {α:Type} {f:α->List AV} {q:Nat}
theorem qf (hf:RowF f q) {t e by_:Nat} {s x:Operand} {z:Value} {id ver:Nat} {l l':List α} (ht:P.underlying t=some (.slice e)) (hs:aa P e=some q) (hz:ax P e=some z) (hby:(P.info? e).map (·.bytes)=some by_) (hzs:z.cells.size=q)
  (hx:aev τ s=.sl id ver 0 l.length) (hb:η id=some ⟨ver,rF f l,q,false⟩) (hy:aev τ x=.tree q (l'.map f)) (hmax:(l.length+l'.length) * by_<=140737488355328) (hmax2:l.length+l'.length<=140737488355328) (htv:ver+1≠TV) :
  LOp P ⟨d,.call { callee:=.builtin .append,args:=#[s,x],argTypes:=#[t,t] },ty,pos,af,g⟩ τ η [id] [(id,some ⟨ver+1,rF f (l++l'),q,false⟩)] (.sl id (ver+1) 0 (l++l').length):=by
 have:=LOp.append (d:=d) (ty:=ty) (pos:=pos) (af:=af) (g:=g) (m:=l'.length) (news:=rF f l') ht hs hz hby hzs hx hb rfl rfl rfl (Nat.le_of_eq (nz hf l).symm) (by rw [hy]; exact uz rfl) (nz hf l') (G9 hf l') hmax hmax2 htv
 rw [<- Zi,<- nz hf l,List.take_length,<- N2] at this
 exact this
end
/-- Code that ends in one state, and what holds there. -/
def EWP (P:Program) (N:Nat) (c:Code) (Q:Exit->St->Prop) (s:St):Prop:=∃ e s',Q e s'/\AWP P N c (fun e1 s1=>e1=e/\s1=s') s
/-- The call of f at plain values gives one plain value, and what holds of it. -/
def PRet (P:Program) (f:FuncId) (args:List AV) (R:AV->Prop):Prop:=∃ ret,R ret/\ep P f args ret
section
variable {P:Program} {N:Nat} {Q:Exit->St->Prop} {s:St}
theorem EWP.via {c:Code} {s2:St} (h:∀ Q,AWP P N c Q s2->AWP P N c Q s) (hc:EWP P N c Q s2):EWP P N c Q s:=by
 obtain ⟨e,s',h1,h2⟩:=hc
 exact ⟨e,s',h1,h _ h2⟩
theorem EWP.mono {Q':Exit->St->Prop} {c:Code} (h:EWP P N c Q s) (hq:∀ e s',Q e s'->Q' e s'):EWP P N c Q' s:=by
 obtain ⟨e,s',h1,h2⟩:=h
 exact ⟨e,s',hq _ _ h1,h2⟩
theorem EWP.skip (h:Q .normal s):EWP P N .skip Q s:=⟨_,_,h,wK ⟨rfl,rfl⟩⟩
theorem EWP.exit {id:Nat} (h:Q (.exit id) s):EWP P N (.exit id) Q s:=⟨_,_,h,AWP.exit ⟨rfl,rfl⟩⟩
theorem EWP.ret (h:Q .ret s):EWP P N .ret Q s:=⟨_,_,h,wT ⟨rfl,rfl⟩⟩
theorem EWP.region {id:Nat} {l:List Oper} (h:Se P N l.toArray l (fun _ s'=>Q .normal s') s):EWP P N (.region id l.toArray false) Q s:=by
 obtain ⟨rs,s',h1,h2⟩:=h
 exact ⟨_,s',h2,wR (Cc h1 ⟨rfl,rfl⟩)⟩
theorem Nc {id:Nat} {l:List Oper} (hm:P.follows .mixedOrders=true) (h:Se P N l.toArray l (fun rs s'=>n7 l.toArray rs=true/\Q .normal s') s):EWP P N (.region id l.toArray true) Q s:=by
 obtain ⟨rs,s',h1,h2,h3⟩:=h
 exact ⟨_,s',h3,AWP.regionD hm h1 h2 ⟨rfl,rfl⟩⟩
theorem EWP.seq {x y:Code} (h:EWP P N x (andThen (EWP P N y Q) Q) s):EWP P N (.seq x y) Q s:=by
 obtain ⟨e,s',h1,h2⟩:=h
 cases e with
 | normal=>
  obtain ⟨e2,s2,h3,h4⟩:=h1
  refine ⟨e2,s2,h3,wS (AWP.mono h2 ?_)⟩
  rintro e1 s1 ⟨rfl,rfl⟩
  exact h4
 | _=>
  refine ⟨_,s',h1,wS (AWP.mono h2 ?_)⟩
  rintro e1 s1 ⟨rfl,rfl⟩
  exact ⟨rfl,rfl⟩
theorem EWP.cond {c:Operand} {x y:Code} {t:Bool} (hc:aev s.τ c=.v (.bool t)) (ht:t=true->EWP P N x Q s) (hf:t=false->EWP P N y Q s):EWP P N (.cond c x y) Q s:=by
 cases t with
 | true=>obtain ⟨e,s',h1,h2⟩:=ht rfl; exact ⟨e,s',h1,AWP.condT hc h2⟩
 | false=>obtain ⟨e,s',h1,h2⟩:=hf rfl; exact ⟨e,s',h1,AWP.condF hc h2⟩
theorem EWP.block {id:Nat} {c:Code} (h:EWP P N c (ou id Q) s):EWP P N (.block id c) Q s:=by
 obtain ⟨e,s',h1,h2⟩:=h
 cases e with
 | exit id'=>
  by_cases hi:Nat.beq id' id=true
  ·simp only [ou,hi,cond_true] at h1
   refine ⟨.normal,s',h1,wB (AWP.mono h2 ?_)⟩
   rintro e1 s1 ⟨rfl,rfl⟩
   simp only [ou,hi,cond_true]
   exact ⟨trivial,trivial⟩
  ·simp only [Bool.not_eq_true] at hi
   simp only [ou,hi,cond_false] at h1
   refine ⟨.exit id',s',h1,wB (AWP.mono h2 ?_)⟩
   rintro e1 s1 ⟨rfl,rfl⟩
   simp only [ou,hi,cond_false]
   exact ⟨trivial,trivial⟩
 | _=>
  refine ⟨_,s',h1,wB (AWP.mono h2 ?_)⟩
  rintro e1 s1 ⟨rfl,rfl⟩
  exact ⟨rfl,rfl⟩
/-- The rounds of a loop up to the state in which it is left. -/
inductive Chain (P:Program) (N:Nat) (c:Code) (e2:Exit) (s2:St):Nat->St->Prop
 | done {n:Nat} {s:St}:AWP P N c (fun e1 s1=>e1=e2/\s1=s2) s->e2≠.normal->Chain P N c e2 s2 n s
 | step {n m:Nat} {s s' s1:St}:AWP P N c (fun e1 s1=>e1=.normal/\s1=s') s->(∀ Q,AWP P N c Q s1->AWP P N c Q s')->m < n->Chain P N c e2 s2 m s1->Chain P N c e2 s2 n s
theorem Chain.loop {c:Code} {e2:Exit} {s2:St} {n:Nat} {s:St} (h:Chain P N c e2 s2 n s):AWP P N (.loop c) (fun e1 s1=>e1=e2/\s1=s2) s:=by
 refine AWP.loop (fun n s=>∃ s1,(∀ Q,AWP P N c Q s1->AWP P N c Q s)/\Chain P N c e2 s2 n s1) (fun n s ⟨s1,h1,h2⟩=>h1 _ ?_) (n:=n) ⟨s,fun _ h=>h,h⟩
 cases h2 with
 | done h3 h4=>
  refine AWP.mono h3 ?_
  rintro e1 s3 ⟨rfl,rfl⟩
  cases e1 with
  | normal=>exact absurd rfl h4
  | _=>exact ⟨rfl,rfl⟩
 | step h3 h4 h5 h6=>
  refine AWP.mono h3 ?_
  rintro e1 s3 ⟨rfl,rfl⟩
  exact ⟨_,h5,_,h4,h6⟩
theorem EWP.canon {c:Code} {s1:St} (h:Canon s s1) (hc:EWP P N c Q s1):EWP P N c Q s:=EWP.via (fun _=>AWP.canon h) hc
theorem Ka {c:Code} (I:Nat->St->Prop) (hI:∀ n s,I n s->EWP P N c (andThen (fun s'=>∃ m s1,m < n/\Canon s' s1/\I m s1) Q) s):∀ n s,I n s->∃ e2 s2,Q e2 s2/\Chain P N c e2 s2 n s:=by
 intro n
 induction n using Nat.strongRecOn with
 | _ n ih=>
  intro s h0
  obtain ⟨e,s',h1,h2⟩:=hI n s h0
  cases e with
  | normal=>
   obtain ⟨m,s1,hm,hc,hi⟩:=h1
   obtain ⟨e2,s2,h3,h4⟩:=ih m hm s1 hi
   exact ⟨e2,s2,h3,.step h2 (fun _=>AWP.canon hc) hm h4⟩
  | _=>exact ⟨_,s',h1,.done h2 (by simp)⟩
theorem Aq {c:Code} (I:Nat->St->Prop) {n:Nat} {s1:St} (hc:Canon s s1) (h0:I n s1) (hI:∀ n s,I n s->EWP P N c (andThen (fun s'=>∃ m s1,m < n/\Canon s' s1/\I m s1) Q) s):EWP P N (.loop c) Q s:=by
 obtain ⟨e2,s2,h1,h2⟩:=Ka I hI n s1 h0
 exact EWP.canon hc ⟨e2,s2,h1,h2.loop⟩
theorem Ap {c:Code} (h:EWP P N c (andThen (fun _=>False) Q) s):EWP P N (.loop c) Q s:=by
 obtain ⟨e,s',h1,h2⟩:=h
 cases e with
 | normal=>exact h1.elim
 | _=>exact ⟨_,s',h1,(Chain.done (n:=0) h2 (by simp)).loop⟩
/-- A loop that is walked round by round. -/
def Nd (P:Program) (N:Nat) (c:Code) (Q:Exit->St->Prop) (s:St):Prop:=∃ e2 s2 n,Q e2 s2/\Chain P N c e2 s2 n s
theorem Ar {c:Code} (h:EWP P N c (andThen (Nd P N c Q) Q) s):Nd P N c Q s:=by
 obtain ⟨e,s',h1,h2⟩:=h
 cases e with
 | normal=>
  obtain ⟨e2,s2,n,h3,h4⟩:=h1
  exact ⟨e2,s2,n+1,h3,.step h2 (fun _ h=>h) (Nat.lt_succ_self n) h4⟩
 | _=>exact ⟨_,s',0,h1,.done h2 (by simp)⟩
theorem J9 {c:Code} (h:Nd P N c Q s):EWP P N (.loop c) Q s:=by
 obtain ⟨e2,s2,n,h1,h2⟩:=h
 exact ⟨e2,s2,h1,h2.loop⟩
theorem PRet.of_body {f:FuncId} {fn:Func} {c:Code} {args:List AV} {R:AV->Prop} (hf:P.funcs[f]? = some fn) (hb:fn.body=some c) (hN:fn.ntmps=N) (hl:args.length<=N)
  (h:EWP P N c (fun e s'=>(e=.normal\/e=.ret)/\∃ ret,Kh P N fn s' ret/\R ret) ⟨f0 args,pu,0⟩):PRet P f args R:=by
 obtain ⟨e,s',⟨he,ret,ho,hR⟩,h2⟩:=h
 refine ⟨ret,hR,pB hf hb hN hl (AWP.mono h2 ?_)⟩
 rintro e1 s1 ⟨rfl,rfl⟩
 exact ⟨he,ho⟩
theorem PRet.mono {f:FuncId} {args:List AV} {R R':AV->Prop} (h:PRet P f args R) (hR:∀ r,R r->R' r):PRet P f args R':=by
 obtain ⟨r,h1,h2⟩:=h
 exact ⟨r,hR r h1,h2⟩
end
section
variable {P:Program} {N:Nat} {ops:Array Oper} {l:List Oper} {τ:Nat->AV} {η:au} {u:Nat} {op:Op} {ty:TypeId} {pos:String} {af:Array Edge} {g:Option (Nat×Bool)} {K:List Rec->St->Prop}
end
section
variable {P:Program} {τ:Nat->AV} {η:au} {d:Option Tmp} {ty:TypeId} {pos:String} {af:Array Edge} {g:Option (Nat×Bool)}
theorem Ak {t:Nat} {x i j:Operand} {s:ByteArray} {m n:Int} (hu:P.underlying t=some .string) (hx:aev τ x=.v (.string s)) (hi:aev τ i=.v (.int .i64 m)) (hj:aev τ j=.v (.int .i64 n)) (h0:0<=m) (h1:m<=n) (h2:n<=s.size) :
  LOp P ⟨d,.slice t x (some i) (some j) none,ty,pos,af,g⟩ τ η [] [] (.v (.string (s.extract m.toNat n.toNat))) :=
 .look [] fun C a hg hxs _=>by
  have e1:=hxs x (by simp [Op.operands])
  have e2:=hxs i (by simp [Op.operands])
  have e3:=hxs j (by simp [Op.operands])
  rw [hx] at e1
  rw [hi] at e2
  rw [hj] at e3
  refine ⟨_,?_,VR.v C _⟩
  simp only [execOp,e1.v_inv,Option.map_some,Option.map_none,e2.v_inv,e3.v_inv]
  rw [Sem.run_bind,Go.run_sliceAt_string C.w t _ _ _ _ hu,Go.run_slice_string C.w t s .i64 .i64 m n hu h0 h1 h2]
  rfl
theorem F2 {t t':Nat} {x y:Operand} {a b:ByteArray} (hx:aev τ x=.v (.string a)) (hy:aev τ y=.v (.string b)) (h:a.size+b.size<=9223372036854775807) :
  LOp P ⟨d,.binOp .add t x y t',ty,pos,af,g⟩ τ η [] [] (.v (.string (a++b))) :=
 .look [] fun C q hg hxs _=>by
  have e1:=hxs x (by simp [Op.operands])
  have e2:=hxs y (by simp [Op.operands])
  rw [hx] at e1
  rw [hy] at e2
  refine ⟨_,?_,VR.v C _⟩
  simp only [execOp,e1.v_inv,e2.v_inv]
  simp [eqGuard,Sem.run_bind,Go.binOp_string_add,Go.run_string_add_sum C.w a b h]
theorem Fy {t e:Nat} {x:Operand} {ats:Array TypeId} (ha:ats[0]? = some t) (he:P.underlying t=some (.slice e)) (hx:aev τ x=.v (.slice none 0 0)) :
  LOp P ⟨d,.call { callee:=.builtin .len,args:=#[x],argTypes:=ats },ty,pos,af,g⟩ τ η [] [] (.v (.int .i64 0)) :=
 .look [] fun C a hg hxs _=>by
  have h1:=hxs x (by simp [Op.operands,Call.operands])
  rw [hx] at h1
  refine ⟨_,?_,VR.v C _⟩
  simp [execOp,h1.v_inv,resolve,invoke,builtin,Builtin.len_,ha,run_underlying he,goInt]
end
theorem Qb:(ByteArray.mk #[32]).size=1:=rfl
/-- The call of f, lr blocks, gives one value and leaves the blocks so; what holds of the value. -/
def Sw (P:Program) (f:FuncId) (args:List AV) (hb:List (Nat×Blk)) (hb':List (Nat×Option Blk)) (R:AV->Prop):Prop:=∃ ret,R ret/\ra P f args hb hb' ret
theorem Sw.of_body {P:Program} {f:FuncId} {fn:Func} {c:Code} {N:Nat} {args:List AV} {hb:List (Nat×Blk)} {hb':List (Nat×Option Blk)} {R:AV->Prop} (hf:P.funcs[f]? = some fn) (hbo:fn.body=some c) (hN:fn.ntmps=N) (hl:args.length<=N)
  (h:EWP P N c (fun e s'=>(e=.normal\/e=.ret)/\∃ ret,M7 P N fn s' hb' ret/\R ret) ⟨f0 args,bl hb,0⟩):Sw P f args hb hb' R:=by
 obtain ⟨e,s',⟨he,ret,ho,hR⟩,h2⟩:=h
 refine ⟨ret,hR,ra.of_body hf hbo hN hl (AWP.mono h2 ?_)⟩
 rintro e1 s1 ⟨rfl,rfl⟩
 exact ⟨he,ho⟩
def swp (i j n:Nat):Nat:=if n=i then j else if n=j then i else n
theorem s6 (i j n:Nat):swp i j (swp i j n)=n:=by
 unfold swp; repeat' split
 all_goals omega
theorem Po {i j a b:Nat} (h:swp i j a=swp i j b):a=b:=by rw [<- s6 i j a,h,s6]
theorem Pn {i j n u:Nat} (hi:i < u) (hj:j < u) (h:swp i j n < u\/TOP<=swp i j n):n < u\/TOP<=n:=by
 unfold swp at h
 repeat' split at h
 all_goals omega
theorem Pm {i j n:Nat} (hi:i < TOP) (hj:j < TOP) (h:TOP<=n):swp i j n=n:=by
 unfold swp; repeat' split
 all_goals omega
def X9 (D:List Nat):List (Nat×AV)->Prop
 | []=>True
 | p :: r=>p.2.inB D=true/\X9 D r
def X8 (D:List Nat):List (Nat×Blk)->Prop
 | []=>True
 | p :: r=>inL D p.2.cs=true/\X8 D r
theorem wl {g:Nat->Nat}:∀ (fl:List (Nat×AV)) (t:Nat),fL (fl.map fun p=>(p.1,p.2.ren g)) t=(fL fl t).ren g
 | [],t=>rfl
 | p :: r,t=>by
  simp only [List.map_cons,fL]
  cases hb:Nat.beq t p.1 with
  | true=>rfl
  | false=>exact wl r t
theorem zv {D:List Nat}:∀ {fl:List (Nat×AV)} (_:X9 D fl) (t:Nat),(fL fl t).inB D=true
 | [],_,t=>rfl
 | p :: r,⟨h1,h2⟩,t=>by
  simp only [fL]
  cases hb:Nat.beq t p.1 with
  | true=>exact h1
  | false=>exact zv h2 t
theorem zu {D:List Nat}:∀ {hl:List (Nat×Blk)} (_:X8 D hl) {n:Nat} {b:Blk},bl hl n=some b->inL D b.cs=true
 | [],_,n,b,h=>by cases h
 | p :: r,⟨h1,h2⟩,n,b,h=>by
  simp only [bl] at h
  cases hb:Nat.beq n p.1 with
  | true=>rw [hb] at h; simp only [cond_true,Zh] at h; subst h; exact h1
  | false=>rw [hb] at h; exact zu h2 h
theorem zr:∀ {hl:List (Nat×Blk)} {n:Nat},n∈hl.map (·.1)->∃ b,bl hl n=some b
 | [],n,h=>by simp at h
 | p :: r,n,h=>by
  simp only [bl]
  cases hb:Nat.beq n p.1 with
  | true=>exact ⟨p.2,rfl⟩
  | false=>
   simp only [List.map_cons,List.mem_cons] at h
   rcases h with h | h
   ·subst h; simp at hb
   ·exact zr h
theorem zp {i j:Nat}:∀ (hl:List (Nat×Blk)) (n:Nat),bl (hl.map fun p=>(swp i j p.1,p.2.ren (swp i j))) n=(bl hl (swp i j n)).map (Blk.ren (swp i j))
 | [],n=>rfl
 | p :: r,n=>by
  simp only [List.map_cons,bl]
  have e:Nat.beq n (swp i j p.1)=Nat.beq (swp i j n) p.1:=by
   by_cases h:n=swp i j p.1
   ·subst h; rw [s6]; simp
   ·have h':¬ swp i j n=p.1:=fun h'=>h (by rw [<- h',s6])
    rw [jo h,jo h']
  rw [e]
  cases hb:Nat.beq (swp i j n) p.1 with
  | true=>rfl
  | false=>exact zp r n
section
variable {P:Program} {N:Nat} {Q:Exit->St->Prop}
theorem Ng {c:Code} (i j:Nat) {s:St} {fl fl':List (Nat×AV)} {hl hl':List (Nat×Blk)} {u:Nat} (hs:Canon s ⟨fL fl,bl hl,u⟩) (hF:X9 (hl.map (·.1)) fl) (hH:X8 (hl.map (·.1)) hl) (hi:i < u) (hj:j < u) (hu:u<=TOP)
  (hfl:(fl.map fun p=>(p.1,p.2.ren (swp i j)))=fl') (hhl:(hl.map fun p=>(swp i j p.1,p.2.ren (swp i j)))=hl') (hc:AWP P N c Q ⟨fL fl',bl hl',u⟩):AWP P N c Q s:=by
 subst hfl hhl
 intro C a hr0
 obtain ⟨C1,hw,hr,hf⟩:=hs.rel hr0
 have e1:C1.η=bl hl:=hr.η
 let g:=swp i j
 have hgg:∀ n,g (g n)=n:=s6 i j
 let C2:Ctx:={ C1 with ρ:=fun n=>C1.ρ (g n),sz:=fun n=>C1.sz (g n),η:=bl (hl.map fun p=>(swp i j p.1,p.2.ren (swp i j))),U:=fun n=>C1.U (g n) }
 have h2η:∀ n,C2.η n=(C1.η (g n)).map (Blk.ren g):=fun n=>by rw [e1]; exact zp hl n
 have hold:∀ {n b},C2.η n=some b->∃ b0,C1.η (g n)=some b0/\b=b0.ren g:=by
  intro n b hb
  rw [h2η] at hb
  cases h:C1.η (g n) with
  | none=>rw [h] at hb; cases hb
  | some b0=>rw [h] at hb; simp only [Option.map_some,Zh] at hb; exact ⟨b0,rfl,hb.symm⟩
 have hR:Rens (hl.map (·.1)) g C1 C2:=by
  refine ⟨fun n _=>?_,fun n _=>?_,fun n _=>?_,fun n hn=>?_,rfl,rfl⟩
  ·show C1.ρ (g (g n))=_; rw [hgg]
  ·show C1.sz (g (g n))=_; rw [hgg]
  ·rw [h2η,hgg]
  ·show C1.U (g (g n)); rw [hgg]
   obtain ⟨b,hb⟩:=zr hn
   exact hr.good.used (by rw [e1]; exact hb)
 have hin:∀ {n b},C1.η n=some b->inL (hl.map (·.1)) b.cs=true:=fun hb=>zu hH (by rw [e1] at hb; exact hb)
 have hlive:∀ {n},C2.live n->C1.live (g n):=by
  rintro n ⟨b,hb,hk⟩
  obtain ⟨b0,h0,rfl⟩:=hold hb
  exact ⟨b0,h0,by rw [bg] at hk; exact hk⟩
 have hmine:∀ {k},C2.mine k->C1.mine k:=fun ⟨n,h1,h2⟩=>⟨g n,hlive h1,h2⟩
 have hg:Good C2:=by
  refine ⟨fun hb=>?_,fun hb hk=>?_,fun hb hn=>?_,fun h1 h2 h3=>Po (hr.good.inj (hlive h1) (hlive h2) h3),hr.good.tok,fun hk hT=>hr.good.apart (hmine hk) hT,fun hb hv hn=>?_⟩
  ·obtain ⟨b0,h0,rfl⟩:=hold hb
   exact hr.good.used h0
  ·obtain ⟨b0,h0,rfl⟩:=hold hb
   obtain ⟨o,h1,h2⟩:=hr.good.obj h0 (by rw [bg] at hk; exact hk)
   exact ⟨o,h1,ObjR.ren hR h2 (hin h0)⟩
  ·obtain ⟨b0,h0,rfl⟩:=hold hb
   obtain ⟨c,t,g1,g2,g3,g4⟩:=hr.good.blk h0 hn
   refine ⟨c,t,g1,g2,by show _+(pm g b0.cs).length<=_; rw [ca]; exact g3,fun k hk hk'=>?_⟩
   have hk0:k < b0.cs.length:=by have hk:k < (pm g b0.cs).length:=hk; rw [ca] at hk; exact hk
   have e:(b0.ren g).cs[k]=(b0.cs[k]).ren g:=ff hk
   rw [e]
   exact VR.ren hR (g4 k hk0 hk') (ki (hin h0) k hk0)
  ·obtain ⟨b0,h0,rfl⟩:=hold hb
   have:=hr.good.tight h0 hv hn
   show C1.sz _=_+(pm g b0.cs).length
   rw [ca]; exact this
 have hfr:Fr C1 C2:=⟨⟨rfl,rfl,rfl,Nat.le_refl _,fun _ _ _=>rfl,fun k hk=>.inl (hmine hk),fun _ h=>h,fun _ h=>.inl h⟩,fun id ht hU=>by
  have e:g id=id:=Pm (by omega) (by omega) ht
  refine ⟨by show C1.U (g id); rw [e]; exact hU,fun b' hb=>?_⟩
  obtain ⟨b0,h0,rfl⟩:=hold hb
  rw [e] at h0
  exact ⟨b0,h0,Nat.le_refl _,fun _=>⟨by show C1.ρ (g id)=_; rw [e],by show C1.sz (g id)=_; rw [e],bg,rfl⟩⟩⟩
 have hr2:SRel N C2 ⟨fL (fl.map fun p=>(p.1,p.2.ren (swp i j))),bl (hl.map fun p=>(swp i j p.1,p.2.ren (swp i j))),u⟩ a :=
  ⟨hg,rfl,fun id hU=>Pn hi hj (hr.u _ hU),hr.defers,hr.size,fun t=>by
   show VR C2 (fL _ t) _
   rw [wl]
   exact VR.ren hR (hr.τ t) (zv hF t)⟩
 have:=hc C2 a hr2
 have hw2:C2.w=C.w:=hw
 rw [hw2] at this
 refine Code.wp_mono ?_ this
 rintro e a' w' ⟨s',C'',hq,hw',hr'',hf'⟩
 exact ⟨s',C'',hq,hw',hr'',(hf.trans hfr).trans hf'⟩
end
def lp (n:Nat) (F:Nat->Bool):List AV:=(List.range n).map fun i=>AV.v (.bool (F i))
section
variable {n:Nat} {F G:Nat->Bool}
theorem xe:(lp n F).length=n:=by simp [lp]
theorem La {i:Nat} (h:i < n):(lp n F)[i]? = some (.v (.bool (F i))):=by simp [lp,h]
theorem Lb (h:∀ i,i < n->F i=G i):lp n F=lp n G:=by
 unfold lp
 exact List.map_congr_left fun i hi=>by rw [h i (List.mem_range.1 hi)]
theorem cz (u:Nat):n6 u (lp n F)=true:=by
 unfold lp
 induction List.range n with
 | nil=>rfl
 | cons a l ih=>simp only [List.map_cons,n6]; rw [ih]; rfl
theorem P1 (D:List Nat):inL D (lp n F)=true:=by
 unfold lp
 induction List.range n with
 | nil=>rfl
 | cons a l ih=>simp only [List.map_cons,inL]; rw [ih]; rfl
theorem K9 (g:Nat->Nat):pm g (lp n F)=lp n F:=by
 unfold lp
 induction List.range n with
 | nil=>rfl
 | cons a l ih=>simp only [List.map_cons,pm]; rw [ih]; rfl
theorem K8 {i:Nat} {b:Bool} (h:i < n):bp (lp n F) i [.v (.bool b)]=lp n (fun k=>if k=i then b else F k):=by
 apply List.ext_getElem
 ·simp [bp,lp]; omega
 ·intro k h1 h2
  have hk:k < n:=by rw [xe] at h2; exact h2
  have hl:(lp n F).length=n:=xe
  simp only [bp]
  by_cases e:k < i
  ·rw [List.getElem_append_left (by simp [hl]; omega)]
   rw [List.getElem_append_left (by simp [hl]; omega)]
   simp [lp,Nat.ne_of_lt e]
  ·by_cases e2:k=i
   ·subst e2
    rw [List.getElem_append_left (by simp [hl]; omega)]
    rw [List.getElem_append_right (by simp [hl]; omega)]
    simp [lp,hl]
   ·rw [List.getElem_append_right (by simp [hl]; omega)]
    simp only [List.getElem_drop,lp,List.getElem_map,List.getElem_range,Zi,List.length_take,Zl,List.length_range,List.length_singleton]
    rw [if_neg (by omega)]
    congr 3
    omega
end
section
variable {P:Program} {τ:Nat->AV} {η:au} {d:Option Tmp} {ty:TypeId} {pos:String} {af:Array Edge} {g:Option (Nat×Bool)}
theorem qb {t:Nat} {x:Operand} {id ver i n:Nat} {F:Nat->Bool} (ht:el P t=some none) (hx:aev τ x=.ptr id ver i) (hb:η id=some ⟨ver,lp n F,1,false⟩) (hi:i < n) :
  LOp P ⟨d,.load t x,ty,pos,af,g⟩ τ η [id] [] (.v (.bool (F i))):=lD ht hx hb rfl rfl (La hi)
theorem ig {t:Nat} {x y:Operand} {id ver i n:Nat} {F:Nat->Bool} {b:Bool} (hs:aa P t=some 1) (hx:aev τ x=.ptr id ver i) (hb:η id=some ⟨ver,lp n F,1,false⟩) (hy:aev τ y=.v (.bool b)) (hi:i < n) :
  LOp P ⟨d,.store t x y,ty,pos,af,g⟩ τ η [id] [(id,some ⟨ver,lp n (fun k=>if k=i then b else F k),1,false⟩)] (.v undef):=by
 have:=LOp.store (P:=P) (τ:=τ) (η:=η) (d:=d) (ty:=ty) (pos:=pos) (af:=af) (g:=g) (b:=⟨ver,lp n F,1,false⟩) (y:=y) hs hx hb rfl rfl (by rw [hy]; rfl) (by rw [hy]; rfl) (by rw [hy]; rfl) (by rw [xe]; exact hi)
 have e:bp (lp n F) i (aev τ y).cells=lp n (fun k=>if k=i then b else F k):=by rw [hy]; exact K8 hi
 simp only [e] at this
 exact this
theorem d6 {t e:Nat} {x y:Operand} {id ver i n:Nat} {v:Int} {F:Nat->Bool} (he:P.underlying t=some (.slice e)) (hs:aa P e=some 1) (hx:aev τ x=.sl id ver 0 n) (hi:aev τ y=.v (.int .i64 v)) (hv:v=((i:Nat):Int)) (hj:i < n) (hb:η id=some ⟨ver,lp n F,1,false⟩) :
  LOp P ⟨d,.indexAddr t x y,ty,pos,af,g⟩ τ η [id] [] (.ptr id ver i):=by
 subst hv
 have:=nq (P:=P) (τ:=τ) (η:=η) (d:=d) (ty:=ty) (pos:=pos) (af:=af) (g:=g) (j:=i) he hs hx hi hj hb rfl rfl rfl
 rwa [Nat.zero_add,Nat.mul_one] at this
theorem D9 {n:Nat}:bz (.bool false) (n * 1)=lp n (fun _=>false):=by
 unfold bz lp
 rw [Nat.mul_one]
 refine List.map_congr_left fun i _=>?_
 have h0:(Value.bool false).cells=#[.bool false]:=rfl
 have e:i % (Value.bool false).cells.size=0:=by rw [h0]; exact Nat.mod_one i
 rw [e,h0]; rfl
/-- A row of bools. -/
theorem Am (u:Nat) {t e len:Nat} {x y:Operand} {v:Int} (he:P.underlying t=some (.slice e)) (hs:aa P e=some 1) (hz:ax P e=some (.bool false)) (hby:(P.info? e).map (·.bytes)=some 1)
  (hx:aev τ x=.v (.int .i64 v)) (hy:aev τ y=.v (.int .i64 v)) (hv:v=((len:Nat):Int)) (hl:len<=140737488355328) (h0:len≠0) :
  LOp P ⟨d,.makeSlice t x y,ty,pos,af,g⟩ τ η [] [(u,some ⟨0,lp len (fun _=>false),1,false⟩)] (.sl u 0 0 len):=by
 rw [<- D9]
 subst hv
 intro C a hg hxs _ hnew K Q hK
 have hu:¬ C.U u:=hnew (u,some ⟨0,bz (.bool false) (len * 1),1,false⟩) (by simp) (by simp)
 have e1:=hxs x (by simp [Op.operands])
 have e2:=hxs y (by simp [Op.operands])
 rw [hx] at e1
 rw [hy] at e2
 unfold aa at hs
 unfold ax at hz
 cases hi:P.info? e with
 | none=>rw [hi] at hz; cases hz
 | some inf=>
  rw [hi] at hz hs hby
  simp only [Option.bind_some] at hz
  simp only [Option.map_some,Zh] at hs hby
  let es:Array Value:=(Array.range (len * inf.size)).map fun i=>(Value.bool false).cells[i % (Value.bool false).cells.size]!
  have z1:(bz (.bool false) (len * inf.size)).length=es.size:=by simp [bz,es]
  have z2:∀ i (h:i < (bz (.bool false) (len * inf.size)).length) (h':i < es.size),VR C (bz (.bool false) (len * inf.size))[i] es[i]:=fun i h h'=>by
   simp only [bz,List.getElem_map,List.getElem_range,es,Array.getElem_map,Array.getElem_range]; exact VR.v C _
  have gsz:es.size=len * inf.size:=by simp [es]
  have hrun:(execOp a.eval ⟨d,.makeSlice t x y,ty,pos,af,g⟩).run P C.w=.ok (.value (.slice (some ⟨C.w.heap.size,0,none⟩) len len)) (C.w.alloc (.cells es e)):=by
   have h0:¬ (len * inf.size=0):=by rw [hs,Nat.mul_one]; exact h0
   have hw:IntKind.i64.wrap (Int.ofNat len)=Int.ofNat len:=IntWalk.i64_in _ (by constructor <;> simp <;> omega)
   have c1:¬ (((inf.bytes:Int) * Int.ofNat len > 2 ^ 48)):=by
    have:(inf.bytes:Int) * Int.ofNat len=((inf.bytes * len:Nat):Int):=by simp
    rw [this,hby]; omega
   have c2:¬ ((Int.ofNat len:Int) < 0):=by simp
   have e1':a.eval x=.int .i64 (Int.ofNat len):=e1.v_inv
   have e2':a.eval y=.int .i64 (Int.ofNat len):=e2.v_inv
   simp only [execOp,e1',e2',Instr.makeSlice,Sem.run_bind,run_underlying he,Result.andThen_ok,asInt,typeInfo,run_program,hi,Sem.run_pure]
   have a1:∀ w:World,(asIntOf (Value.int IntKind.i64 (Int.ofNat len))).run P w=.ok (IntKind.i64,Int.ofNat len) w:=fun w=>rfl
   simp only [a1,Result.andThen_ok,hw]
   have cc:(decide ((Int.ofNat len:Int) < 0)||decide ((inf.bytes:Int) * Int.ofNat len > 2 ^ 48)||decide ((Int.ofNat len:Int) < 0)||decide ((Int.ofNat len:Int) > Int.ofNat len))=false:=by
    simp only [Bool.or_eq_false_iff,decide_eq_false_iff_not]
    exact ⟨⟨⟨c2,c1⟩,c2⟩,Int.lt_irrefl _⟩
   rw [if_neg (by rw [cc]; exact Bool.false_ne_true)]
   have tn:(Int.ofNat len).toNat=len:=rfl
   simp only [tn,Sem.run_bind]
   have ar:∀ w:World,(askRoom (len * inf.bytes)).run P w=.ok () w:=fun w=>by unfold askRoom; split <;> rfl
   simp only [ar,Result.andThen_ok,sizeOf,typeInfo,Sem.run_bind,run_program,hi,Sem.run_pure]
   rw [if_neg h0]
   simp only [Sem.run_bind,zeroValue,typeInfo,run_program,hi,Sem.run_pure,Result.andThen_ok,hz]
   rfl
  have hs':(1:Nat)=inf.size:=hs.symm
  rw [hs'] at hK
  unfold Oper.wp
  rw [hrun]
  refine hK _ (C.alloc u es e ⟨0,bz (.bool false) (len * inf.size),inf.size,false⟩) rfl (fun i=>by simp [Ctx.alloc]) (du hg hu rfl (Nat.le_of_eq z1) z2) (d9 hg hu rfl) ?_
  have h3:(C.alloc u es e ⟨0,bz (.bool false) (len * inf.size),inf.size,false⟩).ρ u=(C.w.heap.size,0):=by simp [Ctx.alloc]
  have h4:(C.alloc u es e ⟨0,bz (.bool false) (len * inf.size),inf.size,false⟩).sz u=es.size:=by simp [Ctx.alloc]
  have:=VR.sl (C:=C.alloc u es e ⟨0,bz (.bool false) (len * inf.size),inf.size,false⟩) (id:=u) (ver:=0) (off:=0) (len:=len) (cap:=len) (b:=⟨0,bz (.bool false) (len * inf.size),inf.size,false⟩) (ae _ _ _) rfl rfl (Nat.le_refl _) (by unfold maxLen; omega) (by omega)
   (by rw [h3,h4,gsz]; simp)
  rw [h3] at this
  exact this
end
end Go.Proofs.YthpangmpihkniaaGreatDoor
