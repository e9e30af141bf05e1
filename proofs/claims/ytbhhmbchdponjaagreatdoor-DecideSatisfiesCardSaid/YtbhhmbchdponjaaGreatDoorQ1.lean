/- Texts of the claim. -/
import Derived.Lib.RowBridge
import Derived.Sort.Grow
import Derived.Shelf.SlLaysE
import Derived.Shelf.SlicesE.Kit
import Derived.Shelf.RegionOpenPlain
import Derived.WalkKit
import Derived.Deep.LoopGhost
import Derived.Deep.RegionLaw
import Derived.Lib.Walk
import Derived.Sort.WalkB12
import Derived.Lib.SliceRun
import Derived.Shelf.SlicesE.Clone
import Derived.Laws.Strings2
import Derived.Laws.Slices
import Derived.Laws.Concat
import Derived.Test.YtbhhmbchdponjaaGreatDoorE3
import Derived.Test.YtbhhmbchdponjaaGreatDoorA2
namespace Go.Proofs.YtbhhmbchdponjaaGreatDoor
set_option linter.unusedVariables false
set_option linter.unusedSimpArgs false
open Go.RowKit
section
variable {P:Program} {N:Nat} {τ:Nat→AV} {η:Heap} {u:Nat} {op:Op} {ty:TypeId} {pos:String} {af:Array Edge} {g:Option (Nat×Bool)}
end
theorem quiet_bind_of {α β:Type} {P:Program}:∀ {s:Sem α} {f:α→Sem β} {a:α} {b:β},quiet P s=some a→quiet P (f a)=some b→quiet P (s.bind f)=some b:=by
 intro s
 induction s with
 | pure a=>intro f a' b h1 h2; simp only [quiet,Option.some.injEq] at h1; subst h1; exact h2
 | program k ih=>intro f a b h1 h2; exact ih P h1 h2
 | mark m k ih=>intro f a b h1 h2; exact ih h1 h2
 | choose q k ih=>
  intro f a b h1 h2
  simp only [Sem.bind,quiet] at h1 ⊢
  cases hq:q.forced with
  | false=>rw [hq] at h1; simp at h1
  | true=>
   rw [hq] at h1
   simp only [cond_true] at h1 ⊢
   exact ih 0 h1 h2
 | _=>intro f a b h1 h2; simp [quiet] at h1
theorem quiet_und {P:Program} {t:TypeId} {d:TypeDesc} (h:P.underlying t=some d):quiet P (underlying t)=some d:=by show quiet P (match P.underlying t with | some d=>(pure d:Sem TypeDesc) | none=>stuck "no such type")=some d;rw [h];rfl
section
variable {P:Program} {kt:TypeId}
end
theorem unEs_map:∀ es:List (Value×AV×Nat),unEs (es.map fun e=>.agg [.v e.1,e.2.1,.v (.int .i64 (Int.ofNat e.2.2))])=some es
 | []=>rfl
 | e :: es=>by have ih:=unEs_map es;simp only [List.map_cons,unEs,ih]
theorem liveM_map {η:Heap} {id ver z clock:Nat} {es:List (Value×AV×Nat)} (h:η id=some (mapBlk ver z clock es)):liveM η id ver=some (mapBlk ver z clock es,clock,es):=by have h1:unMap (mapCs clock es)=some (clock,es):=(by have e:unMap (mapCs clock es)=(match unEs (es.map fun e=>.agg [.v e.1,e.2.1,.v (.int .i64 (Int.ofNat e.2.2))]) with | some es=>some (clock,es) | none=>none):=rfl;rw [e,unEs_map]);unfold liveM;rw [h];have e2:(mapBlk ver z clock es).cs=mapCs clock es:=rfl;have e3:(mapBlk ver z clock es).ver=ver:=rfl;have e4:(mapBlk ver z clock es).nilp=true:=rfl;simp only [e2,e3,e4,h1];simp
section
variable {P:Program} {τ:Nat→AV} {η:Heap} {d:Option Tmp} {ty:TypeId} {pos:String} {af:Array Edge} {g:Option (Nat×Bool)}
end
end Go.Proofs.YtbhhmbchdponjaaGreatDoor
namespace Go.Proofs.YtbhhmbchdponjaaGreatDoor
set_option linter.unusedVariables false
set_option linter.unusedSimpArgs false
open Go.RowKit
section
variable {P:Program} {N:Nat} {τ:Nat→AV} {η:Heap} {u:Nat} {ty:TypeId} {pos:String} {af:Array Edge} {g:Option (Nat×Bool)}
end
end Go.Proofs.YtbhhmbchdponjaaGreatDoor
namespace Go.Proofs.YtbhhmbchdponjaaGreatDoor
set_option linter.unusedVariables false
set_option linter.unusedSimpArgs false
open Go.RowKit
mutual
def AV.ren (g:Nat→Nat):AV→AV
 | .v x=>.v x
 | .tree n xs=>.tree n xs
 | .tp cs o=>.tp cs o
 | .unk=>.unk
 | .ptr id ver off=>.ptr (g id) ver off
 | .mp id ver=>.mp (g id) ver
 | .it id ver=>.it (g id) ver
 | .sl id ver off len=>.sl (g id) ver off len
 | .agg cs=>.agg (renL g cs)
 | .tup cs=>.tup (renL g cs)
 | .clo f cs=>.clo f (renL g cs)
def renL (g:Nat→Nat):List AV→List AV
 | []=>[]
 | a :: r=>a.ren g :: renL g r
end
mutual
def AV.inB (D:List Nat):AV→Bool
 | .v _=>true
 | .tree _ _=>true
 | .tp _ _=>true
 | .unk=>true
 | .ptr id _ _=>D.contains id
 | .mp id _=>D.contains id
 | .it id _=>D.contains id
 | .sl id _ _ _=>D.contains id
 | .agg cs=>inL D cs
 | .tup cs=>inL D cs
 | .clo _ cs=>inL D cs
def inL (D:List Nat):List AV→Bool
 | []=>true
 | a :: r=>a.inB D&&inL D r
end
theorem renL_eq {g:Nat→Nat}:∀ l:List AV,renL g l=l.map (AV.ren g)
 | []=>rfl
 | a :: r=>by rw [renL,renL_eq r]; rfl
theorem renL_len {g:Nat→Nat} (l:List AV):(renL g l).length=l.length:=by rw [renL_eq,List.length_map]
theorem renL_get {g:Nat→Nat} {l:List AV} {i:Nat} (h:i < (renL g l).length):(renL g l)[i]=(l[i]'(by rw [renL_len] at h; exact h)).ren g:=by simp only [renL_eq,List.getElem_map]
theorem inL_iff {D:List Nat} {l:List AV}:inL D l=true↔∀ a∈l,a.inB D=true:=by
 induction l with
 | nil=>simp [inL]
 | cons a r ih=>simp [inL,ih]
theorem inL_at {D:List Nat} {l:List AV} (h:inL D l=true) (i:Nat) (hi:i < l.length):l[i].inB D=true:=inL_iff.1 h _ (List.getElem_mem _)
def Blk.ren (g:Nat→Nat) (b:Blk):Blk:=⟨b.ver,renL g b.cs,b.esz,b.nilp⟩
theorem Blk.ren_kind {g:Nat→Nat} {b:Blk}:(b.ren g).kind=b.kind:=by obtain ⟨v,cs,z,n⟩:=b;cases n <;> cases cs <;> rfl
structure Rens (D:List Nat) (g:Nat→Nat) (C C':Ctx):Prop where
 ρ:∀ i,i∈D→C'.ρ (g i)=C.ρ i
 sz:∀ i,i∈D→C'.sz (g i)=C.sz i
 η:∀ i,i∈D→C'.η (g i)=(C.η i).map (Blk.ren g)
 U:∀ i,i∈D→C'.U (g i)
 T:C'.T=C.T
 w:C'.w=C.w
theorem TR.ren {D:List Nat} {g:Nat→Nat} {C C':Ctx} (hr:Rens D g C C') {a:AV} {x:Value} (h:TR C.T C.w a x) (hd:a.inB D=true):VR C' (a.ren g) x:=by
 induction h with
 | v=>exact .imm (.v _)
 | unk=>exact .imm (.unk _)
 | tree cell h1 h2 h3 h4 h5 h6 h7=>exact .imm (by rw [hr.T,hr.w]; exact .tree cell h1 h2 h3 h4 h5 h6 h7)
 | tree0 h=>exact .imm (.tree0 h)
 | tp cell h1 h2 h3=>exact .imm (by rw [hr.T,hr.w]; exact .tp cell h1 h2 h3)
 | @agg cs vs hl hi ih=>exact .agg (by rw [renL_len]; exact hl) (fun i h1 h2=>by
  have h3:i < cs.length:=by rw [renL_len] at h1; exact h1
  rw [renL_get h1]; exact ih i h3 h2 (inL_at hd i h3))
 | @tup cs vs hl hi ih=>exact .tup (by rw [renL_len]; exact hl) (fun i h1 h2=>by
  have h3:i < cs.length:=by rw [renL_len] at h1; exact h1
  rw [renL_get h1]; exact ih i h3 h2 (inL_at hd i h3))
 | @clo f cs vs hl hi ih=>exact .clo (by rw [renL_len]; exact hl) (fun i h1 h2=>by
  have h3:i < cs.length:=by rw [renL_len] at h1; exact h1
  rw [renL_get h1]; exact ih i h3 h2 (inL_at hd i h3))
theorem VR.ren {D:List Nat} {g:Nat→Nat} {C C':Ctx} (hr:Rens D g C C') {a:AV} {x:Value} (h:VR C a x) (hd:a.inB D=true):VR C' (a.ren g) x:=by
 have st:∀ {id ver:Nat},id∈D→(∀ b,C.η id=some b→ver < b.ver)→∀ b,C'.η (g id)=some b→ver < b.ver:=by
  intro id ver hid h b hb
  rw [hr.η id hid] at hb
  cases hc:C.η id with
  | none=>rw [hc] at hb; cases hb
  | some b0=>rw [hc] at hb; simp only [Option.map_some,Option.some.injEq] at hb; subst hb; exact h b0 hc
 have lv:∀ {id:Nat} {b:Blk},id∈D→C.η id=some b→C'.η (g id)=some (b.ren g):=fun hid hb=>by rw [hr.η _ hid,hb]; rfl
 induction h with
 | imm h=>exact TR.ren hr h hd
 | ptr hb he hn=>
  have hid:_∈D:=List.contains_iff_mem.1 hd
  rw [← hr.ρ _ hid]; exact .ptr (lv hid hb) he hn
 | sl hb he hn h1 h2 h3 h4=>
  have hid:_∈D:=List.contains_iff_mem.1 hd
  rw [← hr.ρ _ hid]; exact .sl (lv hid hb) he hn h1 h2 h3 (by rw [hr.ρ _ hid,hr.sz _ hid]; exact h4)
 | slz hb he hn=>
  have hid:_∈D:=List.contains_iff_mem.1 hd
  exact .slz (lv hid hb) he hn
 | slnil hb he hn=>
  have hid:_∈D:=List.contains_iff_mem.1 hd
  exact .slnil (lv hid hb) he (by rw [Blk.ren_kind]; exact hn)
 | mp hb he hn=>
  have hid:_∈D:=List.contains_iff_mem.1 hd
  rw [← hr.ρ _ hid]; exact .mp (lv hid hb) he (by rw [Blk.ren_kind]; exact hn)
 | it hb he hn=>
  have hid:_∈D:=List.contains_iff_mem.1 hd
  rw [← hr.ρ _ hid]; exact .it (lv hid hb) he (by rw [Blk.ren_kind]; exact hn)
 | stalem h1 hu hs=>have hid:_∈D:=List.contains_iff_mem.1 hd; exact .stalem h1 (hr.U _ hid) (st hid hs)
 | stalei h1 hu hs=>have hid:_∈D:=List.contains_iff_mem.1 hd; exact .stalei h1 (hr.U _ hid) (st hid hs)
 | stalep h1 hu hs=>have hid:_∈D:=List.contains_iff_mem.1 hd; exact .stalep h1 (hr.U _ hid) (st hid hs)
 | stales h1 hu hs=>have hid:_∈D:=List.contains_iff_mem.1 hd; exact .stales h1 (hr.U _ hid) (st hid hs)
 | @agg cs vs hl hi ih=>exact .agg (by rw [renL_len]; exact hl) (fun i h1 h2=>by
  have h3:i < cs.length:=by rw [renL_len] at h1; exact h1
  rw [renL_get h1]; exact ih i h3 h2 (inL_at hd i h3))
 | @tup cs vs hl hi ih=>exact .tup (by rw [renL_len]; exact hl) (fun i h1 h2=>by
  have h3:i < cs.length:=by rw [renL_len] at h1; exact h1
  rw [renL_get h1]; exact ih i h3 h2 (inL_at hd i h3))
 | @clo f cs vs hl hi ih=>exact .clo (by rw [renL_len]; exact hl) (fun i h1 h2=>by
  have h3:i < cs.length:=by rw [renL_len] at h1; exact h1
  rw [renL_get h1]; exact ih i h3 h2 (inL_at hd i h3))
end Go.Proofs.YtbhhmbchdponjaaGreatDoor
namespace Go.Proofs.YtbhhmbchdponjaaGreatDoor
set_option linter.unusedVariables false
set_option linter.unusedSimpArgs false
open Go.RowKit
structure Unrens (g:Nat→Nat) (K:List Nat) (C C0:Ctx):Prop where
 ρ:∀ i,i∈K→C0.ρ i=C.ρ (g i)
 sz:∀ i,i∈K→C0.sz i=C.sz (g i)
 η:∀ i,i∈K→∃ b,C0.η i=some b∧C.η (g i)=some (b.ren g)
 U:∀ i,i∈K→C0.U i
 T:C0.T=C.T
 w:C0.w=C.w
theorem VR.unren {g:Nat→Nat} {K:List Nat} {C C0:Ctx} (hu:Unrens g K C C0):∀ (a:AV) (x:Value),a.inB K=true→VR C (a.ren g) x→VR C0 a x
 | .v y,x,_,h=>by cases h with | imm h=>exact .imm (by rw [hu.T,hu.w]; exact h)
 | .unk,x,_,h=>by cases h with | imm h=>exact .imm (by rw [hu.T,hu.w]; exact h)
 | .tree n xs,x,_,h=>by cases h with | imm h=>exact .imm (by rw [hu.T,hu.w]; exact h)
 | .tp cs o,x,_,h=>by cases h with | imm h=>exact .imm (by rw [hu.T,hu.w]; exact h)
 | .ptr id ver off,x,hd,h=>by
  have hid:id∈K:=List.contains_iff_mem.1 hd
  obtain ⟨b,h1,h2⟩:=hu.η id hid
  change VR C (.ptr (g id) ver off) x at h
  cases h with
  | imm h=>cases h
  | ptr hb he hn=>
   rw [h2] at hb; cases hb
   rw [← hu.ρ id hid]; exact .ptr h1 he hn
  | stalep hx _ hs=>exact .stalep hx (hu.U id hid) (fun b' hb'=>by rw [h1] at hb'; cases hb'; exact (show ver < (b.ren g).ver from hs _ h2))
 | .sl id ver off len,x,hd,h=>by
  have hid:id∈K:=List.contains_iff_mem.1 hd
  obtain ⟨b,h1,h2⟩:=hu.η id hid
  change VR C (.sl (g id) ver off len) x at h
  cases h with
  | imm h=>cases h
  | sl hb he hn q1 q2 q3 q4=>
   rw [h2] at hb; cases hb
   rw [← hu.ρ id hid]; exact .sl h1 he hn q1 q2 q3 (by rw [hu.ρ id hid,hu.sz id hid]; exact q4)
  | slz hb he hn=>rw [h2] at hb; cases hb; exact .slz h1 he hn
  | slnil hb he hn=>rw [h2] at hb; cases hb; exact .slnil h1 he (by rw [← Blk.ren_kind (g:=g)]; exact hn)
  | stales hx _ hs=>exact .stales hx (hu.U id hid) (fun b' hb'=>by rw [h1] at hb'; cases hb'; exact (show ver < (b.ren g).ver from hs _ h2))
 | .mp id ver,x,hd,h=>by
  have hid:id∈K:=List.contains_iff_mem.1 hd
  obtain ⟨b,h1,h2⟩:=hu.η id hid
  change VR C (.mp (g id) ver) x at h
  cases h with
  | imm h=>cases h
  | mp hb he hn=>
   rw [h2] at hb; cases hb
   rw [← hu.ρ id hid]; exact .mp h1 he (by rw [← Blk.ren_kind (g:=g)]; exact hn)
  | stalem hx _ hs=>exact .stalem hx (hu.U id hid) (fun b' hb'=>by rw [h1] at hb'; cases hb'; exact (show ver < (b.ren g).ver from hs _ h2))
 | .it id ver,x,hd,h=>by
  have hid:id∈K:=List.contains_iff_mem.1 hd
  obtain ⟨b,h1,h2⟩:=hu.η id hid
  change VR C (.it (g id) ver) x at h
  cases h with
  | imm h=>cases h
  | it hb he hn=>
   rw [h2] at hb; cases hb
   rw [← hu.ρ id hid]; exact .it h1 he (by rw [← Blk.ren_kind (g:=g)]; exact hn)
  | stalei hx _ hs=>exact .stalei hx (hu.U id hid) (fun b' hb'=>by rw [h1] at hb'; cases hb'; exact (show ver < (b.ren g).ver from hs _ h2))
 | .agg cs,x,hd,h=>by
  change VR C (.agg (renL g cs)) x at h
  obtain ⟨vs,rfl,h1,h2⟩:=h.agg_inv
  rw [renL_len] at h1
  exact .agg h1 (fun i hi hi'=>by
   have hlt:=List.sizeOf_lt_of_mem (List.getElem_mem hi:cs[i]∈cs)
   exact VR.unren hu cs[i] vs[i] (inL_at hd i hi) (by have:=h2 i (by rw [renL_len]; exact hi) hi'; rw [renL_get] at this; exact this))
 | .tup cs,x,hd,h=>by
  change VR C (.tup (renL g cs)) x at h
  obtain ⟨vs,rfl,h1,h2⟩:=h.tup_inv'
  rw [renL_len] at h1
  exact .tup h1 (fun i hi hi'=>by
   have hlt:=List.sizeOf_lt_of_mem (List.getElem_mem hi:cs[i]∈cs)
   exact VR.unren hu cs[i] vs[i] (inL_at hd i hi) (by have:=h2 i (by rw [renL_len]; exact hi) hi'; rw [renL_get] at this; exact this))
 | .clo f cs,x,hd,h=>by
  change VR C (.clo f (renL g cs)) x at h
  obtain ⟨vs,rfl,h1,h2⟩:=h.clo_inv
  rw [renL_len] at h1
  exact .clo h1 (fun i hi hi'=>by
   have hlt:=List.sizeOf_lt_of_mem (List.getElem_mem hi:cs[i]∈cs)
   exact VR.unren hu cs[i] vs[i] (inL_at hd i hi) (by have:=h2 i (by rw [renL_len]; exact hi) hi'; rw [renL_get] at this; exact this))
termination_by a=>SizeOf.sizeOf a
decreasing_by all_goals (simp; omega)
theorem mapCs_ren {g:Nat→Nat} {clock:Nat} {es:List (Value×AV×Nat)}:renL g (mapCs clock es)=mapCs clock (es.map fun e=>(e.1,e.2.1.ren g,e.2.2)):=by unfold mapCs;rw [renL_eq,List.map_cons,List.map_cons,List.map_map,List.map_map];rfl
theorem siterCs_ren {g:Nat→Nat} {s:ByteArray} {pos:Nat}:renL g (siterCs s pos)=siterCs s pos:=rfl
theorem miterCs_ren {g:Nat→Nat} {m:AV} {since last:Nat} {seen:List Nat}:renL g (miterCs m since seen last)=miterCs (m.ren g) since seen last:=by unfold miterCs;rw [renL_eq,List.map_cons,List.map_cons,List.map_cons,List.map_cons,List.map_map];rfl
theorem ObjR.ren {D:List Nat} {g:Nat→Nat} {C C':Ctx} (hr:Rens D g C C') {cs:List AV} {o:Obj} (h:ObjR C cs o) (hd:inL D cs=true):ObjR C' (renL g cs) o:=by
 cases h with
 | map hl hi=>
  rename_i es entries clock
  rw [mapCs_ren]
  refine .map (by simpa using hl) (fun i h1 h2=>?_)
  have h3:i < es.length:=by simpa using h1
  have:=hi i h3 h2
  simp only [List.getElem_map]
  refine ⟨this.1,this.2.1.ren hr ?_,this.2.2⟩
  have hm:=inL_iff.1 hd (.agg [.v es[i].1,es[i].2.1,.v (.int .i64 (Int.ofNat es[i].2.2))]) (by
   unfold mapCs
   exact List.mem_cons_of_mem _ (List.mem_cons_of_mem _ (List.mem_map.2 ⟨es[i],List.getElem_mem _,rfl⟩)))
  simp only [AV.inB,inL,Bool.and_eq_true] at hm
  exact hm.2.1
 | siter=>exact .siter
 | miter0=>rw [miterCs_ren]; exact .miter0
 | miter hv=>
  rw [miterCs_ren]
  exact .miter (hv.ren hr (inL_iff.1 hd _ (by unfold miterCs; simp)))
theorem ObjR.unren {g:Nat→Nat} {K:List Nat} {C C0:Ctx} (hu:Unrens g K C C0) {cs:List AV} {o:Obj} (h:ObjR C (renL g cs) o) (hd:inL K cs=true) (hk:(∃ clock es,cs=mapCs clock es)∨∃ s p,cs=siterCs s p):ObjR C0 cs o:=by rcases hk with ⟨clock,es,rfl⟩ | ⟨s,p,rfl⟩;rw [mapCs_ren] at h;obtain ⟨entries,rfl,hl,hi⟩:=h.map_inv;have hl':es.length=entries.size:=(by simpa using hl);refine .map hl' (fun i h1 h2=>?_);have:=hi i (by simpa using h1) h2;simp only [List.getElem_map] at this;refine ⟨this.1,VR.unren hu _ _ ?_ this.2.1,this.2.2⟩;have hm:=inL_iff.1 hd (.agg [.v es[i].1,es[i].2.1,.v (.int .i64 (Int.ofNat es[i].2.2))]) (by unfold mapCs;exact List.mem_cons_of_mem _ (List.mem_cons_of_mem _ (List.mem_map.2 ⟨es[i],List.getElem_mem _,rfl⟩)));simp only [AV.inB,inL,Bool.and_eq_true] at hm;exact hm.2.1;rw [siterCs_ren] at h;rw [h.siter_inv];exact .siter
end Go.Proofs.YtbhhmbchdponjaaGreatDoor
namespace Go.Proofs.YtbhhmbchdponjaaGreatDoor
set_option linter.unusedVariables false
set_option linter.unusedSimpArgs false
open Go.RowKit
def heapO:List (Nat×Option Blk)→Heap
 | []=>fun _=>none
 | p :: r=>fun id=>bif Nat.beq id p.1 then p.2 else heapO r id
def HCall (P:Program) (f:FuncId) (args:List AV) (hb:List (Nat×Blk)) (hb':List (Nat×Option Blk)) (ret:AV):Prop :=
 ∀ (C:Ctx) (vals:Array Value),Good C→C.η=hLz hb→(∀ id,C.U id→TOP≤id)→VRs C args vals →
  Calls P f vals C.w (fun e w'=>∃ x C',e=.returned x∧C'.w=w'∧C'.η=heapO hb'∧Good C'∧Fr C C'∧VR C' ret x)
def gOf:List (Nat×Nat)→Nat→Nat
 | [],i=>i
 | p :: r,i=>bif Nat.beq i p.1 then p.2 else gOf r i
def bwd (m:List (Nat×Nat)) (k:Nat):Option Nat:=(m.find? fun p=>Nat.beq p.2 k).map (·.1)
def nodupB:List Nat→Bool
 | []=>true
 | a :: r=>!r.contains a&&nodupB r
theorem nodupB_iff:∀ {l:List Nat},nodupB l=true↔l.Nodup
 | []=>by simp [nodupB]
 | a :: r=>by simp [nodupB,nodupB_iff (l:=r)]
theorem beq_ne {a b:Nat} (h:a≠b):Nat.beq a b=false:=by grind [Nat.beq,Nat.eq_of_beq_eq_true]
theorem gOf_mem:∀ {m:List (Nat×Nat)} {i k:Nat},(m.map (·.1)).Nodup→(i,k)∈m→gOf m i=k
 | p :: r,i,k,hn,h=>by rw [List.map_cons,List.nodup_cons] at hn;rcases List.mem_cons.1 h with rfl | h;simp [gOf];have:i≠p.1:=fun e=>hn.1 (by rw [← e]; exact List.mem_map.2 ⟨(i,k),h,rfl⟩);simp only [gOf,beq_ne this,cond_false];exact gOf_mem hn.2 h
theorem bwd_some {m:List (Nat×Nat)} {i k:Nat} (h:bwd m k=some i):(i,k)∈m:=by
 unfold bwd at h
 cases hf:m.find? (fun p=>Nat.beq p.2 k) with
 | none=>rw [hf] at h; cases h
 | some p=>
  rw [hf] at h
  simp only [Option.map_some,Option.some.injEq] at h
  have h1:=List.find?_some hf
  have h2:=Nat.eq_of_beq_eq_true h1
  rw [← h,← h2]
  exact List.mem_of_find?_eq_some hf
theorem bwd_none {m:List (Nat×Nat)} {k:Nat} (h:bwd m k=none):∀ i,(i,k)∉m:=by intro i hi;unfold bwd at h;rw [Option.map_eq_none_iff,List.find?_eq_none] at h;exact h (i,k) hi (by simp)
theorem snd_inj {m:List (Nat×Nat)} (hn:(m.map (·.2)).Nodup) {i i' k:Nat} (h:(i,k)∈m) (h':(i',k)∈m):i=i':=by
 induction m with
 | nil=>cases h
 | cons p r ih=>
  rw [List.map_cons,List.nodup_cons] at hn
  rcases List.mem_cons.1 h with rfl | h1 <;> rcases List.mem_cons.1 h' with e | h2
  ·exact (Prod.mk.inj e).1.symm
  ·exact absurd (List.mem_map.2 ⟨(i',k),h2,rfl⟩) hn.1
  ·subst e; exact absurd (List.mem_map.2 ⟨(i,k),h1,rfl⟩) hn.1
  ·exact ih hn.2 h1 h2
theorem bwd_of {m:List (Nat×Nat)} (hn:(m.map (·.2)).Nodup) {i k:Nat} (h:(i,k)∈m):bwd m k=some i:=by
 cases hb:bwd m k with
 | none=>exact absurd h (bwd_none hb i)
 | some i'=>rw [snd_inj hn (bwd_some hb) h]
theorem put_out:∀ {δ:List (Nat×Option Blk)} {η:Heap} {k:Nat},k∉δ.map (·.1)→η.put δ k=η k
 | [],_,_,_=>rfl
 | p :: r,η,k,h=>by rw [List.map_cons,List.mem_cons] at h;have h1:k≠p.1:=fun e=>h (.inl e);show (η.set p.1 p.2).put r k=η k;rw [put_out (fun e=>h (.inr e)),Heap.set_other _ _ h1]
theorem put_in:∀ {δ:List (Nat×Option Blk)} {η:Heap} {k:Nat} {ob:Option Blk},(δ.map (·.1)).Nodup→(k,ob)∈δ→η.put δ k=ob
 | p :: r,η,k,ob,hn,h=>by rw [List.map_cons,List.nodup_cons] at hn;show (η.set p.1 p.2).put r k=ob;rcases List.mem_cons.1 h with e | h;subst e;rw [put_out hn.1,Heap.set_same];exact put_in hn.2 h
theorem heapO_in:∀ {l:List (Nat×Option Blk)} {i:Nat} {ob:Option Blk},(l.map (·.1)).Nodup→(i,ob)∈l→heapO l i=ob
 | p :: r,i,ob,hn,h=>by rw [List.map_cons,List.nodup_cons] at hn;rcases List.mem_cons.1 h with rfl | h;simp [heapO];have:i≠p.1:=fun e=>hn.1 (by rw [← e]; exact List.mem_map.2 ⟨(i,ob),h,rfl⟩);simp only [heapO,beq_ne this,cond_false];exact heapO_in hn.2 h
theorem heapO_out:∀ {l:List (Nat×Option Blk)} {i:Nat},i∉l.map (·.1)→heapO l i=none
 | [],_,_=>rfl
 | p :: r,i,h=>by rw [List.map_cons,List.mem_cons] at h;simp only [heapO,beq_ne (fun e=>h (.inl e)),cond_false];exact heapO_out (fun e=>h (.inr e))
theorem heapL_in:∀ {l:List (Nat×Blk)} {i:Nat},i∈l.map (·.1)→∃ b,hLz l i=some b∧(i,b)∈l
 | p :: r,i,h=>by by_cases e:i=p.1;subst e;exact ⟨p.2,by simp [hLz],by simp⟩;rw [List.map_cons,List.mem_cons] at h;obtain ⟨b,h1,h2⟩:=heapL_in (h.resolve_left e);exact ⟨b,by simp only [hLz,beq_ne e,cond_false]; exact h1,List.mem_cons_of_mem _ h2⟩
theorem heapL_out:∀ {l:List (Nat×Blk)} {i:Nat},i∉l.map (·.1)→hLz l i=none
 | [],_,_=>rfl
 | p :: r,i,h=>by rw [List.map_cons,List.mem_cons] at h;simp only [hLz,beq_ne (fun e=>h (.inl e)),cond_false];exact heapL_out (fun e=>h (.inr e))
def okBlk (K:List Nat) (b:Blk):Prop:=inL K b.cs=true∧(b.nilp=false∨b.cs=[]∨(∃ clock es,b.cs=mapCs clock es)∨∃ s p,b.cs=siterCs s p)
def okO (D:List Nat):Option Blk→Prop
 | some b=>inL D b.cs=true
 | none=>True
def allP {α:Type} (p:α→Prop):List α→Prop
 | []=>True
 | a :: r=>p a∧allP p r
theorem allP_iff {α:Type} {p:α→Prop}:∀ {l:List α},allP p l↔∀ a∈l,p a
 | []=>by simp [allP]
 | a :: r=>by simp [allP,allP_iff (l:=r)]
section
variable {P:Program} {τ:Nat→AV} {η:Heap} {d:Option Tmp} {ty:TypeId} {pos:String} {af:Array Edge} {g:Option (Nat×Bool)}
theorem handed {C:Ctx} (hg:Good C) {m:List (Nat×Nat)} {hb:List (Nat×Blk)} (hm2:(m.map (·.2)).Nodup) (hm1:(m.map (·.1)).Nodup) (hsub:∀ p∈hb,p.1∈m.map (·.1)) (hη:∀ p∈hb,C.η (gOf m p.1)=some (p.2.ren (gOf m))) (hok:∀ p∈hb,okBlk (hb.map (·.1)) p.2) :
 let C0:Ctx:=⟨fun i=>C.ρ (gOf m i),fun i=>C.sz (gOf m i),hLz hb,fun i=>i∈hb.map (·.1),C.T,C.w⟩
 Unrens (gOf m) (hb.map (·.1)) C C0∧Good C0∧∀ k,C0.mine k→∃ i,i∈hb.map (·.1)∧C.live (gOf m i)∧(C.ρ (gOf m i)).1=k:=by
 intro C0
 have hu:Unrens (gOf m) (hb.map (·.1)) C C0:=by refine ⟨fun _ _=>rfl,fun _ _=>rfl,fun i hi=>?_,fun _ hi=>hi,rfl,rfl⟩;obtain ⟨b,h1,h2⟩:=heapL_in hi;exact ⟨b,h1,hη _ h2⟩
 have hkey:∀ {i b},C0.η i=some b→i∈hb.map (·.1)∧(i,b)∈hb:=by intro i b hb';by_cases hi:i∈hb.map (·.1);obtain ⟨b1,h1,h2⟩:=heapL_in hi;have:C0.η i=some b1:=h1;rw [this] at hb';cases hb';exact ⟨hi,h2⟩;have:C0.η i=none:=heapL_out hi;rw [this] at hb';cases hb'
 have hlive:∀ {i},C0.live i→i∈hb.map (·.1)∧C.live (gOf m i):=by rintro i ⟨b,h1,h2⟩;obtain ⟨k1,k2⟩:=hkey h1;exact ⟨k1,_,hη _ k2,by rw [Blk.ren_kind]; exact h2⟩
 have hinj:∀ {i j},i∈hb.map (·.1)→j∈hb.map (·.1)→gOf m i=gOf m j→i=j:=by intro i j hi hj e;obtain ⟨p,hp,rfl⟩:=List.mem_map.1 hi;obtain ⟨q,hq,rfl⟩:=List.mem_map.1 hj;obtain ⟨⟨i',k⟩,h1,h2⟩:=List.mem_map.1 (hsub p hp);obtain ⟨⟨j',k'⟩,h3,h4⟩:=List.mem_map.1 (hsub q hq);simp only at h2 h4;subst h2 h4;rw [gOf_mem hm1 h1,gOf_mem hm1 h3] at e;subst e;exact snd_inj hm2 h1 h3
 refine ⟨hu,⟨fun h=>(hkey h).1,?_,?_,?_,hg.tok,?_,?_⟩,fun k ⟨i,hl,hk⟩=>⟨i,(hlive hl).1,(hlive hl).2,hk⟩⟩
 ·intro i b hb' hk
  obtain ⟨k1,k2⟩:=hkey hb'
  obtain ⟨o,h1,h2⟩:=hg.obj (hη _ k2) (by rw [Blk.ren_kind]; exact hk)
  obtain ⟨q1,q2⟩:=hok _ k2
  refine ⟨o,h1,ObjR.unren hu h2 q1 ?_⟩
  rcases q2 with h | h | h
  ·rw [Blk.k0 h] at hk; cases hk
  ·obtain ⟨_,h3⟩:=Blk.nil2 hk; exact absurd h h3
  ·exact h
 ·intro i b hb' hn
  obtain ⟨k1,k2⟩:=hkey hb'
  obtain ⟨c,t,g1,g2,g3,g4⟩:=hg.blk (hη _ k2) hn
  obtain ⟨q1,_⟩:=hok _ k2
  have hlen:(b.ren (gOf m)).cs.length=b.cs.length:=renL_len _
  refine ⟨c,t,g1,g2,by rw [← hlen]; exact g3,fun j h h'=>VR.unren hu _ _ (inL_at q1 j h) ?_⟩
  have:=g4 j (by rw [hlen]; exact h) h'
  have e:(b.ren (gOf m)).cs[j]'(by rw [hlen]; exact h)=(b.cs[j]).ren (gOf m):=renL_get _
  rw [e] at this
  exact this
 ·intro i j hi hj e
  exact hinj (hlive hi).1 (hlive hj).1 (hg.inj (hlive hi).2 (hlive hj).2 e)
 ·rintro k ⟨i,hl,hk⟩ hT
  exact hg.apart ⟨gOf m i,(hlive hl).2,hk⟩ hT
 ·intro i b hb' hv hn
  obtain ⟨k1,k2⟩:=hkey hb'
  have:=hg.tight (hη _ k2) hv hn
  have hlen:(b.ren (gOf m)).cs.length=b.cs.length:=renL_len _
  rw [hlen] at this
  exact this
end
end Go.Proofs.YtbhhmbchdponjaaGreatDoor
namespace Go.Proofs.YtbhhmbchdponjaaGreatDoor
set_option linter.unusedVariables false
set_option linter.unusedSimpArgs false
open Go.RowKit
section
variable {P:Program} {τ:Nat→AV} {η:Heap} {d:Option Tmp} {ty:TypeId} {pos:String} {af:Array Edge} {g:Option (Nat×Bool)}
def deltaH (m:List (Nat×Nat)) (hb':List (Nat×Option Blk)):List (Nat×Option Blk):=hb'.map fun p=>(gOf m p.1,p.2.map (Blk.ren (gOf m)))
theorem LOp.of_callH {o:Oper} {f:FuncId} {args:List AV} {hb:List (Nat×Blk)} {hb':List (Nat×Option Blk)} {ret:AV} (m:List (Nat×Nat)) (hc:HCall P f args hb hb' ret)
 (hm:m.map (·.1)=hb'.map (·.1)) (h1:nodupB (m.map (·.1))=true) (h2:nodupB (m.map (·.2))=true) (hsub:hb.all (fun p=>Nat.ble TOP p.1&&(m.map (·.1)).contains p.1)=true)
 (hη:allP (fun p=>η (gOf m p.1)=some (p.2.ren (gOf m))) hb) (hok:allP (fun p=>okBlk (hb.map (·.1)) p.2) hb) (hok':allP (fun p=>okO (m.map (·.1)) p.2) hb') (hargs:inL (hb.map (·.1)) args=true) (hret:ret.inB (m.map (·.1))=true)
 (h:∀ (C:Ctx) (a:Act),Good C→(∀ x∈o.op.operands,VR C (aev τ x) (a.eval x))→∃ vals,VRs C (renL (gOf m) args) vals∧(execOp a.eval o).run P C.w=.ok (.enter f vals) C.w) :
 LOp P o τ η (hb.map fun p=>gOf m p.1) (deltaH m hb') (ret.ren (gOf m)):=by
 intro C a hg hxs hfp hnew K Q hK
 have n1:=nodupB_iff.1 h1
 have n2:=nodupB_iff.1 h2
 have n3:(hb'.map (·.1)).Nodup:=hm ▸ n1
 have hsub':∀ p∈hb,TOP≤p.1∧p.1∈m.map (·.1):=fun p hp=>by
  have:=List.all_eq_true.1 hsub p hp
  rw [Bool.and_eq_true] at this
  exact ⟨Nat.le_of_ble_eq_true this.1,List.contains_iff_mem.1 this.2⟩
 have hη1:=allP_iff.1 hη
 have hok1:=allP_iff.1 hok
 have hok2:=allP_iff.1 hok'
 have hCη:∀ p∈hb,C.η (gOf m p.1)=some (p.2.ren (gOf m)):=fun p hp=>(hfp _ (List.mem_map.2 ⟨p,hp,rfl⟩)).trans (hη1 p hp)
 obtain ⟨hu,hg0,hmine0⟩:=handed hg n2 n1 (fun p hp=>(hsub' p hp).2) hCη hok1
 generalize hC0:(⟨fun i=>C.ρ (gOf m i),fun i=>C.sz (gOf m i),hLz hb,fun i=>i∈hb.map (·.1),C.T,C.w⟩:Ctx)=C0 at hu hg0 hmine0
 have eη:C0.η=hLz hb:=by rw [← hC0]
 have eU:∀ i,C0.U i↔i∈hb.map (·.1):=fun i=>by rw [← hC0]
 have eρ:∀ i,C0.ρ i=C.ρ (gOf m i):=fun i=>by rw [← hC0]
 have esz:∀ i,C0.sz i=C.sz (gOf m i):=fun i=>by rw [← hC0]
 have eT:C0.T=C.T:=by rw [← hC0]
 have ew:C0.w=C.w:=by rw [← hC0]
 obtain ⟨vals,⟨hvl,hv⟩,hrun⟩:=h C a hg hxs
 have hvals:VRs C0 args vals:=by
  rw [renL_len] at hvl
  refine ⟨hvl,fun i hi hi'=>VR.unren hu _ _ (inL_at hargs i hi) ?_⟩
  have:=hv i (by rw [renL_len]; exact hi) hi'
  rw [renL_get] at this
  exact this
 have hmine:∀ {k},C0.mine k→C.mine k:=fun hk=>by
  obtain ⟨i,_,hl,e⟩:=hmine0 _ hk
  exact ⟨_,hl,e⟩
 unfold Oper.wp
 rw [hrun]
 have hcall:=hc C0 vals hg0 eη (fun i hi=>by
  obtain ⟨p,hp,rfl⟩:=List.mem_map.1 ((eU i).1 hi)
  exact (hsub' p hp).1) hvals
 rw [ew] at hcall
 refine Calls.mono hcall ?_
 rintro e w' ⟨x,C1,rfl,rfl,hη',hg1,hfr,hx⟩
 -- the caller's blocks after the call
 let C2:Ctx:=⟨fun k=>match bwd m k with | some i=>C1.ρ i | none=>C.ρ k,fun k=>match bwd m k with | some i=>C1.sz i | none=>C.sz k,
  fun k=>match bwd m k with | some i=>(C1.η i).map (Blk.ren (gOf m)) | none=>C.η k,fun k=>C.U k∨(bwd m k).isSome=true,C1.T,C1.w⟩
 have hgm:∀ {i k},(i,k)∈m→gOf m i=k:=fun h=>gOf_mem n1 h
 have hD:∀ {i},i∈m.map (·.1)→bwd m (gOf m i)=some i:=by
  intro i hi
  obtain ⟨⟨i',k⟩,h3,h4⟩:=List.mem_map.1 hi
  simp only at h4; subst h4
  rw [hgm h3]; exact bwd_of n2 h3
 have hren:Rens (m.map (·.1)) (gOf m) C1 C2:=by
  refine ⟨fun i hi=>?_,fun i hi=>?_,fun i hi=>?_,fun i hi=>?_,rfl,rfl⟩
  ·simp only [C2,hD hi]
  ·simp only [C2,hD hi]
  ·simp only [C2,hD hi]
  ·simp only [C2,hD hi]; exact .inr rfl
 have hin1:∀ {i b},C1.η i=some b→i∈m.map (·.1)∧(i,some b)∈hb':=by
  intro i b hb1
  rw [hη'] at hb1
  by_cases hi:i∈hb'.map (·.1)
  ·obtain ⟨⟨i',ob⟩,h3,h4⟩:=List.mem_map.1 hi
   simp only at h4; subst h4
   have:=heapO_in n3 h3
   rw [this] at hb1; subst hb1
   exact ⟨hm ▸ hi,h3⟩
  ·rw [heapO_out hi] at hb1; cases hb1
 have hcells:∀ {i b},C1.η i=some b→inL (m.map (·.1)) b.cs=true:=fun hb1=>hok2 _ (hin1 hb1).2
 -- live blocks
 have hl2:∀ {k b},C2.η k=some b→(∃ i b1,bwd m k=some i∧C1.η i=some b1∧b=b1.ren (gOf m))∨(bwd m k=none∧C.η k=some b):=by
  intro k b hb2
  cases hbw:bwd m k with
  | none=>right; refine ⟨rfl,?_⟩; simpa only [C2,hbw] using hb2
  | some i=>
   left
   have:(C1.η i).map (Blk.ren (gOf m))=some b:=by simpa only [C2,hbw] using hb2
   cases hc1:C1.η i with
   | none=>rw [hc1] at this; cases this
   | some b1=>rw [hc1] at this; simp only [Option.map_some,Option.some.injEq] at this; exact ⟨i,b1,rfl,hc1,this.symm⟩
 have hnot0:∀ {k},bwd m k=none→C.live k→¬ C0.mine (C.ρ k).1:=by
  intro k hbw hl hm0
  obtain ⟨i,hi,hl',e⟩:=hmine0 _ hm0
  have:=hg.inj hl' hl e
  subst this
  obtain ⟨p,hp,rfl⟩:=List.mem_map.1 hi
  rw [hD (hsub' p hp).2] at hbw
  cases hbw
 have hlt:∀ {k},C.live k→(C.ρ k).1 < C0.w.heap.size:=fun hl=>by rw [ew]; exact hg.lt hl
 have hm1c:∀ {k},C1.mine k→C.mine k∨C.w.heap.size≤k:=fun hk=>(hfr.mine _ hk).imp hmine (fun h=>by rw [ew] at h; exact h)
 have hev:Ev C C2:=by
  refine ⟨⟨?_,?_,?_,?_,?_,?_,?_,?_⟩,fun _ h=>.inl h,?_⟩
  ·have:=hfr.os; rw [ew] at this; exact this
  ·have:=hfr.tape; rw [ew] at this; exact this
  ·have:=hfr.output; rw [ew] at this; exact this
  ·have:=hfr.size; rw [ew] at this; exact this
  ·intro k hk hn
   have:=hfr.keep k (by rw [ew]; exact hk) (fun h=>hn (hmine h))
   rw [ew] at this; exact this
  ·rintro k ⟨id,⟨b,hb2,hk2⟩,rfl⟩
   rcases hl2 hb2 with ⟨i,b1,e1,e2,rfl⟩ | ⟨e1,e2⟩
   ·have e3:C2.ρ id=C1.ρ i:=by simp only [C2,e1]
    rw [e3]
    exact hm1c ⟨i,⟨b1,e2,by rw [Blk.ren_kind] at hk2; exact hk2⟩,rfl⟩
   ·have e3:C2.ρ id=C.ρ id:=by simp only [C2,e1]
    rw [e3]
    exact .inl ⟨id,⟨b,e2,hk2⟩,rfl⟩
  ·intro k hk
   exact hfr.T k (by rw [eT]; exact hk)
  ·intro k hk
   rcases hfr.Tnew k hk with h | h | h
   ·exact .inl (by rw [← eT]; exact h)
   ·exact .inr (.inl (hmine h))
   ·exact .inr (.inr (by rw [← ew]; exact h))
  ·intro id b' hU hb2
   rcases hl2 hb2 with ⟨i,b1,e1,e2,rfl⟩ | ⟨e1,e2⟩
   ·have hmem:=bwd_some e1
    have hgi:=hgm hmem
    by_cases hi:i∈hb.map (·.1)
    ·have hTi:TOP≤i:=by obtain ⟨p,hp,rfl⟩:=List.mem_map.1 hi; exact (hsub' p hp).1
     obtain ⟨_,hold⟩:=hfr.pin i hTi ((eU i).2 hi)
     obtain ⟨b0,q1,q2,q3⟩:=hold b1 e2
     obtain ⟨b0',q4,q5⟩:=hu.η i hi
     rw [q1] at q4; cases q4
     rw [hgi] at q5
     refine ⟨_,q5,q2,fun e=>?_⟩
     obtain ⟨r1,r2,r3,r4⟩:=q3 e
     refine ⟨?_,?_,by rw [Blk.ren_kind,Blk.ren_kind]; exact r3,r4⟩
     ·simp only [C2,e1]; rw [r1,eρ,hgi]
     ·simp only [C2,e1]; rw [r2,esz,hgi]
    ·exfalso
     have hmem':i∈m.map (·.1):=List.mem_map.2 ⟨_,hmem,rfl⟩
     obtain ⟨ob,hob⟩:∃ ob,(i,ob)∈hb':=by
      rw [hm] at hmem'
      obtain ⟨⟨i',ob⟩,h3,h4⟩:=List.mem_map.1 hmem'
      simp only at h4; subst h4
      exact ⟨ob,h3⟩
     refine hnew (gOf m i,ob.map (Blk.ren (gOf m))) (List.mem_map.2 ⟨(i,ob),hob,rfl⟩) (fun hfpi=>?_) (by rw [hgi]; exact hU)
     obtain ⟨p,hp,e⟩:=List.mem_map.1 hfpi
     have h5:=hD (hsub' p hp).2
     simp only at e
     rw [e,hD hmem'] at h5
     exact hi (List.mem_map.2 ⟨p,hp,(Option.some.inj h5).symm⟩)
   ·refine ⟨b',e2,Nat.le_refl _,fun _=>⟨?_,?_,rfl,rfl⟩⟩
    ·simp only [C2,e1]
    ·simp only [C2,e1]
 have hkeep:∀ {k},bwd m k=none→C.live k→C1.w.heap[(C.ρ k).1]? = C.w.heap[(C.ρ k).1]?:=fun hbw hl=>by
  have:=hfr.keep _ (hlt hl) (hnot0 hbw hl)
  rw [ew] at this; exact this
 have hgood:Good C2:=by
  refine ⟨?_,?_,?_,?_,hg1.tok,?_,?_⟩
  ·intro k b hb2
   rcases hl2 hb2 with ⟨i,b1,e1,e2,rfl⟩ | ⟨e1,e2⟩
   ·exact .inr (by simp [e1])
   ·exact .inl (hg.used e2)
  ·intro k b hb2 hk
   rcases hl2 hb2 with ⟨i,b1,e1,e2,rfl⟩ | ⟨e1,e2⟩
   ·have e3:C2.ρ k=C1.ρ i:=by simp only [C2,e1]
    obtain ⟨ob,q1,q2⟩:=hg1.obj e2 (by rw [Blk.ren_kind] at hk; exact hk)
    rw [e3]
    exact ⟨ob,q1,q2.ren hren (hcells e2)⟩
   ·have e3:C2.ρ k=C.ρ k:=by simp only [C2,e1]
    obtain ⟨ob,q1,q2⟩:=hg.obj e2 hk
    rw [e3]
    exact ⟨ob,(hkeep e1 ⟨b,e2,by rw [hk]; decide⟩).trans q1,q2.mono hg hev⟩
  ·intro k b hb2 hn
   rcases hl2 hb2 with ⟨i,b1,e1,e2,rfl⟩ | ⟨e1,e2⟩
   ·have e3:C2.ρ k=C1.ρ i:=by simp only [C2,e1]
    have e4:C2.sz k=C1.sz i:=by simp only [C2,e1]
    have hlen:(b1.ren (gOf m)).cs.length=b1.cs.length:=renL_len _
    obtain ⟨c,t,q1,q2,q3,q4⟩:=hg1.blk e2 hn
    rw [e3,e4]
    refine ⟨c,t,q1,q2,by rw [hlen]; exact q3,fun j hj hj'=>?_⟩
    have hj2:j < b1.cs.length:=by rw [hlen] at hj; exact hj
    have e5:(b1.ren (gOf m)).cs[j]'hj=(b1.cs[j]).ren (gOf m):=renL_get hj
    rw [e5]
    exact (q4 j hj2 hj').ren hren (inL_at (hcells e2) j hj2)
   ·have e3:C2.ρ k=C.ρ k:=by simp only [C2,e1]
    have e4:C2.sz k=C.sz k:=by simp only [C2,e1]
    obtain ⟨c,t,q1,q2,q3,q4⟩:=hg.blk e2 hn
    rw [e3,e4]
    exact ⟨c,t,(hkeep e1 ⟨b,e2,Blk.k0' hn⟩).trans q1,q2,q3,fun j hj hj'=>(q4 j hj hj').mono hg hev⟩
  ·rintro k k' ⟨b,hb2,hk2⟩ ⟨b',hb2',hk2'⟩ e
   rcases hl2 hb2 with ⟨i,b1,e1,e2,rfl⟩ | ⟨e1,e2⟩ <;> rcases hl2 hb2' with ⟨i',b1',e1',e2',rfl⟩ | ⟨e1',e2'⟩
   ·have f1:C2.ρ k=C1.ρ i:=by simp only [C2,e1]
    have f2:C2.ρ k'=C1.ρ i':=by simp only [C2,e1']
    rw [f1,f2] at e
    have:=hg1.inj ⟨b1,e2,by rw [Blk.ren_kind] at hk2; exact hk2⟩ ⟨b1',e2',by rw [Blk.ren_kind] at hk2'; exact hk2'⟩ e
    subst this
    rw [← hgm (bwd_some e1),← hgm (bwd_some e1')]
   ·exfalso
    have f1:C2.ρ k=C1.ρ i:=by simp only [C2,e1]
    have f2:C2.ρ k'=C.ρ k':=by simp only [C2,e1']
    rw [f1,f2] at e
    have hm1:C1.mine (C1.ρ i).1:=⟨i,⟨b1,e2,by rw [Blk.ren_kind] at hk2; exact hk2⟩,rfl⟩
    rcases hfr.mine _ hm1 with q | q
    ·rw [e] at q; exact hnot0 e1' ⟨b',e2',hk2'⟩ q
    ·have:=hlt ⟨b',e2',hk2'⟩; omega
   ·exfalso
    have f1:C2.ρ k'=C1.ρ i':=by simp only [C2,e1']
    have f2:C2.ρ k=C.ρ k:=by simp only [C2,e1]
    rw [f1,f2] at e
    have hm1:C1.mine (C1.ρ i').1:=⟨i',⟨b1',e2',by rw [Blk.ren_kind] at hk2'; exact hk2'⟩,rfl⟩
    rcases hfr.mine _ hm1 with q | q
    ·rw [← e] at q; exact hnot0 e1 ⟨b,e2,hk2⟩ q
    ·have:=hlt ⟨b,e2,hk2⟩; omega
   ·have f1:C2.ρ k=C.ρ k:=by simp only [C2,e1]
    have f2:C2.ρ k'=C.ρ k':=by simp only [C2,e1']
    rw [f1,f2] at e
    exact hg.inj ⟨b,e2,hk2⟩ ⟨b',e2',hk2'⟩ e
  ·rintro k ⟨id,⟨b,hb2,hk2⟩,rfl⟩ hT
   rcases hl2 hb2 with ⟨i,b1,e1,e2,rfl⟩ | ⟨e1,e2⟩
   ·have f1:C2.ρ id=C1.ρ i:=by simp only [C2,e1]
    rw [f1] at hT
    exact hg1.apart ⟨i,⟨b1,e2,by rw [Blk.ren_kind] at hk2; exact hk2⟩,rfl⟩ hT
   ·have f1:C2.ρ id=C.ρ id:=by simp only [C2,e1]
    rw [f1] at hT
    rcases hfr.Tnew _ hT with q | q | q
    ·rw [eT] at q; exact hg.apart ⟨id,⟨b,e2,hk2⟩,rfl⟩ q
    ·exact hnot0 e1 ⟨b,e2,hk2⟩ q
    ·have:=hlt ⟨b,e2,hk2⟩; omega
  ·intro k b hb2 hv hn
   rcases hl2 hb2 with ⟨i,b1,e1,e2,rfl⟩ | ⟨e1,e2⟩
   ·have e3:C2.ρ k=C1.ρ i:=by simp only [C2,e1]
    have e4:C2.sz k=C1.sz i:=by simp only [C2,e1]
    have hlen:(b1.ren (gOf m)).cs.length=b1.cs.length:=renL_len _
    rw [e3,e4,hlen]
    exact hg1.tight e2 hv hn
   ·have e3:C2.ρ k=C.ρ k:=by simp only [C2,e1]
    have e4:C2.sz k=C.sz k:=by simp only [C2,e1]
    rw [e3,e4]
    exact hg.tight e2 hv hn
 -- what is written
 have hids:(deltaH m hb').map (·.1)=m.map (·.2):=by
  have e1:(deltaH m hb').map (·.1)=(hb'.map (·.1)).map (gOf m):=by simp [deltaH,Function.comp_def]
  rw [e1,← hm,List.map_map]
  exact List.map_congr_left (fun p hp=>hgm (show (p.1,p.2)∈m from hp))
 have hput:C2.η=C.η.put (deltaH m hb'):=by
  funext k
  cases hbw:bwd m k with
  | none=>
   rw [put_out (by
    rw [hids]
    intro hk
    obtain ⟨p,hp,rfl⟩:=List.mem_map.1 hk
    exact bwd_none hbw p.1 hp)]
   simp only [C2,hbw]
  | some i=>
   have hmem:=bwd_some hbw
   have hmem':i∈hb'.map (·.1):=hm ▸ List.mem_map.2 ⟨_,hmem,rfl⟩
   obtain ⟨⟨i',ob⟩,h3,h4⟩:=List.mem_map.1 hmem'
   simp only at h4; subst h4
   have h5:(gOf m i',ob.map (Blk.ren (gOf m)))∈deltaH m hb':=List.mem_map.2 ⟨_,h3,rfl⟩
   rw [hgm hmem] at h5
   rw [put_in (by rw [hids]; exact n2) h5]
   simp only [C2,hbw,hη',heapO_in n3 h3]
 refine hK x C2 hput (fun k=>?_) hgood hev (hx.ren hren hret)
 rw [hids]
 constructor
 ·rintro (hk | hk)
  ·exact .inl hk
  ·obtain ⟨i,hi⟩:=Option.isSome_iff_exists.1 hk
   exact .inr (List.mem_map.2 ⟨_,bwd_some hi,rfl⟩)
 ·rintro (hk | hk)
  ·exact .inl hk
  ·obtain ⟨⟨i,k'⟩,hp,rfl⟩:=List.mem_map.1 hk
   exact .inr (by rw [bwd_of n2 hp]; rfl)
theorem LOp.callH {f:FuncId} {xs:Array Operand} {ats:Array TypeId} {args:List AV} {hb:List (Nat×Blk)} {hb':List (Nat×Option Blk)} {ret r:AV} {fp:List Nat} {δ:List (Nat×Option Blk)} (m:List (Nat×Nat)) (hbd:bodied P f=true) (hc:HCall P f args hb hb' ret)
 (hm:m.map (·.1)=hb'.map (·.1)) (h1:nodupB (m.map (·.1))=true) (h2:nodupB (m.map (·.2))=true) (hsub:hb.all (fun p=>Nat.ble TOP p.1&&(m.map (·.1)).contains p.1)=true)
 (hη:allP (fun p=>η (gOf m p.1)=some (p.2.ren (gOf m))) hb) (hok:allP (fun p=>okBlk (hb.map (·.1)) p.2) hb) (hok':allP (fun p=>okO (m.map (·.1)) p.2) hb') (hargs:inL (hb.map (·.1)) args=true) (hret:ret.inB (m.map (·.1))=true)
 (hxs:xs.toList.map (aev τ)=renL (gOf m) args) (hfp:(hb.map fun p=>gOf m p.1)=fp) (hδ:deltaH m hb'=δ) (hr:ret.ren (gOf m)=r) :
 LOp P ⟨d,.call { callee:=.value (.func f),args:=xs,argTypes:=ats },ty,pos,af,g⟩ τ η fp δ r:=by
 subst hfp hδ hr
 refine LOp.of_callH m hc hm h1 h2 hsub hη hok hok' hargs hret fun C a hg hx=>⟨xs.map a.eval,?_,?_⟩
 ·rw [← hxs]
  refine ⟨by simp,fun i h h'=>?_⟩
  simp only [List.getElem_map,Array.getElem_toList,Array.getElem_map]
  exact hx _ (by simp [Op.operands,Call.operands])
 ·have:execOp a.eval ⟨d,.call { callee:=.value (.func f),args:=xs,argTypes:=ats },ty,pos,af,g⟩=callFunc f (#[]++xs.map a.eval++#[]):=rfl
  rw [this,run_callFunc' hbd]
  simp
end
end Go.Proofs.YtbhhmbchdponjaaGreatDoor
namespace Go.Proofs.YtbhhmbchdponjaaGreatDoor
set_option linter.unusedVariables false
set_option linter.unusedSimpArgs false
open Go.RowKit
theorem VR.shift {C C':Ctx} (hρ:C'.ρ=C.ρ) (hsz:C'.sz=C.sz) (hw:C'.w=C.w) (hU:C'.U=C.U) (hT:∀ b,C.T b→C'.T b) (hused:∀ {id b},C.η id=some b→C.U id)
 (hη:∀ id b',C'.η id=some b'→∃ b,C.η id=some b∧b'.ver=b.ver∧b'.nilp=b.nilp∧b'.kind=b.kind∧b'.esz=b.esz) {a:AV} {x:Value} (h:VR C a x):VR C' a x:=by
 have st:∀ {id ver:Nat},(∀ b,C.η id=some b→ver < b.ver)→∀ b,C'.η id=some b→ver < b.ver:=by
  intro id ver h b hb
  obtain ⟨b0,h0,h1,_⟩:=hη id b hb
  rw [h1]; exact h b0 h0
 have keep:∀ {id:Nat} {b:Blk},C.η id=some b→(∃ b',C'.η id=some b'∧b'.ver=b.ver∧b'.nilp=b.nilp∧b'.kind=b.kind∧b'.esz=b.esz)∨C'.η id=none:=by
  intro id b hb
  cases h':C'.η id with
  | none=>exact .inr rfl
  | some b'=>
   obtain ⟨b0,h0,hh⟩:=hη id b' h'
   rw [hb] at h0; cases h0
   exact .inl ⟨b',rfl,hh⟩
 induction h with
 | imm h=>exact .imm (h.mono hT (fun _ _=>by rw [hw]))
 | ptr hb he hn=>
  rcases keep hb with ⟨b',h',e1,e2,e3,e4⟩ | h'
  ·rw [← hρ]; exact .ptr h' (e1.trans he) (e2.trans hn)
  ·exact .stalep rfl (by rw [hU]; exact hused hb) (fun b hb'=>by rw [h'] at hb'; cases hb')
 | sl hb he hn h1 h2 h3 h4=>
  rcases keep hb with ⟨b',h',e1,e2,e3,e4⟩ | h'
  ·rw [← hρ]; exact .sl h' (e1.trans he) (e2.trans hn) h1 h2 h3 (by rw [hρ,hsz,e4]; exact h4)
  ·exact .stales rfl (by rw [hU]; exact hused hb) (fun b hb'=>by rw [h'] at hb'; cases hb')
 | slz hb he hn=>
  rcases keep hb with ⟨b',h',e1,e2,e3,e4⟩ | h'
  ·exact .slz h' (e1.trans he) (e2.trans hn)
  ·exact .stales rfl (by rw [hU]; exact hused hb) (fun b hb'=>by rw [h'] at hb'; cases hb')
 | slnil hb he hn=>
  rcases keep hb with ⟨b',h',e1,e2,e3,e4⟩ | h'
  ·exact .slnil h' (e1.trans he) (e3.trans hn)
  ·exact .stales rfl (by rw [hU]; exact hused hb) (fun b hb'=>by rw [h'] at hb'; cases hb')
 | mp hb he hn=>
  rcases keep hb with ⟨b',h',e1,e2,e3,e4⟩ | h'
  ·rw [← hρ]; exact .mp h' (e1.trans he) (e3.trans hn)
  ·exact .stalem rfl (by rw [hU]; exact hused hb) (fun b hb'=>by rw [h'] at hb'; cases hb')
 | it hb he hn=>
  rcases keep hb with ⟨b',h',e1,e2,e3,e4⟩ | h'
  ·rw [← hρ]; exact .it h' (e1.trans he) (e3.trans hn)
  ·exact .stalei rfl (by rw [hU]; exact hused hb) (fun b hb'=>by rw [h'] at hb'; cases hb')
 | stalem h1 hu hs=>exact .stalem h1 (by rw [hU]; exact hu) (st hs)
 | stalei h1 hu hs=>exact .stalei h1 (by rw [hU]; exact hu) (st hs)
 | stalep h1 hu hs=>exact .stalep h1 (by rw [hU]; exact hu) (st hs)
 | stales h1 hu hs=>exact .stales h1 (by rw [hU]; exact hu) (st hs)
 | agg hl _ ih=>exact .agg hl ih
 | tup hl _ ih=>exact .tup hl ih
 | clo hl _ ih=>exact .clo hl ih
theorem ObjR.shift {C C':Ctx} (h:∀ {a:AV} {x:Value},VR C a x→VR C' a x) {cs:List AV} {o:Obj} (ho:ObjR C cs o):ObjR C' cs o:=by
 cases ho with
 | map hl hi=>exact .map hl (fun i h1 h2=>⟨(hi i h1 h2).1,h (hi i h1 h2).2.1,(hi i h1 h2).2.2⟩)
 | siter=>exact .siter
 | miter0=>exact .miter0
 | miter hv=>exact .miter (h hv)
inductive FzC (fp:List Nat) (η:Heap):List AV→List AV→Prop where
 | nil:FzC fp η [] []
 | same {a:AV} {cs ds:List AV}:FzC fp η cs ds→FzC fp η (a :: cs) (a :: ds)
 | fz {a r:AV} {cs ds:List AV}:FzP fp η a r→FzC fp η cs ds→FzC fp η (a :: cs) (r :: ds)
theorem FzC.refl {fp:List Nat} {η:Heap}:∀ l:List AV,FzC fp η l l
 | []=>.nil
 | _ :: r=>.same (FzC.refl r)
theorem FzC.len {fp:List Nat} {η:Heap} {cs ds:List AV} (h:FzC fp η cs ds):cs.length=ds.length:=by
 induction h with
 | nil=>rfl
 | same _ ih=>simp [ih]
 | fz _ _ ih=>simp [ih]
theorem FzC.at {fp:List Nat} {η:Heap} {cs ds:List AV} (h:FzC fp η cs ds):∀ (i:Nat) (h1:i < cs.length) (h2:i < ds.length),ds[i]=cs[i]∨FzP fp η cs[i] ds[i]:=by
 induction h with
 | nil=>intro i h1; simp at h1
 | same _ ih=>intro i h1 h2; cases i with
  | zero=>exact .inl rfl
  | succ i=>simpa using ih i (by simpa using h1) (by simpa using h2)
 | fz hf _ ih=>intro i h1 h2; cases i with
  | zero=>exact .inr hf
  | succ i=>simpa using ih i (by simpa using h1) (by simpa using h2)
inductive RetFz (fp:List Nat) (η:Heap):AV→AV→Prop where
 | same {a:AV}:RetFz fp η a a
 | fz {a r:AV}:FzP fp η a r→RetFz fp η a r
 | tup {cs ds:List AV}:FzC fp η cs ds→RetFz fp η (.tup cs) (.tup ds)
inductive Left (fp:List Nat) (η:Heap):Nat×Option Blk→Prop where
 | gone {i:Nat}:Left fp η (i,none)
 | same {i:Nat} {b:Blk}:η i=some b→i∉fp→Left fp η (i,some b)
 | cells {i ver ez:Nat} {cs ds:List AV}:η i=some ⟨ver,cs,ez,false⟩→i∉fp→FzC fp η cs ds→Left fp η (i,some ⟨ver,ds,ez,false⟩)
def ResIs (P:Program) (N:Nat) (fn:Func) (s:St) (a0:AV):Prop:=∀ C a,SRel N C s a→∃ x,(results fn a.tmps).run P C.w=.ok x C.w∧VR C a0 x
theorem SRel.toX {N:Nat} {C:Ctx} {s:St} {a:Act} (h:SRel N C s a):SRelX [] (fun _=>True) s.u N C s a:=⟨h.good,fun id _=>by rw [h.η],fun id h1 h2=>by omega,h.defers,h.size,h.τ⟩
theorem ResIs.all {P:Program} {N:Nat} {fn:Func} {s:St} {vs:List AV} (h:AllX P (fun _=>True) s.u N s fn.results.toList vs):ResIs P N fn s (pack vs):=fun C a hr=>OutsX.of_all h [] C a hr.toX
theorem ResIs.res {P:Program} {N:Nat} {fn:Func} {s:St} {vs:List AV} {rs:Array ResultVar} (hr:fn.results=rs) (h:AllX P (fun _=>True) s.u N s rs.toList vs):ResIs P N fn s (pack vs):=ResIs.all (by rw [hr]; exact h)
def OutsH (P:Program) (N:Nat) (fn:Func) (s:St) (hb':List (Nat×Option Blk)) (ret:AV):Prop :=
 ∀ C a,SRel N C s a→∃ x C',(results fn a.tmps).run P C.w=.ok x C.w∧C'.w=C.w∧C'.η=heapO hb'∧Good C'∧Fr C C'∧VR C' ret x
theorem OutsH.of {P:Program} {N:Nat} {fn:Func} {s:St} {hb':List (Nat×Option Blk)} {a0 ret:AV} (fp:List Nat) (hres:ResIs P N fn s a0) (hn:nodupB (hb'.map (·.1))=true) (hl:allP (Left fp s.η) hb') (hr:RetFz fp s.η a0 ret):OutsH P N fn s hb' ret:=by
 intro C a hs
 have n:=nodupB_iff.1 hn
 have hl1:=allP_iff.1 hl
 obtain ⟨x,h1,h2⟩:=hres C a hs
 let C':Ctx:={ C with η:=heapO hb',T:=fun b=>C.T b∨C.mineOf fp b }
 have hin:∀ {i b},heapO hb' i=some b→(i,some b)∈hb':=by
  intro i b hb1
  by_cases hi:i∈hb'.map (·.1)
  ·obtain ⟨⟨i',ob⟩,h3,h4⟩:=List.mem_map.1 hi
   simp only at h4; subst h4
   have:=heapO_in n h3
   rw [this] at hb1; subst hb1
   exact h3
  ·rw [heapO_out hi] at hb1; cases hb1
 have hold:∀ {i b'},heapO hb' i=some b'→∃ b,C.η i=some b∧i∉fp∧b'.ver=b.ver∧b'.nilp=b.nilp∧b'.kind=b.kind∧b'.esz=b.esz∧FzC fp s.η b.cs b'.cs∧(b'.nilp=true→b'.cs=b.cs):=by
  intro i b' hb1
  have:=hl1 _ (hin hb1)
  cases this with
  | same h3 h4=>exact ⟨b',by rw [hs.η]; exact h3,h4,rfl,rfl,rfl,rfl,FzC.refl _,fun _=>rfl⟩
  | @cells _ ver ez cs ds h3 h4 h5=>exact ⟨⟨ver,cs,ez,false⟩,by rw [hs.η]; exact h3,h4,rfl,rfl,(Blk.k0 rfl).trans (Blk.k0 rfl).symm,rfl,h5,fun e=>by cases e⟩
 have hvr:∀ {a:AV} {x:Value},VR C a x→VR C' a x:=fun hv=>VR.shift (C:=C) (C':=C') rfl rfl rfl rfl (fun b hb=>.inl hb) hs.good.used (fun id b' hb=>by
  obtain ⟨b,q1,_,q2,q3,q4,q5,_⟩:=hold hb
  exact ⟨b,q1,q2,q3,q4,q5⟩) hv
 have hfz:∀ {a r:AV} {x:Value},FzP fp s.η a r→VR C a x→VR C' r x:=fun hf hv=>.imm (hf C hs.good (fun id _=>by rw [hs.η]) _ hv)
 have hlive:∀ {i},C'.live i→C.live i∧i∉fp:=by
  rintro i ⟨b',hb1,hk⟩
  obtain ⟨b,q1,q0,q2,q3,q4,_⟩:=hold hb1
  exact ⟨⟨b,q1,by rw [← q4]; exact hk⟩,q0⟩
 refine ⟨x,C',h1,rfl,rfl,⟨?_,?_,?_,?_,?_,?_,?_⟩,⟨⟨rfl,rfl,rfl,Nat.le_refl _,fun _ _ _=>rfl,fun k ⟨i,q1,q2⟩=>.inl ⟨i,(hlive q1).1,q2⟩,fun k h=>.inl h,fun k h=>?_⟩,?_⟩,?_⟩
 ·intro i b' hb1
  obtain ⟨b,q1,_⟩:=hold hb1
  exact hs.good.used q1
 ·intro i b' hb1 hk
  obtain ⟨b,q1,_,q2,q3,q4,_,_,q5⟩:=hold hb1
  obtain ⟨o,g1,g2⟩:=hs.good.obj q1 (by rw [← q4]; exact hk)
  refine ⟨o,g1,?_⟩
  rw [q5 (Blk.nil2 hk).1]
  exact ObjR.shift hvr g2
 ·intro i b' hb1 hn'
  obtain ⟨b,q1,_,q2,q3,q4,_,q5,_⟩:=hold hb1
  obtain ⟨c,t,g1,g2,g3,g4⟩:=hs.good.blk q1 (by rw [← q3]; exact hn')
  have hlen:=q5.len
  refine ⟨c,t,g1,g2,by rw [← hlen]; exact g3,fun j hj hj'=>?_⟩
  have:=g4 j (by omega) hj'
  rcases q5.at j (by omega) hj with e | e
  ·rw [e]; exact hvr this
  ·exact hfz e this
 ·intro i j hi hj e
  exact hs.good.inj (hlive hi).1 (hlive hj).1 e
 ·refine hs.good.tokT (fun _ h=>.inl h) ?_
  rintro k (hk | hk)
  ·exact hs.good.tlt hk
  ·exact Ctx.mine_lt hs.good (Ctx.mineOf_mine hk)
 ·rintro k ⟨i,hl',hk⟩ (hT | ⟨i',hi',hl'',e⟩)
  ·exact hs.good.apart ⟨i,(hlive hl').1,hk⟩ hT
  ·have:i'=i:=hs.good.inj hl'' (hlive hl').1 (e.trans hk.symm)
   subst this
   exact (hlive hl').2 hi'
 ·intro i b' hb1 hv hn'
  obtain ⟨b,q1,_,q2,q3,q4,_,q5,_⟩:=hold hb1
  have:=hs.good.tight q1 (q2 ▸ hv) (by rw [← q3]; exact hn')
  rw [← q5.len]; exact this
 ·rcases h with h | h
  ·exact .inl h
  ·exact .inr (.inl (Ctx.mineOf_mine h))
 ·intro id _ hu
  refine ⟨hu,fun b' hb1=>?_⟩
  obtain ⟨b,q1,_,q2,q3,q4,q5,_⟩:=hold hb1
  exact ⟨b,q1,by omega,fun _=>⟨rfl,rfl,q4,q5⟩⟩
 ·cases hr with
  | same=>exact hvr h2
  | fz hf=>exact hfz hf h2
  | tup hf=>
   obtain ⟨vs,rfl,hl1,hi1⟩:=h2.tup_inv'
   have hlen:=hf.len
   refine .tup (by omega) (fun i hi hi'=>?_)
   have:=hi1 i (by omega) hi'
   rcases hf.at i (by omega) hi with e | e
   ·rw [e]; exact hvr this
   ·exact hfz e this
theorem HCall.of_body {P:Program} {f:FuncId} {fn:Func} {c:Code} {N:Nat} {args:List AV} {hb:List (Nat×Blk)} {hb':List (Nat×Option Blk)} {ret:AV} (hf:P.funcs[f]? = some fn) (hbd:fn.body=some c) (hN:fn.ntmps=N) (hl:args.length≤N)
 (h:AWP P N c (fun e s'=>(e=.normal∨e=.ret)∧OutsH P N fn s' hb' ret) ⟨frameOf args,hLz hb,0⟩):HCall P f args hb hb' ret:=by
 intro C vals hg hη hU ⟨hlen,hv⟩
 have hr:SRel N C ⟨frameOf args,hLz hb,0⟩ { tmps:=vals++Array.replicate (fn.ntmps - vals.size) undef,defers:=[] }:=by refine ⟨hg,hη,fun id h=>.inr (hU id h),rfl,by simp; omega,fun t=>?_⟩;simp only [Act.eval,frameOf];by_cases ht:t < args.length;have h1:args.getD t (.v undef)=args[t]:=(by simp [List.getD,ht]);have h2:(vals++Array.replicate (fn.ntmps - vals.size) undef).getD t undef=vals[t]'(by omega):=(by rw [Array.getD_eq_getD_getElem?,Array.getElem?_append_left (by omega)];simp [show t < vals.size by omega]);rw [h1,h2];exact hv t ht (by omega);have h1:args.getD t (.v undef)=.v undef:=(by simp [List.getD,List.getElem?_eq_none (Nat.le_of_not_lt ht)]);have h2:(vals++Array.replicate (fn.ntmps - vals.size) undef).getD t undef=undef:=(by rw [Array.getD_eq_getD_getElem?,Array.getElem?_append_right (by omega)];rw [Array.getElem?_replicate];split <;> rfl);rw [h1,h2];exact VR.v _ _
 refine calls_of_wp hf hbd (Code.wp_mono ?_ (h C _ hr))
 rintro e a' w' ⟨s',C',⟨he,ho⟩,rfl,hr',hfr⟩
 obtain ⟨x,C2,h1,h2,h3,h4,h5,h6⟩:=ho C' a' hr'
 have hgive:∃ x' C'',(Ending.returned x)=.returned x'∧C''.w=C'.w∧C''.η=heapO hb'∧Good C''∧Fr C C''∧VR C'' ret x':=⟨x,C2,rfl,h2,h3,h4,hfr.trans h5,h6⟩
 rcases he with rfl | rfl
 ·exact ⟨hr'.defers,x,h1,hgive⟩
 ·exact ⟨hr'.defers,x,h1,hgive⟩
end Go.Proofs.YtbhhmbchdponjaaGreatDoor
namespace Go.Proofs.YtbhhmbchdponjaaGreatDoor
set_option linter.unusedVariables false
set_option linter.unusedSimpArgs false
open Go.RowKit Go.Sort
end Go.Proofs.YtbhhmbchdponjaaGreatDoor
namespace Go.Proofs.YtbhhmbchdponjaaGreatDoor
set_option linter.unusedVariables false
set_option linter.unusedSimpArgs false
open Go.RowKit
section
variable {P:Program} {τ:Nat→AV} {η:Heap} {d:Option Tmp} {ty:TypeId} {pos:String} {af:Array Edge} {g:Option (Nat×Bool)}
end
end Go.Proofs.YtbhhmbchdponjaaGreatDoor
namespace Go.Proofs.YtbhhmbchdponjaaGreatDoor
set_option linter.unusedVariables false
set_option linter.unusedSimpArgs false
open Go.RowKit
section
variable {P:Program} {N:Nat} {Q:Exit→St→Prop} {τ:Nat→AV} {η:Heap} {u:Nat}
theorem AWP.freeze {c:Code} (fp:List Nat) (t:Nat) (r:AV) (hf:FzP fp η (τ t) r) {η':Heap} (hη':(η.put (fp.map fun id=>(id,none)))=η') (hc:AWP P N c Q ⟨upd τ t r,η',u⟩):AWP P N c Q ⟨τ,η,u⟩:=by
 subst hη';intro C a hs;let C':Ctx:={ C with η:=C.η.put (fp.map fun id=>(id,none)),T:=fun b=>C.T b∨C.mineOf fp b }
 have hold:∀ {i b'},C'.η i=some b'→C.η i=some b'∧i∉fp:=by
  intro i b' hb1;have:(C.η.put (fp.map fun id=>(id,none))) i=some b':=hb1
  rw [put_none] at this;by_cases e:i∈fp;rw [if_pos e] at this;cases this;rw [if_neg e] at this;exact ⟨this,e⟩
 have hvr:∀ {a:AV} {x:Value},VR C a x→VR C' a x:=fun hv=>VR.shift (C:=C) (C':=C') rfl rfl rfl rfl (fun b hb=>.inl hb) hs.good.used (fun id b' hb=>⟨b',(hold hb).1,rfl,rfl,rfl,rfl⟩) hv;have hlive:∀ {i},C'.live i→C.live i∧i∉fp:=by rintro i ⟨b',hb1,hk⟩;exact ⟨⟨b',(hold hb1).1,hk⟩,(hold hb1).2⟩
 have hg:Good C':=by
  refine ⟨fun h=>hs.good.used (hold h).1,by intro i b' hb1 hk;obtain ⟨o,g1,g2⟩:=hs.good.obj (hold hb1).1 hk;exact ⟨o,g1,ObjR.shift hvr g2⟩,by intro i b' hb1 hn';obtain ⟨c,t,g1,g2,g3,g4⟩:=hs.good.blk (hold hb1).1 hn';exact ⟨c,t,g1,g2,g3,fun j hj hj'=>hvr (g4 j hj hj')⟩,fun hi hj e=>hs.good.inj (hlive hi).1 (hlive hj).1 e,?_,?_,fun h hv hn=>hs.good.tight (hold h).1 hv hn⟩;refine hs.good.tokT (fun _ h=>.inl h) ?_;rintro k (hk | hk);exact hs.good.tlt hk;exact Ctx.mine_lt hs.good (Ctx.mineOf_mine hk);rintro k ⟨i,hl',hk⟩ (hT | ⟨i',hi',hl'',e⟩);exact hs.good.apart ⟨i,(hlive hl').1,hk⟩ hT;have:i'=i:=hs.good.inj hl'' (hlive hl').1 (e.trans hk.symm)
  subst this;exact (hlive hl').2 hi'
 have hfr:Fr C C':=⟨⟨rfl,rfl,rfl,Nat.le_refl _,fun _ _ _=>rfl,fun k ⟨i,q1,q2⟩=>.inl ⟨i,(hlive q1).1,q2⟩,fun k h=>.inl h,fun k h=>h.imp (fun h=>h) (fun h=>.inl (Ctx.mineOf_mine h))⟩,fun id _ hu=>⟨hu,fun b' hb1=>⟨b',(hold hb1).1,Nat.le_refl _,fun _=>⟨rfl,rfl,rfl,rfl⟩⟩⟩⟩
 have hr':SRel N C' ⟨upd τ t r,η.put (fp.map fun id=>(id,none)),u⟩ a:=by
  have e0:C.η=η:=hs.η;refine ⟨hg,by simp only [C',e0],hs.u,hs.defers,hs.size,fun q=>?_⟩;by_cases e:q=t;subst e;have e1:upd τ q r q=r:=by simp [upd]
  show VR C' (upd τ q r q) _;rw [e1];exact .imm (hf C hs.good (fun id _=>by rw [e0]) _ (hs.τ q));have e1:upd τ t r q=τ q:=by simp [upd,beq_ne e]
  show VR C' (upd τ t r q) _;rw [e1];exact hvr (hs.τ q)
 have:=hc C' a hr';exact Code.wp_mono (fun e a' w' ⟨s',C'',h1,h2,h3,h4⟩=>⟨s',C'',h1,h2,h3,hfr.trans h4⟩) this
end
end Go.Proofs.YtbhhmbchdponjaaGreatDoor
namespace Go.Proofs.YtbhhmbchdponjaaGreatDoor
set_option linter.unusedVariables false
set_option linter.unusedSimpArgs false
open Go.RowKit
structure RowF {α:Type} (f:α→List AV) (q:Nat):Prop where
 len:∀ a,(f a).length=q
 one:∀ a,(f a).all AV.one=true
 low:∀ u a,lowL u (f a)=true
 ins:∀ D a,inL D (f a)=true
 ren:∀ g a,renL g (f a)=f a
 pure:∀ a,pureL (f a)=true
def rF {α:Type} (f:α→List AV) (l:List α):List AV:=(l.map f).flatten
section
variable {α:Type} {f:α→List AV} {q:Nat}
theorem rF_cons {a:α} {l:List α}:rF f (a :: l)=f a++rF f l:=rfl
theorem rF_app {l m:List α}:rF f (l++m)=rF f l++rF f m:=by simp [rF]
theorem rF_snoc {a:α} {l:List α}:rF f (l++[a])=rF f l++f a:=by simp [rF]
theorem rF_len (h:RowF f q):∀ l:List α,(rF f l).length=l.length * q
 | []=>by simp [rF]
 | a :: l=>by rw [rF_cons,List.length_append,h.len,rF_len h l,List.length_cons,Nat.add_mul,Nat.one_mul,Nat.add_comm]
theorem rF_one (h:RowF f q):∀ l:List α,(rF f l).all AV.one=true
 | []=>rfl
 | a :: l=>by rw [rF_cons,List.all_append,h.one,rF_one h l]; rfl
theorem lowL_app {u:Nat}:∀ {l m:List AV},lowL u (l++m)=(lowL u l&&lowL u m)
 | [],_=>rfl
 | a :: l,m=>by rw [List.cons_append,lowL,lowL,lowL_app,Bool.and_assoc]
theorem inL_app {D:List Nat}:∀ {l m:List AV},inL D (l++m)=(inL D l&&inL D m)
 | [],_=>rfl
 | a :: l,m=>by rw [List.cons_append,inL,inL,inL_app,Bool.and_assoc]
theorem rF_low (h:RowF f q) (u:Nat):∀ l:List α,lowL u (rF f l)=true
 | []=>rfl
 | a :: l=>by rw [rF_cons,lowL_app,h.low,rF_low h u l]; rfl
theorem rF_in (h:RowF f q) (D:List Nat):∀ l:List α,inL D (rF f l)=true
 | []=>rfl
 | a :: l=>by rw [rF_cons,inL_app,h.ins,rF_in h D l]; rfl
theorem rF_ren (h:RowF f q) (g:Nat→Nat):∀ l:List α,renL g (rF f l)=rF f l
 | []=>rfl
 | a :: l=>by rw [rF_cons,renL_eq,List.map_append,← renL_eq,← renL_eq,h.ren,rF_ren h g l]
theorem rF_blk (h:RowF f q) {g:Nat→Nat} {v:Nat} {l:List α} {n:Bool}:(Blk.mk v (rF f l) q n).ren g=⟨v,rF f l,q,n⟩:=by simp only [Blk.ren,rF_ren h]
theorem rF_ok (h:RowF f q) {K:List Nat} {v:Nat} {l:List α}:okBlk K ⟨v,rF f l,q,Nat.beq l.length 0⟩:=⟨rF_in h K l,by
 cases l with
 | nil=>exact .inr (.inl rfl)
 | cons a r=>exact .inl rfl⟩
theorem FzP.rowsF (h:RowF f q) {fp:List Nat} {η:Heap} {id v:Nat} {l:List α} (hid:id∈fp) (hb:η id=some ⟨v,rF f l,q,false⟩):FzP fp η (.sl id v 0 l.length) (.tree q (l.map f)) :=
 FzP.slMap (f:=f) hid hb rfl rfl rfl rfl rfl (fun a _=>⟨h.len a,h.pure a⟩)
theorem FzP.rows (h:RowF f q) {fp:List Nat} {η:Heap} {id v:Nat} {l:List α} (hid:id∈fp) (hb:η id=some ⟨v,rF f l,q,Nat.beq l.length 0⟩):FzP fp η (.sl id v 0 l.length) (.tree q (l.map f)):=by
 cases l with
 | nil=>
  intro C hg hη x hx
  obtain ⟨e,_,_⟩:=hx.slnil_inv ((hη id hid).trans hb) rfl rfl
  subst e
  exact .tree0 (by unfold maxLen; omega)
 | cons a r=>exact FzP.rowsF h hid hb
end
section
variable {P:Program} {τ:Nat→AV} {η:Heap} {d:Option Tmp} {ty:TypeId} {pos:String} {af:Array Edge} {g:Option (Nat×Bool)}
theorem LOp.appRow {α:Type} {f:α→List AV} {q:Nat} (hf:RowF f q) {t e by_:Nat} {s x:Operand} {z:Value} {fp:List Nat} {id ver:Nat} {l:List α} {a:α} {news:List AV} (ht:P.underlying t=some (.slice e)) (hs:sizeInfo P e=some q) (hz:zeroOf P e=some z) (hby:(P.info? e).map (·.bytes)=some by_) (hzs:z.cells.size=q)
 (hx:aev τ s=.sl id ver 0 l.length) (hb:η id=some ⟨ver,rF f l,q,Nat.beq l.length 0⟩) (hsrc:Src η fp (aev τ x) 1 news) (hnews:news=f a) (hmax:(l.length+1) * by_≤140737488355328) (hmax2:l.length+1≤140737488355328) (htv:ver+1≠TV) :
 LOp P ⟨d,.call { callee:=.builtin .append,args:=#[s,x],argTypes:=#[t,t] },ty,pos,af,g⟩ τ η (id :: fp) [(id,some ⟨ver+1,rF f (l++[a]),q,Nat.beq (l++[a]).length 0⟩)] (.sl id (ver+1) 0 (l++[a]).length):=by
 subst hnews
 have e1:Nat.beq (l++[a]).length 0=false:=beq_ne (by simp)
 have e2:(l++[a]).length=l.length+1:=by simp
 rw [e1,e2,rF_snoc]
 exact LOp.appendA (m:=1) ht hs hz hby hzs hx hb rfl (rF_len hf l) hsrc (by decide) (by rw [Nat.one_mul]; exact hf.len a) (hf.one a) hmax hmax2 htv
end
end Go.Proofs.YtbhhmbchdponjaaGreatDoor
namespace Go.Proofs.YtbhhmbchdponjaaGreatDoor
set_option linter.unusedVariables false
set_option linter.unusedSimpArgs false
open Go.RowKit Go.Sort
end Go.Proofs.YtbhhmbchdponjaaGreatDoor
namespace Go.Proofs.YtbhhmbchdponjaaGreatDoor
set_option linter.unusedVariables false
set_option linter.unusedSimpArgs false
open Go.RowKit Go.Sort Go.Shelf Go.Lib
end Go.Proofs.YtbhhmbchdponjaaGreatDoor
namespace Go.Proofs.YtbhhmbchdponjaaGreatDoor
set_option linter.unusedVariables false
set_option linter.unusedSimpArgs false
open Go.RowKit Go.Shelf Go.Lib
end Go.Proofs.YtbhhmbchdponjaaGreatDoor
namespace Go.Proofs.YtbhhmbchdponjaaGreatDoor
set_option linter.unusedVariables false
set_option linter.unusedSimpArgs false
open Go.RowKit
theorem rF_at {α:Type} {f:α→List AV} {l:List α} {k:Nat} (h:k < l.length):rF f l=rF f (l.take k)++(f l[k]++rF f (l.drop (k+1))):=by grind [List.getElem_cons_drop,List.take_append_drop,rF_app,rF_cons]
theorem rF_pre {α:Type} {f:α→List AV} {q:Nat} (hf:RowF f q) {l:List α} {k:Nat} (h:k < l.length):(rF f (l.take k)).length=k * q:=by rw [rF_len hf,List.length_take,Nat.min_eq_left (by omega)]
section
variable {P:Program} {τ:Nat→AV} {η:Heap} {d:Option Tmp} {ty:TypeId} {pos:String} {af:Array Edge} {g:Option (Nat×Bool)}
end
section
variable {P:Program} {N:Nat} {Q:Exit→St→Prop} {τ:Nat→AV} {η:Heap} {u:Nat}
end
end Go.Proofs.YtbhhmbchdponjaaGreatDoor
namespace Go.Proofs.YtbhhmbchdponjaaGreatDoor
set_option linter.unusedVariables false
set_option linter.unusedSimpArgs false
open Go.RowKit
section
variable {α:Type} {f:α→List AV} {q:Nat}
end
section
variable {P:Program} {τ:Nat→AV} {η:Heap} {d:Option Tmp} {ty:TypeId} {pos:String} {af:Array Edge} {g:Option (Nat×Bool)}
theorem LOp.appRowX {α:Type} {f:α→List AV} {q:Nat} (hf:RowF f q) {t e by_:Nat} {s x:Operand} {z:Value} {fp:List Nat} {id ver:Nat} {l:List α} {a:α} {b:Bool} {news:List AV} (ht:P.underlying t=some (.slice e)) (hs:sizeInfo P e=some q) (hz:zeroOf P e=some z) (hby:(P.info? e).map (·.bytes)=some by_) (hzs:z.cells.size=q)
 (hx:aev τ s=.sl id ver 0 l.length) (hb:η id=some ⟨ver,rF f l,q,b⟩) (hsrc:Src η fp (aev τ x) 1 news) (hnews:news=f a) (hmax:(l.length+1) * by_≤140737488355328) (hmax2:l.length+1≤140737488355328) (htv:ver+1≠TV) :
 LOp P ⟨d,.call { callee:=.builtin .append,args:=#[s,x],argTypes:=#[t,t] },ty,pos,af,g⟩ τ η (id :: fp) [(id,some ⟨ver+1,rF f (l++[a]),q,false⟩)] (.sl id (ver+1) 0 (l++[a]).length):=by
 subst hnews
 have e2:(l++[a]).length=l.length+1:=by simp
 rw [e2,rF_snoc]
 exact LOp.appendA (m:=1) ht hs hz hby hzs hx hb rfl (rF_len hf l) hsrc (by decide) (by rw [Nat.one_mul]; exact hf.len a) (hf.one a) hmax hmax2 htv
end
section
variable {P:Program} {N:Nat} {Q:Exit→St→Prop} {τ:Nat→AV} {η:Heap} {u:Nat}
end
section
variable {P:Program} {τ:Nat→AV} {η:Heap} {d:Option Tmp} {ty:TypeId} {pos:String} {af:Array Edge} {g:Option (Nat×Bool)}
variable {α:Type} {f:α→List AV} {q:Nat}
theorem LOp.appRowsBX (hf:RowF f q) {t e by_:Nat} {s x:Operand} {z:Value} {id ver:Nat} {l l':List α} (ht:P.underlying t=some (.slice e)) (hs:sizeInfo P e=some q) (hz:zeroOf P e=some z) (hby:(P.info? e).map (·.bytes)=some by_) (hzs:z.cells.size=q)
 (hx:aev τ s=.sl id ver 0 l.length) (hb:η id=some ⟨ver,rF f l,q,false⟩) (hy:aev τ x=.tree q (l'.map f)) (hmax:(l.length+l'.length) * by_≤140737488355328) (hmax2:l.length+l'.length≤140737488355328) (htv:ver+1≠TV) :
 LOp P ⟨d,.call { callee:=.builtin .append,args:=#[s,x],argTypes:=#[t,t] },ty,pos,af,g⟩ τ η [id] [(id,some ⟨ver+1,rF f (l++l'),q,false⟩)] (.sl id (ver+1) 0 (l++l').length):=by
 have:=LOp.append (d:=d) (ty:=ty) (pos:=pos) (af:=af) (g:=g) (m:=l'.length) (news:=rF f l') ht hs hz hby hzs hx hb rfl rfl rfl (Nat.le_of_eq (rF_len hf l).symm) (by rw [hy]; exact Src.treeMap rfl) (rF_len hf l') (rF_one hf l') hmax hmax2 htv
 rw [← List.length_append,← rF_len hf l,List.take_length,← rF_app] at this
 exact this
end
end Go.Proofs.YtbhhmbchdponjaaGreatDoor
namespace Go.Proofs.YtbhhmbchdponjaaGreatDoor
set_option linter.unusedVariables false
set_option linter.unusedSimpArgs false
open Go.RowKit
def EWP (P:Program) (N:Nat) (c:Code) (Q:Exit→St→Prop) (s:St):Prop:=∃ e s',Q e s'∧AWP P N c (fun e1 s1=>e1=e∧s1=s') s
def PRet (P:Program) (f:FuncId) (args:List AV) (R:AV→Prop):Prop:=∃ ret,R ret∧PCall P f args ret
section
variable {P:Program} {N:Nat} {Q:Exit→St→Prop} {s:St}
theorem EWP.via {c:Code} {s2:St} (h:∀ Q,AWP P N c Q s2→AWP P N c Q s) (hc:EWP P N c Q s2):EWP P N c Q s:=by obtain ⟨e,s',h1,h2⟩:=hc;exact ⟨e,s',h1,h _ h2⟩
theorem EWP.mono {Q':Exit→St→Prop} {c:Code} (h:EWP P N c Q s) (hq:∀ e s',Q e s'→Q' e s'):EWP P N c Q' s:=by obtain ⟨e,s',h1,h2⟩:=h;exact ⟨e,s',hq _ _ h1,h2⟩
theorem EWP.skip (h:Q .normal s):EWP P N .skip Q s:=⟨_,_,h,wK ⟨rfl,rfl⟩⟩
theorem EWP.exit {id:Nat} (h:Q (.exit id) s):EWP P N (.exit id) Q s:=⟨_,_,h,AWP.exit ⟨rfl,rfl⟩⟩
theorem EWP.ret (h:Q .ret s):EWP P N .ret Q s:=⟨_,_,h,wT ⟨rfl,rfl⟩⟩
theorem EWP.region {id:Nat} {l:List Oper} (h:SeqC P N l.toArray l (fun _ s'=>Q .normal s') s):EWP P N (.region id l.toArray false) Q s:=by obtain ⟨rs,s',h1,h2⟩:=h;exact ⟨_,s',h2,wR (AOps.of_Seq h1 ⟨rfl,rfl⟩)⟩
theorem EWP.regD {id:Nat} {l:List Oper} (hm:P.follows .mixedOrders=true) (h:SeqC P N l.toArray l (fun rs s'=>checkR l.toArray rs=true∧Q .normal s') s):EWP P N (.region id l.toArray true) Q s:=by obtain ⟨rs,s',h1,h2,h3⟩:=h;exact ⟨_,s',h3,AWP.regionD hm h1 h2 ⟨rfl,rfl⟩⟩
theorem EWP.seq {x y:Code} (h:EWP P N x (andThen (EWP P N y Q) Q) s):EWP P N (.seq x y) Q s:=by
 obtain ⟨e,s',h1,h2⟩:=h;cases e with
 | normal=>
  obtain ⟨e2,s2,h3,h4⟩:=h1
  refine ⟨e2,s2,h3,wS (AWP.mono h2 ?_)⟩
  rintro e1 s1 ⟨rfl,rfl⟩
  exact h4
 | _=>
  refine ⟨_,s',h1,wS (AWP.mono h2 ?_)⟩
  rintro e1 s1 ⟨rfl,rfl⟩
  exact ⟨rfl,rfl⟩
theorem EWP.cond {c:Operand} {x y:Code} {t:Bool} (hc:aev s.τ c=.v (.bool t)) (ht:t=true→EWP P N x Q s) (hf:t=false→EWP P N y Q s):EWP P N (.cond c x y) Q s:=by
 cases t with
 | true=>obtain ⟨e,s',h1,h2⟩:=ht rfl; exact ⟨e,s',h1,AWP.condT hc h2⟩
 | false=>obtain ⟨e,s',h1,h2⟩:=hf rfl; exact ⟨e,s',h1,AWP.condF hc h2⟩
theorem EWP.block {id:Nat} {c:Code} (h:EWP P N c (inBlk id Q) s):EWP P N (.block id c) Q s:=by
 obtain ⟨e,s',h1,h2⟩:=h;cases e with
 | exit id'=>
  by_cases hi:Nat.beq id' id=true
  ·simp only [inBlk,hi,cond_true] at h1
   refine ⟨.normal,s',h1,wB (AWP.mono h2 ?_)⟩
   rintro e1 s1 ⟨rfl,rfl⟩
   simp only [inBlk,hi,cond_true]
   exact ⟨trivial,trivial⟩
  ·simp only [Bool.not_eq_true] at hi
   simp only [inBlk,hi,cond_false] at h1
   refine ⟨.exit id',s',h1,wB (AWP.mono h2 ?_)⟩
   rintro e1 s1 ⟨rfl,rfl⟩
   simp only [inBlk,hi,cond_false]
   exact ⟨trivial,trivial⟩
 | _=>
  refine ⟨_,s',h1,wB (AWP.mono h2 ?_)⟩
  rintro e1 s1 ⟨rfl,rfl⟩
  exact ⟨rfl,rfl⟩
inductive Chain (P:Program) (N:Nat) (c:Code) (e2:Exit) (s2:St):Nat→St→Prop
 | done {n:Nat} {s:St}:AWP P N c (fun e1 s1=>e1=e2∧s1=s2) s→e2≠.normal→Chain P N c e2 s2 n s
 | step {n m:Nat} {s s' s1:St}:AWP P N c (fun e1 s1=>e1=.normal∧s1=s') s→(∀ Q,AWP P N c Q s1→AWP P N c Q s')→m < n→Chain P N c e2 s2 m s1→Chain P N c e2 s2 n s
theorem Chain.loop {c:Code} {e2:Exit} {s2:St} {n:Nat} {s:St} (h:Chain P N c e2 s2 n s):AWP P N (.loop c) (fun e1 s1=>e1=e2∧s1=s2) s:=by
 refine AWP.loop (fun n s=>∃ s1,(∀ Q,AWP P N c Q s1→AWP P N c Q s)∧Chain P N c e2 s2 n s1) (fun n s ⟨s1,h1,h2⟩=>h1 _ ?_) (n:=n) ⟨s,fun _ h=>h,h⟩;cases h2 with
 | done h3 h4=>
  refine AWP.mono h3 ?_
  rintro e1 s3 ⟨rfl,rfl⟩
  cases e1 with
  | normal=>exact absurd rfl h4
  | _=>exact ⟨rfl,rfl⟩
 | step h3 h4 h5 h6=>
  refine AWP.mono h3 ?_
  rintro e1 s3 ⟨rfl,rfl⟩
  exact ⟨_,h5,_,h4,h6⟩
theorem EWP.canon {c:Code} {s1:St} (h:Canon s s1) (hc:EWP P N c Q s1):EWP P N c Q s:=EWP.via (fun _=>AWP.canon h) hc
theorem EWP.chain {c:Code} (I:Nat→St→Prop) (hI:∀ n s,I n s→EWP P N c (andThen (fun s'=>∃ m s1,m < n∧Canon s' s1∧I m s1) Q) s):∀ n s,I n s→∃ e2 s2,Q e2 s2∧Chain P N c e2 s2 n s:=by
 intro n;induction n using Nat.strongRecOn with
 | _ n ih=>
  intro s h0
  obtain ⟨e,s',h1,h2⟩:=hI n s h0
  cases e with
  | normal=>
   obtain ⟨m,s1,hm,hc,hi⟩:=h1
   obtain ⟨e2,s2,h3,h4⟩:=ih m hm s1 hi
   exact ⟨e2,s2,h3,.step h2 (fun _=>AWP.canon hc) hm h4⟩
  | _=>exact ⟨_,s',h1,.done h2 (by simp)⟩
theorem EWP.loopC {c:Code} (I:Nat→St→Prop) {n:Nat} {s1:St} (hc:Canon s s1) (h0:I n s1) (hI:∀ n s,I n s→EWP P N c (andThen (fun s'=>∃ m s1,m < n∧Canon s' s1∧I m s1) Q) s):EWP P N (.loop c) Q s:=by obtain ⟨e2,s2,h1,h2⟩:=EWP.chain I hI n s1 h0;exact EWP.canon hc ⟨e2,s2,h1,h2.loop⟩
theorem PRet.of_body {f:FuncId} {fn:Func} {c:Code} {args:List AV} {R:AV→Prop} (hf:P.funcs[f]? = some fn) (hb:fn.body=some c) (hN:fn.ntmps=N) (hl:args.length≤N)
 (h:EWP P N c (fun e s'=>(e=.normal∨e=.ret)∧∃ ret,Outs P N fn s' ret∧R ret) ⟨frameOf args,noHeap,0⟩):PRet P f args R:=by
 obtain ⟨e,s',⟨he,ret,ho,hR⟩,h2⟩:=h
 refine ⟨ret,hR,pB hf hb hN hl (AWP.mono h2 ?_)⟩
 rintro e1 s1 ⟨rfl,rfl⟩
 exact ⟨he,ho⟩
theorem PRet.mono {f:FuncId} {args:List AV} {R R':AV→Prop} (h:PRet P f args R) (hR:∀ r,R r→R' r):PRet P f args R':=by obtain ⟨r,h1,h2⟩:=h;exact ⟨r,hR r h1,h2⟩
end
section
variable {P:Program} {N:Nat} {ops:Array Oper} {l:List Oper} {τ:Nat→AV} {η:Heap} {u:Nat} {op:Op} {ty:TypeId} {pos:String} {af:Array Edge} {g:Option (Nat×Bool)} {K:List Rec→St→Prop}
end
end Go.Proofs.YtbhhmbchdponjaaGreatDoor
namespace Go.Proofs.YtbhhmbchdponjaaGreatDoor
set_option linter.unusedVariables false
set_option linter.unusedSimpArgs false
open Go.RowKit
section
variable {P:Program} {τ:Nat→AV} {η:Heap} {d:Option Tmp} {ty:TypeId} {pos:String} {af:Array Edge} {g:Option (Nat×Bool)}
theorem LOp.addStr {t t':Nat} {x y:Operand} {a b:ByteArray} (hx:aev τ x=.v (.string a)) (hy:aev τ y=.v (.string b)) (h:a.size+b.size≤9223372036854775807) :
 LOp P ⟨d,.binOp .add t x y t',ty,pos,af,g⟩ τ η [] [] (.v (.string (a++b))) :=
 .look [] fun C q hg hxs _=>by have e1:=hxs x (by simp [Op.operands]);have e2:=hxs y (by simp [Op.operands]);rw [hx] at e1;rw [hy] at e2;refine ⟨_,?_,VR.v C _⟩;simp only [execOp,e1.v_inv,e2.v_inv];simp [eqGuard,Sem.run_bind,Go.binOp_string_add,Go.run_string_add_sum C.w a b h]
theorem LOp.lenNil {t e:Nat} {x:Operand} {ats:Array TypeId} (ha:ats[0]? = some t) (he:P.underlying t=some (.slice e)) (hx:aev τ x=.v (.slice none 0 0)) :
 LOp P ⟨d,.call { callee:=.builtin .len,args:=#[x],argTypes:=ats },ty,pos,af,g⟩ τ η [] [] (.v (.int .i64 0)) :=
 .look [] fun C a hg hxs _=>by have h1:=hxs x (by simp [Op.operands,Call.operands]);rw [hx] at h1;refine ⟨_,?_,VR.v C _⟩;simp [execOp,h1.v_inv,resolve,invoke,builtin,Builtin.len_,ha,run_underlying he,goInt]
end
end Go.Proofs.YtbhhmbchdponjaaGreatDoor
namespace Go.Proofs.YtbhhmbchdponjaaGreatDoor
set_option linter.unusedVariables false
set_option linter.unusedSimpArgs false
open Go.RowKit
def HRet (P:Program) (f:FuncId) (args:List AV) (hb:List (Nat×Blk)) (hb':List (Nat×Option Blk)) (R:AV→Prop):Prop:=∃ ret,R ret∧HCall P f args hb hb' ret
theorem HRet.of_body {P:Program} {f:FuncId} {fn:Func} {c:Code} {N:Nat} {args:List AV} {hb:List (Nat×Blk)} {hb':List (Nat×Option Blk)} {R:AV→Prop} (hf:P.funcs[f]? = some fn) (hbo:fn.body=some c) (hN:fn.ntmps=N) (hl:args.length≤N)
 (h:EWP P N c (fun e s'=>(e=.normal∨e=.ret)∧∃ ret,OutsH P N fn s' hb' ret∧R ret) ⟨frameOf args,hLz hb,0⟩):HRet P f args hb hb' R:=by
 obtain ⟨e,s',⟨he,ret,ho,hR⟩,h2⟩:=h
 refine ⟨ret,hR,HCall.of_body hf hbo hN hl (AWP.mono h2 ?_)⟩
 rintro e1 s1 ⟨rfl,rfl⟩
 exact ⟨he,ho⟩
end Go.Proofs.YtbhhmbchdponjaaGreatDoor
namespace Go.Proofs.YtbhhmbchdponjaaGreatDoor
set_option linter.unusedVariables false
set_option linter.unusedSimpArgs false
open Go.RowKit
def swp (i j n:Nat):Nat:=if n=i then j else if n=j then i else n
theorem swp_swp (i j n:Nat):swp i j (swp i j n)=n:=by
 unfold swp; repeat' split
 all_goals omega
theorem swp_inj {i j a b:Nat} (h:swp i j a=swp i j b):a=b:=by rw [← swp_swp i j a,h,swp_swp]
theorem swp_low {i j n u:Nat} (hi:i < u) (hj:j < u) (h:swp i j n < u∨TOP≤swp i j n):n < u∨TOP≤n:=by
 unfold swp at h
 repeat' split at h
 all_goals omega
theorem swp_top {i j n:Nat} (hi:i < TOP) (hj:j < TOP) (h:TOP≤n):swp i j n=n:=by
 unfold swp; repeat' split
 all_goals omega
def inFl (D:List Nat):List (Nat×AV)→Prop
 | []=>True
 | p :: r=>p.2.inB D=true∧inFl D r
def inHl (D:List Nat):List (Nat×Blk)→Prop
 | []=>True
 | p :: r=>inL D p.2.cs=true∧inHl D r
theorem frameL_ren {g:Nat→Nat}:∀ (fl:List (Nat×AV)) (t:Nat),fL (fl.map fun p=>(p.1,p.2.ren g)) t=(fL fl t).ren g
 | [],t=>rfl
 | p :: r,t=>by
  simp only [List.map_cons,fL]
  cases hb:Nat.beq t p.1 with
  | true=>rfl
  | false=>exact frameL_ren r t
theorem frameL_in {D:List Nat}:∀ {fl:List (Nat×AV)} (_:inFl D fl) (t:Nat),(fL fl t).inB D=true
 | [],_,t=>rfl
 | p :: r,⟨h1,h2⟩,t=>by
  simp only [fL]
  cases hb:Nat.beq t p.1 with
  | true=>exact h1
  | false=>exact frameL_in h2 t
theorem heapL_inD {D:List Nat}:∀ {hl:List (Nat×Blk)} (_:inHl D hl) {n:Nat} {b:Blk},hLz hl n=some b→inL D b.cs=true
 | [],_,n,b,h=>by cases h
 | p :: r,⟨h1,h2⟩,n,b,h=>by
  simp only [hLz] at h
  cases hb:Nat.beq n p.1 with
  | true=>rw [hb] at h; simp only [cond_true,Option.some.injEq] at h; subst h; exact h1
  | false=>rw [hb] at h; exact heapL_inD h2 h
theorem heapL_mem:∀ {hl:List (Nat×Blk)} {n:Nat},n∈hl.map (·.1)→∃ b,hLz hl n=some b
 | [],n,h=>by simp at h
 | p :: r,n,h=>by
  simp only [hLz]
  cases hb:Nat.beq n p.1 with
  | true=>exact ⟨p.2,rfl⟩
  | false=>
   simp only [List.map_cons,List.mem_cons] at h
   rcases h with h | h
   ·subst h; simp at hb
   ·exact heapL_mem h
theorem heapL_ren {i j:Nat}:∀ (hl:List (Nat×Blk)) (n:Nat),hLz (hl.map fun p=>(swp i j p.1,p.2.ren (swp i j))) n=(hLz hl (swp i j n)).map (Blk.ren (swp i j))
 | [],n=>rfl
 | p :: r,n=>by
  simp only [List.map_cons,hLz]
  have e:Nat.beq n (swp i j p.1)=Nat.beq (swp i j n) p.1:=by
   by_cases h:n=swp i j p.1
   ·subst h; rw [swp_swp]; simp
   ·have h':¬ swp i j n=p.1:=fun h'=>h (by rw [← h',swp_swp])
    rw [beq_ne h,beq_ne h']
  rw [e]
  cases hb:Nat.beq (swp i j n) p.1 with
  | true=>rfl
  | false=>exact heapL_ren r n
section
variable {P:Program} {N:Nat} {Q:Exit→St→Prop}
theorem AWP.swap {c:Code} (i j:Nat) {s:St} {fl fl':List (Nat×AV)} {hl hl':List (Nat×Blk)} {u:Nat} (hs:Canon s ⟨fL fl,hLz hl,u⟩) (hF:inFl (hl.map (·.1)) fl) (hH:inHl (hl.map (·.1)) hl) (hi:i < u) (hj:j < u) (hu:u≤TOP)
 (hfl:(fl.map fun p=>(p.1,p.2.ren (swp i j)))=fl') (hhl:(hl.map fun p=>(swp i j p.1,p.2.ren (swp i j)))=hl') (hc:AWP P N c Q ⟨fL fl',hLz hl',u⟩):AWP P N c Q s:=by
 subst hfl hhl
 intro C a hr0
 obtain ⟨C1,hw,hr,hf⟩:=hs.rel hr0
 have e1:C1.η=hLz hl:=hr.η
 let g:=swp i j
 have hgg:∀ n,g (g n)=n:=swp_swp i j
 let C2:Ctx:={ C1 with ρ:=fun n=>C1.ρ (g n),sz:=fun n=>C1.sz (g n),η:=hLz (hl.map fun p=>(swp i j p.1,p.2.ren (swp i j))),U:=fun n=>C1.U (g n) }
 have h2η:∀ n,C2.η n=(C1.η (g n)).map (Blk.ren g):=fun n=>by rw [e1]; exact heapL_ren hl n
 have hold:∀ {n b},C2.η n=some b→∃ b0,C1.η (g n)=some b0∧b=b0.ren g:=by
  intro n b hb
  rw [h2η] at hb
  cases h:C1.η (g n) with
  | none=>rw [h] at hb; cases hb
  | some b0=>rw [h] at hb; simp only [Option.map_some,Option.some.injEq] at hb; exact ⟨b0,rfl,hb.symm⟩
 have hR:Rens (hl.map (·.1)) g C1 C2:=by
  refine ⟨fun n _=>?_,fun n _=>?_,fun n _=>?_,fun n hn=>?_,rfl,rfl⟩
  ·show C1.ρ (g (g n))=_; rw [hgg]
  ·show C1.sz (g (g n))=_; rw [hgg]
  ·rw [h2η,hgg]
  ·show C1.U (g (g n)); rw [hgg]
   obtain ⟨b,hb⟩:=heapL_mem hn
   exact hr.good.used (by rw [e1]; exact hb)
 have hin:∀ {n b},C1.η n=some b→inL (hl.map (·.1)) b.cs=true:=fun hb=>heapL_inD hH (by rw [e1] at hb; exact hb)
 have hlive:∀ {n},C2.live n→C1.live (g n):=by
  rintro n ⟨b,hb,hk⟩
  obtain ⟨b0,h0,rfl⟩:=hold hb
  exact ⟨b0,h0,by rw [Blk.ren_kind] at hk; exact hk⟩
 have hmine:∀ {k},C2.mine k→C1.mine k:=fun ⟨n,h1,h2⟩=>⟨g n,hlive h1,h2⟩
 have hg:Good C2:=by
  refine ⟨fun hb=>?_,fun hb hk=>?_,fun hb hn=>?_,fun h1 h2 h3=>swp_inj (hr.good.inj (hlive h1) (hlive h2) h3),hr.good.tok,fun hk hT=>hr.good.apart (hmine hk) hT,fun hb hv hn=>?_⟩
  ·obtain ⟨b0,h0,rfl⟩:=hold hb
   exact hr.good.used h0
  ·obtain ⟨b0,h0,rfl⟩:=hold hb
   obtain ⟨o,h1,h2⟩:=hr.good.obj h0 (by rw [Blk.ren_kind] at hk; exact hk)
   exact ⟨o,h1,ObjR.ren hR h2 (hin h0)⟩
  ·obtain ⟨b0,h0,rfl⟩:=hold hb
   obtain ⟨c,t,g1,g2,g3,g4⟩:=hr.good.blk h0 hn
   refine ⟨c,t,g1,g2,by show _+(renL g b0.cs).length≤_; rw [renL_len]; exact g3,fun k hk hk'=>?_⟩
   have hk0:k < b0.cs.length:=by have hk:k < (renL g b0.cs).length:=hk; rw [renL_len] at hk; exact hk
   have e:(b0.ren g).cs[k]=(b0.cs[k]).ren g:=renL_get hk
   rw [e]
   exact VR.ren hR (g4 k hk0 hk') (inL_at (hin h0) k hk0)
  ·obtain ⟨b0,h0,rfl⟩:=hold hb
   have:=hr.good.tight h0 hv hn
   show C1.sz _=_+(renL g b0.cs).length
   rw [renL_len]; exact this
 have hfr:Fr C1 C2:=⟨⟨rfl,rfl,rfl,Nat.le_refl _,fun _ _ _=>rfl,fun k hk=>.inl (hmine hk),fun _ h=>h,fun _ h=>.inl h⟩,fun id ht hU=>by
  have e:g id=id:=swp_top (by omega) (by omega) ht
  refine ⟨by show C1.U (g id); rw [e]; exact hU,fun b' hb=>?_⟩
  obtain ⟨b0,h0,rfl⟩:=hold hb
  rw [e] at h0
  exact ⟨b0,h0,Nat.le_refl _,fun _=>⟨by show C1.ρ (g id)=_; rw [e],by show C1.sz (g id)=_; rw [e],Blk.ren_kind,rfl⟩⟩⟩
 have hr2:SRel N C2 ⟨fL (fl.map fun p=>(p.1,p.2.ren (swp i j))),hLz (hl.map fun p=>(swp i j p.1,p.2.ren (swp i j))),u⟩ a :=
  ⟨hg,rfl,fun id hU=>swp_low hi hj (hr.u _ hU),hr.defers,hr.size,fun t=>by
   show VR C2 (fL _ t) _
   rw [frameL_ren]
   exact VR.ren hR (hr.τ t) (frameL_in hF t)⟩
 have:=hc C2 a hr2
 have hw2:C2.w=C.w:=hw
 rw [hw2] at this
 refine Code.wp_mono ?_ this
 rintro e a' w' ⟨s',C'',hq,hw',hr'',hf'⟩
 exact ⟨s',C'',hq,hw',hr'',(hf.trans hfr).trans hf'⟩
end
def rowB (n:Nat) (F:Nat→Bool):List AV:=(List.range n).map fun i=>AV.v (.bool (F i))
section
variable {n:Nat} {F G:Nat→Bool}
theorem rowB_len:(rowB n F).length=n:=by simp [rowB]
theorem rowB_get {i:Nat} (h:i < n):(rowB n F)[i]? = some (.v (.bool (F i))):=by simp [rowB,h]
theorem rowB_ext (h:∀ i,i < n→F i=G i):rowB n F=rowB n G:=by simp_all [rowB]
theorem rowB_low (u:Nat):lowL u (rowB n F)=true:=by
 unfold rowB
 induction List.range n with
 | nil=>rfl
 | cons a l ih=>simp only [List.map_cons,lowL]; rw [ih]; rfl
theorem rowB_in (D:List Nat):inL D (rowB n F)=true:=by
 unfold rowB
 induction List.range n with
 | nil=>rfl
 | cons a l ih=>simp only [List.map_cons,inL]; rw [ih]; rfl
theorem rowB_ren (g:Nat→Nat):renL g (rowB n F)=rowB n F:=by
 unfold rowB
 induction List.range n with
 | nil=>rfl
 | cons a l ih=>simp only [List.map_cons,renL]; rw [ih]; rfl
theorem rowB_set {i:Nat} {b:Bool} (h:i < n):setRange (rowB n F) i [.v (.bool b)]=rowB n (fun k=>if k=i then b else F k):=by apply List.ext_getElem;simp [setRange,rowB];omega;intro k h1 h2;have hk:k < n:=(by rw [rowB_len] at h2; exact h2);have hl:(rowB n F).length=n:=rowB_len;simp only [setRange];by_cases e:k < i;rw [List.getElem_append_left (by simp [hl]; omega)];rw [List.getElem_append_left (by simp [hl]; omega)];simp [rowB,Nat.ne_of_lt e];by_cases e2:k=i;subst e2;rw [List.getElem_append_left (by simp [hl]; omega)];rw [List.getElem_append_right (by simp [hl]; omega)];simp [rowB,hl];rw [List.getElem_append_right (by simp [hl]; omega)];simp only [List.getElem_drop,rowB,List.getElem_map,List.getElem_range,List.length_append,List.length_take,List.length_map,List.length_range,List.length_singleton];rw [if_neg (by omega)];congr 3;omega
end
section
variable {P:Program} {τ:Nat→AV} {η:Heap} {d:Option Tmp} {ty:TypeId} {pos:String} {af:Array Edge} {g:Option (Nat×Bool)}
theorem LOp.loadB {t:Nat} {x:Operand} {id ver i n:Nat} {F:Nat→Bool} (ht:rowOf P t=some none) (hx:aev τ x=.ptr id ver i) (hb:η id=some ⟨ver,rowB n F,1,false⟩) (hi:i < n) :
 LOp P ⟨d,.load t x,ty,pos,af,g⟩ τ η [id] [] (.v (.bool (F i))):=lD ht hx hb rfl rfl (rowB_get hi)
theorem LOp.storeB {t:Nat} {x y:Operand} {id ver i n:Nat} {F:Nat→Bool} {b:Bool} (hs:sizeInfo P t=some 1) (hx:aev τ x=.ptr id ver i) (hb:η id=some ⟨ver,rowB n F,1,false⟩) (hy:aev τ y=.v (.bool b)) (hi:i < n) :
 LOp P ⟨d,.store t x y,ty,pos,af,g⟩ τ η [id] [(id,some ⟨ver,rowB n (fun k=>if k=i then b else F k),1,false⟩)] (.v undef):=by
 have:=LOp.store (P:=P) (τ:=τ) (η:=η) (d:=d) (ty:=ty) (pos:=pos) (af:=af) (g:=g) (b:=⟨ver,rowB n F,1,false⟩) (y:=y) hs hx hb rfl rfl (by rw [hy]; rfl) (by rw [hy]; rfl) (by rw [hy]; rfl) (by rw [rowB_len]; exact hi)
 have e:setRange (rowB n F) i (aev τ y).cells=rowB n (fun k=>if k=i then b else F k):=by rw [hy]; exact rowB_set hi
 simp only [e] at this
 exact this
theorem LOp.indexB {t e:Nat} {x y:Operand} {id ver i n:Nat} {v:Int} {F:Nat→Bool} (he:P.underlying t=some (.slice e)) (hs:sizeInfo P e=some 1) (hx:aev τ x=.sl id ver 0 n) (hi:aev τ y=.v (.int .i64 v)) (hv:v=((i:Nat):Int)) (hj:i < n) (hb:η id=some ⟨ver,rowB n F,1,false⟩) :
 LOp P ⟨d,.indexAddr t x y,ty,pos,af,g⟩ τ η [id] [] (.ptr id ver i):=by
 subst hv
 have:=LOp.indexS (P:=P) (τ:=τ) (η:=η) (d:=d) (ty:=ty) (pos:=pos) (af:=af) (g:=g) (j:=i) he hs hx hi hj hb rfl rfl rfl
 rwa [Nat.zero_add,Nat.mul_one] at this
theorem zeros_rowB {n:Nat}:zerosA (.bool false) (n * 1)=rowB n (fun _=>false):=by
 unfold zerosA rowB;rw [Nat.mul_one];refine List.map_congr_left fun i _=>have h0:(Value.bool false).cells=#[.bool false]:=rfl; have e:i % (Value.bool false).cells.size=0:=(by rw [h0]; exact Nat.mod_one i); ?_
 rw [e,h0];rfl
theorem LOp.makeB (u:Nat) {t e len:Nat} {x y:Operand} {v:Int} (he:P.underlying t=some (.slice e)) (hs:sizeInfo P e=some 1) (hz:zeroOf P e=some (.bool false)) (hby:(P.info? e).map (·.bytes)=some 1)
 (hx:aev τ x=.v (.int .i64 v)) (hy:aev τ y=.v (.int .i64 v)) (hv:v=((len:Nat):Int)) (hl:len≤140737488355328) (h0:len≠0) :
 LOp P ⟨d,.makeSlice t x y,ty,pos,af,g⟩ τ η [] [(u,some ⟨0,rowB len (fun _=>false),1,false⟩)] (.sl u 0 0 len):=by
 rw [← zeros_rowB]
 subst hv
 intro C a hg hxs _ hnew K Q hK
 have hu:¬ C.U u:=hnew (u,some ⟨0,zerosA (.bool false) (len * 1),1,false⟩) (by simp) (by simp)
 have e1:=hxs x (by simp [Op.operands])
 have e2:=hxs y (by simp [Op.operands])
 rw [hx] at e1
 rw [hy] at e2
 unfold sizeInfo at hs
 unfold zeroOf at hz
 cases hi:P.info? e with
 | none=>rw [hi] at hz; cases hz
 | some inf=>
  rw [hi] at hz hs hby
  simp only [Option.bind_some] at hz
  simp only [Option.map_some,Option.some.injEq] at hs hby
  let es:Array Value:=(Array.range (len * inf.size)).map fun i=>(Value.bool false).cells[i % (Value.bool false).cells.size]!
  have z1:(zerosA (.bool false) (len * inf.size)).length=es.size:=by simp [zerosA,es]
  have z2:∀ i (h:i < (zerosA (.bool false) (len * inf.size)).length) (h':i < es.size),VR C (zerosA (.bool false) (len * inf.size))[i] es[i]:=fun i h h'=>by simp only [zerosA,List.getElem_map,List.getElem_range,es,Array.getElem_map,Array.getElem_range];exact VR.v C _
  have gsz:es.size=len * inf.size:=by simp [es]
  have hrun:(execOp a.eval ⟨d,.makeSlice t x y,ty,pos,af,g⟩).run P C.w=.ok (.value (.slice (some ⟨C.w.heap.size,0,none⟩) len len)) (C.w.alloc (.cells es e)):=by
   have h0:¬ (len * inf.size=0):=by rw [hs,Nat.mul_one]; exact h0
   have hw:IntKind.i64.wrap (Int.ofNat len)=Int.ofNat len:=IntWalk.i64_in _ (by constructor <;> simp <;> omega);have c1:¬ (((inf.bytes:Int) * Int.ofNat len > 2 ^ 48)):=by have:(inf.bytes:Int) * Int.ofNat len=((inf.bytes * len:Nat):Int):=(by simp);rw [this,hby];omega
   have c2:¬ ((Int.ofNat len:Int) < 0):=by simp
   have e1':a.eval x=.int .i64 (Int.ofNat len):=e1.v_inv;have e2':a.eval y=.int .i64 (Int.ofNat len):=e2.v_inv
   simp only [execOp,e1',e2',Instr.makeSlice,Sem.run_bind,run_underlying he,Result.andThen_ok,asInt,typeInfo,run_program,hi,Sem.run_pure];have a1:∀ w:World,(asIntOf (Value.int IntKind.i64 (Int.ofNat len))).run P w=.ok (IntKind.i64,Int.ofNat len) w:=fun w=>rfl
   simp only [a1,Result.andThen_ok,hw];have cc:(decide ((Int.ofNat len:Int) < 0)||decide ((inf.bytes:Int) * Int.ofNat len > 2 ^ 48)||decide ((Int.ofNat len:Int) < 0)||decide ((Int.ofNat len:Int) > Int.ofNat len))=false:=by simp only [Bool.or_eq_false_iff,decide_eq_false_iff_not];exact ⟨⟨⟨c2,c1⟩,c2⟩,Int.lt_irrefl _⟩
   rw [if_neg (by rw [cc]; exact Bool.false_ne_true)];have tn:(Int.ofNat len).toNat=len:=rfl
   simp only [tn,Sem.run_bind];have ar:∀ w:World,(askRoom (len * inf.bytes)).run P w=.ok () w:=fun w=>by unfold askRoom; split <;> rfl
   simp only [ar,Result.andThen_ok,sizeOf,typeInfo,Sem.run_bind,run_program,hi,Sem.run_pure];rw [if_neg h0];simp only [Sem.run_bind,zeroValue,typeInfo,run_program,hi,Sem.run_pure,Result.andThen_ok,hz];rfl
  have hs':(1:Nat)=inf.size:=hs.symm
  rw [hs'] at hK
  unfold Oper.wp
  rw [hrun]
  refine hK _ (C.alloc u es e ⟨0,zerosA (.bool false) (len * inf.size),inf.size,false⟩) rfl (fun i=>by simp [Ctx.alloc]) (Ctx.alloc_good hg hu rfl (Nat.le_of_eq z1) z2) (Ctx.alloc_ev hg hu rfl) ?_
  have h3:(C.alloc u es e ⟨0,zerosA (.bool false) (len * inf.size),inf.size,false⟩).ρ u=(C.w.heap.size,0):=by simp [Ctx.alloc]
  have h4:(C.alloc u es e ⟨0,zerosA (.bool false) (len * inf.size),inf.size,false⟩).sz u=es.size:=by simp [Ctx.alloc]
  have:=VR.sl (C:=C.alloc u es e ⟨0,zerosA (.bool false) (len * inf.size),inf.size,false⟩) (id:=u) (ver:=0) (off:=0) (len:=len) (cap:=len) (b:=⟨0,zerosA (.bool false) (len * inf.size),inf.size,false⟩) (Heap.set_same _ _ _) rfl rfl (Nat.le_refl _) (by unfold maxLen; omega) (by omega)
   (by rw [h3,h4,gsz]; simp)
  rw [h3] at this
  exact this
end
end Go.Proofs.YtbhhmbchdponjaaGreatDoor
