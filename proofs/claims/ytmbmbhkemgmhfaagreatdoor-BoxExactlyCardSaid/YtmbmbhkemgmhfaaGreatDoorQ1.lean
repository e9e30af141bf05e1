/- Texts of the claim. -/
import Derived.Lib.RowBridge
import Derived.Sort.Grow
import Derived.Shelf.SlLaysE
import Derived.Shelf.SlicesE.Kit
import Derived.Shelf.RegionOpenPlain
import Derived.WalkKit
import Derived.Deep.LoopGhost
import Derived.Deep.RegionLaw
import Derived.Lib.Walk
import Derived.Sort.WalkB12
import Derived.Lib.SliceRun
import Derived.Shelf.SlicesE.Clone
import Derived.Laws.Strings2
import Derived.Laws.Slices
import Derived.Laws.Concat
import Derived.Test.YtmbmbhkemgmhfaaGreatDoorE3
import Derived.Test.YtmbmbhkemgmhfaaGreatDoorA2
namespace Go.Proofs.YtmbmbhkemgmhfaaGreatDoor
set_option maxRecDepth 1000000
set_option maxHeartbeats 0
set_option linter.unusedVariables false
set_option linter.unusedSimpArgs false
open Go.RowKit
theorem fq{α β:Type}{P:Program}:∀{s:Sem α} {f:α->Sem β} {a:α} {b:β},da P s=some a->da P (f a)=some b->da P (s.bind f)=some b:=by
 intro s
 induction s with
 |pure a=>intro f a' b h1 h2;simp only[da,agw]at h1;subst h1;exact h2
 |program k ih=>intro f a b h1 h2;exact ih P h1 h2
 |mark m k ih=>intro f a b h1 h2;exact ih h1 h2
 |choose q k ih=>
  intro f a b h1 h2
  simp only[Sem.bind,da]at h1 ⊢
  cases hq:q.forced with
  |false=>rw[hq]at h1;simp at h1
  |true=>
   rw[hq]at h1
   simp only[cond_true]at h1 ⊢
   exact ih 0 h1 h2
 |_=>intro f a b h1 h2;simp[da]at h1
theorem lq{P:Program}{t:TypeId}{d:TypeDesc}(h:P.underlying t=some d):da P (underlying t)=some d:=by show da P (match P.underlying t with|some d=>(pure d:Sem TypeDesc)|none=>stuck "no such type")=some d;rw[h];rfl
section
variable{P:Program}{kt:TypeId}
theorem vp{k:Int}{e:Bool}(hk:P.underlying kt=some (.int .i64)):da P (Instr.checkKey e 10000 kt (.int .i64 k))=some ():=by show da P (Instr.checkKey e (9999+1) kt (.int .i64 k))=some ();unfold Instr.checkKey;have:da P (underlying kt)=some (.int .i64):=lq hk;exact fq this rfl
theorem q7{k:Int}:∀(es:List (Value×AV×Nat)) (i:Nat),(∀e∈es,∃n,e.1=.int .i64 n/\n≠k)->Instr.findNow (.int .i64) (.int .i64 k) (d5 es) i=some none
 |[],_,_=>rfl
 |e::es,i,h=>by obtain⟨n,h1,h2⟩:=h e (by simp);have h3:(k==n)=false:=(by simpa using fun e=>h2 e.symm);simp only[d5,ahh,Instr.findNow,h1,Instr.sameNow,if_true,h3];exact q7 es (i+1) (fun e he=>h e (by simp[he]))
theorem qz{k:Int}:∀(es:List (Value×AV×Nat)) (i j:Nat) (hj:j<es.length),(∀e∈es,∃n,e.1=.int .i64 n)->es[j].1=.int .i64 k->(∀i (h:i<es.length),i<j->es[i].1≠.int .i64 k)->∃v,Instr.findNow (.int .i64) (.int .i64 k) (d5 es) i=some (some (i+j,v))
 |[],_,_,hj,_,_,_=>absurd hj (by simp)
 |e::es,i,0,hj,hi,h1,_=>by simp only[List.getElem_cons_zero]at h1;exact⟨undef,by simp[d5,Instr.findNow,h1,Instr.sameNow]⟩
 |e::es,i,j+1,hj,hi,h1,h2=>by obtain⟨n,hn⟩:=hi e (by simp);have h0:n≠k:=fun e'=>h2 0 (by simp) (by omega) (by simp[hn,e']);have h3:(k==n)=false:=(by simpa using fun e=>h0 e.symm);obtain⟨v,hv⟩:=qz es (i+1) j (by simpa using hj) (fun e he=>hi e (by simp[he])) (by simpa using h1) (fun q hq hqj=>by have:=h2 (q+1) (by simpa using hq) (by omega);simpa using this);refine⟨v,?_⟩;simp only[d5,ahh,Instr.findNow,hn,Instr.sameNow,if_true,h3];rw[show i+(j+1)=i+1+j by omega];exact hv
theorem yl{k:Int}{es:List (Value×AV×Nat)}(hk:P.underlying kt=some (.int .i64))(h:∀e∈es,∃n,e.1=.int .i64 n/\n≠k):pg P kt (.int .i64 k) es=some none:=by unfold pg;rw[vp hk];have h1:da P (Instr.findKey kt (.int .i64 k) (d5 es))=some none:=(by unfold Instr.findKey;refine fq (lq hk) ?_;rw[q7 es 0 h];rfl);rw[h1]
theorem Ip{k:Int}{es:List (Value×AV×Nat)}{j:Nat}(hk:P.underlying kt=some (.int .i64))(hj:j<es.length)(hi:∀e∈es,∃n,e.1=.int .i64 n)(h1:es[j].1=.int .i64 k)(h2:∀i (h:i<es.length),i<j->es[i].1≠.int .i64 k):pg P kt (.int .i64 k) es=some (some j):=by unfold pg;rw[vp hk];obtain⟨v,hv⟩:=qz es 0 j hj hi h1 h2;rw[Nat.zero_add]at hv;have h1:da P (Instr.findKey kt (.int .i64 k) (d5 es))=some (some (j,v)):=(by unfold Instr.findKey;refine fq (lq hk) ?_;rw[hv];rfl);rw[h1]
end
theorem Fz:∀es:List (Value×AV×Nat),Sb (es.map fun e=>.agg [.v e.1,e.2.1,.v (.int .i64 (Int.ofNat e.2.2))])=some es
 |[]=>rfl
 |e::es=>by have ih:=Fz es;simp only[ahh,Sb,ih]
theorem i8{η:bf}{id ver z clock:Nat}{es:List (Value×AV×Nat)}(h:η id=some (b5 ver z clock es)):qa η id ver=some (b5 ver z clock es,clock,es):=by have h1:J1 (i7 clock es)=some (clock,es):=(by have e:J1 (i7 clock es)=(match Sb (es.map fun e=>.agg [.v e.1,e.2.1,.v (.int .i64 (Int.ofNat e.2.2))])with|some es=>some (clock,es)|none=>none):=rfl;rw[e,Fz]);unfold qa;rw[h];have e2:(b5 ver z clock es).cs=i7 clock es:=rfl;have e3:(b5 ver z clock es).ver=ver:=rfl;have e4:(b5 ver z clock es).nilp=true:=rfl;simp only[e2,e3,e4,h1];simp
section
variable{P:Program}{τ:Nat->AV}{η:bf}{d:Option Tmp}{ty:TypeId}{pos:String}{af:Array Edge}{g:Option (Nat×Bool)}
theorem I9{t kt et id ver z clock:Nat}{m k x:Operand}{n:Int}{es:List (Value×AV×Nat)}(ht:P.underlying t=some (.map kt et))(hk:P.underlying kt=some (.int .i64))(hm:aev τ m=.mp id ver)(h0:aev τ k=.v (.int .i64 n))(hb:η id=some (b5 ver z clock es))
 (h:∀e∈es,∃q,e.1=.int .i64 q/\q≠n):LOp P ⟨d,.mapUpdate t m k x,ty,pos,af,g⟩ τ η [id] [(id,some (b5 ver z (clock+1) (es++[(.int .i64 n,aev τ x,clock)])))] (.v undef):=by
 refine kb (u:=0) (r:=⟨[id],[(id,some (b5 ver z (clock+1) (es++[(.int .i64 n,aev τ x,clock)])))],.v undef,0⟩) (.inl rfl) ?_
 unfold ny
 rw[ht]
 simp only[h0,hm,i8 hb,vp hk,yl hk h]
 rfl
theorem Ja{t kt et id ver z clock j:Nat}{x i:Operand}{n:Int}{v:AV}{z0:Value}{es:List (Value×AV×Nat)}(ht:P.underlying t=some (.map kt et))(hk:P.underlying kt=some (.int .i64))(hz:bi P et=some z0)(hm:aev τ x=.mp id ver)(h0:aev τ i=.v (.int .i64 n))(hb:η id=some (b5 ver z clock es))
 (hj:j<es.length)(hi:∀e∈es,∃q,e.1=.int .i64 q)(h1:es[j].1=.int .i64 n)(h2:∀i (h:i<es.length),i<j->es[i].1≠.int .i64 n)(hv:es[j].2.1=v):LOp P ⟨d,.lookup t x i false,ty,pos,af,g⟩ τ η [id] [] v:=by
 subst hv
 refine ow (u:=0) (r:=⟨[id],[],es[j].2.1,0⟩) ?_
 unfold B4
 rw[ht]
 simp only[h0,hz,hm,i8 hb,Ip hk hj hi h1 h2,agu hj]
 rfl
end
mutual
def AV.ren(g:Nat->Nat):AV->AV
 | .v x=>.v x
 | .tree n xs=>.tree n xs
 | .tp cs o=>.tp cs o
 | .unk=>.unk
 | .ptr id ver off=>.ptr (g id) ver off
 | .mp id ver=>.mp (g id) ver
 | .it id ver=>.it (g id) ver
 | .sl id ver off len=>.sl (g id) ver off len
 | .agg cs=>.agg (xe g cs)
 | .tup cs=>.tup (xe g cs)
 | .clo f cs=>.clo f (xe g cs)
def xe(g:Nat->Nat):List AV->List AV
 | []=>[]
 |a :: r=>a.ren g :: xe g r
end
mutual
def AV.inB(D:List Nat):AV->Bool
 | .v _=>true
 | .tree _ _=>true
 | .tp _ _=>true
 | .unk=>true
 | .ptr id _ _=>D.contains id
 | .mp id _=>D.contains id
 | .it id _=>D.contains id
 | .sl id _ _ _=>D.contains id
 | .agg cs=>inL D cs
 | .tup cs=>inL D cs
 | .clo _ cs=>inL D cs
def inL(D:List Nat):List AV->Bool
 | []=>true
 |a :: r=>a.inB D&&inL D r
end
theorem nm{g:Nat->Nat}:∀l:List AV,xe g l=l.map (AV.ren g)
 |[]=>rfl
 |a::r=>by rw[xe,nm r];rfl
theorem ci{g:Nat->Nat}(l:List AV):(xe g l).length=l.length:=by rw[nm,ag0]
theorem ig{g:Nat->Nat}{l:List AV}{i:Nat}(h:i<(xe g l).length):(xe g l)[i]=(l[i]'(by rw[ci]at h;exact h)).ren g:=by simp only[nm,List.getElem_map]
theorem afh{D:List Nat}{l:List AV}:inL D l=true↔∀a∈l,a.inB D=true:=by
 induction l with
 |nil=>simp[inL]
 |cons a r ih=>simp[inL,ih]
theorem m6{D:List Nat}{l:List AV}(h:inL D l=true)(i:Nat)(hi:i<l.length):l[i].inB D=true:=afh.1 h _ (agt _)
def Blk.ren(g:Nat->Nat)(b:Blk):Blk:=⟨b.ver,xe g b.cs,b.esz,b.nilp⟩
theorem bq{g:Nat->Nat}{b:Blk}:(b.ren g).kind=b.kind:=by obtain⟨v,cs,z,n⟩:=b;cases n<;>cases cs<;>rfl
structure Rens(D:List Nat)(g:Nat->Nat)(C C':Ctx):Prop where
 ρ:∀i,i∈D->C'.ρ (g i)=C.ρ i
 sz:∀i,i∈D->C'.sz (g i)=C.sz i
 η:∀i,i∈D->C'.η (g i)=(C.η i).map (Blk.ren g)
 U:∀i,i∈D->C'.U (g i)
 T:C'.T=C.T
 w:C'.w=C.w
theorem TR.ren{D:List Nat}{g:Nat->Nat}{C C':Ctx}(hr:Rens D g C C'){a:AV}{x:Value}(h:TR C.T C.w a x)(hd:a.inB D=true):VR C' (a.ren g) x:=by
 induction h with
 |v=>exact .imm (.v _)
 |unk=>exact .imm (.unk _)
 |tree cell h1 h2 h3 h4 h5 h6 h7=>exact .imm (by rw[hr.T,hr.w];exact .tree cell h1 h2 h3 h4 h5 h6 h7)
 |tree0 h=>exact .imm (.tree0 h)
 |tp cell h1 h2 h3=>exact .imm (by rw[hr.T,hr.w];exact .tp cell h1 h2 h3)
 |@agg cs vs hl hi ih=>exact .agg (by rw[ci];exact hl) (fun i h1 h2=>by
  have h3:i<cs.length:=by rw[ci]at h1;exact h1
  rw[ig h1];exact ih i h3 h2 (m6 hd i h3))
 |@tup cs vs hl hi ih=>exact .tup (by rw[ci];exact hl) (fun i h1 h2=>by
  have h3:i<cs.length:=by rw[ci]at h1;exact h1
  rw[ig h1];exact ih i h3 h2 (m6 hd i h3))
 |@clo f cs vs hl hi ih=>exact .clo (by rw[ci];exact hl) (fun i h1 h2=>by
  have h3:i<cs.length:=by rw[ci]at h1;exact h1
  rw[ig h1];exact ih i h3 h2 (m6 hd i h3))
theorem VR.ren{D:List Nat}{g:Nat->Nat}{C C':Ctx}(hr:Rens D g C C'){a:AV}{x:Value}(h:VR C a x)(hd:a.inB D=true):VR C' (a.ren g) x:=by
 have st:∀{id ver:Nat},id∈D->(∀b,C.η id=some b->ver<b.ver)->∀b,C'.η (g id)=some b->ver<b.ver:=by
  intro id ver h0 h b hb
  rw[hr.η id h0]at hb
  cases hc:C.η id with
  |none=>rw[hc]at hb;cases hb
  |some b0=>rw[hc]at hb;simp only[ahp,agw]at hb;subst hb;exact h b0 hc
 have lv:∀{id:Nat} {b:Blk},id∈D->C.η id=some b->C'.η (g id)=some (b.ren g):=fun h0 hb=>by rw[hr.η _ h0,hb];rfl
 induction h with
 |imm h=>exact TR.ren hr h hd
 |ptr hb he hn=>
  have h0:_∈D:=List.contains_iff_mem.1 hd
  rw[<-hr.ρ _ h0];exact .ptr (lv h0 hb) he hn
 |sl hb he hn h1 h2 h3 h4=>
  have h0:_∈D:=List.contains_iff_mem.1 hd
  rw[<-hr.ρ _ h0];exact .sl (lv h0 hb) he hn h1 h2 h3 (by rw[hr.ρ _ h0,hr.sz _ h0];exact h4)
 |slz hb he hn=>
  have h0:_∈D:=List.contains_iff_mem.1 hd
  exact .slz (lv h0 hb) he hn
 |slnil hb he hn=>
  have h0:_∈D:=List.contains_iff_mem.1 hd
  exact .slnil (lv h0 hb) he (by rw[bq];exact hn)
 |mp hb he hn=>
  have h0:_∈D:=List.contains_iff_mem.1 hd
  rw[<-hr.ρ _ h0];exact .mp (lv h0 hb) he (by rw[bq];exact hn)
 |it hb he hn=>
  have h0:_∈D:=List.contains_iff_mem.1 hd
  rw[<-hr.ρ _ h0];exact .it (lv h0 hb) he (by rw[bq];exact hn)
 |stalem h1 hu hs=>have h0:_∈D:=List.contains_iff_mem.1 hd;exact .stalem h1 (hr.U _ h0) (st h0 hs)
 |stalei h1 hu hs=>have h0:_∈D:=List.contains_iff_mem.1 hd;exact .stalei h1 (hr.U _ h0) (st h0 hs)
 |stalep h1 hu hs=>have h0:_∈D:=List.contains_iff_mem.1 hd;exact .stalep h1 (hr.U _ h0) (st h0 hs)
 |stales h1 hu hs=>have h0:_∈D:=List.contains_iff_mem.1 hd;exact .stales h1 (hr.U _ h0) (st h0 hs)
 |@agg cs vs hl hi ih=>exact .agg (by rw[ci];exact hl) (fun i h1 h2=>by
  have h3:i<cs.length:=by rw[ci]at h1;exact h1
  rw[ig h1];exact ih i h3 h2 (m6 hd i h3))
 |@tup cs vs hl hi ih=>exact .tup (by rw[ci];exact hl) (fun i h1 h2=>by
  have h3:i<cs.length:=by rw[ci]at h1;exact h1
  rw[ig h1];exact ih i h3 h2 (m6 hd i h3))
 |@clo f cs vs hl hi ih=>exact .clo (by rw[ci];exact hl) (fun i h1 h2=>by
  have h3:i<cs.length:=by rw[ci]at h1;exact h1
  rw[ig h1];exact ih i h3 h2 (m6 hd i h3))
structure Unrens(g:Nat->Nat)(K:List Nat)(C C0:Ctx):Prop where
 ρ:∀i,i∈K->C0.ρ i=C.ρ (g i)
 sz:∀i,i∈K->C0.sz i=C.sz (g i)
 η:∀i,i∈K->∃b,C0.η i=some b/\C.η (g i)=some (b.ren g)
 U:∀i,i∈K->C0.U i
 T:C0.T=C.T
 w:C0.w=C.w
theorem VR.unren{g:Nat->Nat}{K:List Nat}{C C0:Ctx}(hu:Unrens g K C C0):∀(a:AV) (x:Value),a.inB K=true->VR C (a.ren g) x->VR C0 a x
 |.v y,x,_,h=>by cases h with|imm h=>exact .imm (by rw[hu.T,hu.w];exact h)
 |.unk,x,_,h=>by cases h with|imm h=>exact .imm (by rw[hu.T,hu.w];exact h)
 |.tree n xs,x,_,h=>by cases h with|imm h=>exact .imm (by rw[hu.T,hu.w];exact h)
 |.tp cs o,x,_,h=>by cases h with|imm h=>exact .imm (by rw[hu.T,hu.w];exact h)
 |.ptr id ver off,x,hd,h=>by
  have h0:id∈K:=List.contains_iff_mem.1 hd
  obtain⟨b,h1,h2⟩:=hu.η id h0
  change VR C (.ptr (g id) ver off) x at h
  cases h with
  |imm h=>cases h
  |ptr hb he hn=>
   rw[h2]at hb;cases hb
   rw[<-hu.ρ id h0];exact .ptr h1 he hn
  |stalep hx _ hs=>exact .stalep hx (hu.U id h0) (fun b' hb'=>by rw[h1]at hb';cases hb';exact(show ver<(b.ren g).ver from hs _ h2))
 |.sl id ver off len,x,hd,h=>by
  have h0:id∈K:=List.contains_iff_mem.1 hd
  obtain⟨b,h1,h2⟩:=hu.η id h0
  change VR C (.sl (g id) ver off len) x at h
  cases h with
  |imm h=>cases h
  |sl hb he hn q1 q2 q3 q4=>
   rw[h2]at hb;cases hb
   rw[<-hu.ρ id h0];exact .sl h1 he hn q1 q2 q3 (by rw[hu.ρ id h0,hu.sz id h0];exact q4)
  |slz hb he hn=>rw[h2]at hb;cases hb;exact .slz h1 he hn
  |slnil hb he hn=>rw[h2]at hb;cases hb;exact .slnil h1 he (by rw[<-bq (g:=g)];exact hn)
  |stales hx _ hs=>exact .stales hx (hu.U id h0) (fun b' hb'=>by rw[h1]at hb';cases hb';exact(show ver<(b.ren g).ver from hs _ h2))
 |.mp id ver,x,hd,h=>by
  have h0:id∈K:=List.contains_iff_mem.1 hd
  obtain⟨b,h1,h2⟩:=hu.η id h0
  change VR C (.mp (g id) ver) x at h
  cases h with
  |imm h=>cases h
  |mp hb he hn=>
   rw[h2]at hb;cases hb
   rw[<-hu.ρ id h0];exact .mp h1 he (by rw[<-bq (g:=g)];exact hn)
  |stalem hx _ hs=>exact .stalem hx (hu.U id h0) (fun b' hb'=>by rw[h1]at hb';cases hb';exact(show ver<(b.ren g).ver from hs _ h2))
 |.it id ver,x,hd,h=>by
  have h0:id∈K:=List.contains_iff_mem.1 hd
  obtain⟨b,h1,h2⟩:=hu.η id h0
  change VR C (.it (g id) ver) x at h
  cases h with
  |imm h=>cases h
  |it hb he hn=>
   rw[h2]at hb;cases hb
   rw[<-hu.ρ id h0];exact .it h1 he (by rw[<-bq (g:=g)];exact hn)
  |stalei hx _ hs=>exact .stalei hx (hu.U id h0) (fun b' hb'=>by rw[h1]at hb';cases hb';exact(show ver<(b.ren g).ver from hs _ h2))
 |.agg cs,x,hd,h=>by
  change VR C (.agg (xe g cs)) x at h
  obtain⟨vs,rfl,h1,h2⟩:=h.agg_inv
  rw[ci]at h1
  exact .agg h1 (fun i hi h3=>by
   have h4:=List.sizeOf_lt_of_mem (agt hi:cs[i]∈cs)
   exact VR.unren hu cs[i] vs[i] (m6 hd i hi) (by have:=h2 i (by rw[ci];exact hi) h3;rw[ig]at this;exact this))
 |.tup cs,x,hd,h=>by
  change VR C (.tup (xe g cs)) x at h
  obtain⟨vs,rfl,h1,h2⟩:=h.tup_inv'
  rw[ci]at h1
  exact .tup h1 (fun i hi h3=>by
   have h4:=List.sizeOf_lt_of_mem (agt hi:cs[i]∈cs)
   exact VR.unren hu cs[i] vs[i] (m6 hd i hi) (by have:=h2 i (by rw[ci];exact hi) h3;rw[ig]at this;exact this))
 |.clo f cs,x,hd,h=>by
  change VR C (.clo f (xe g cs)) x at h
  obtain⟨vs,rfl,h1,h2⟩:=h.clo_inv
  rw[ci]at h1
  exact .clo h1 (fun i hi h3=>by
   have h4:=List.sizeOf_lt_of_mem (agt hi:cs[i]∈cs)
   exact VR.unren hu cs[i] vs[i] (m6 hd i hi) (by have:=h2 i (by rw[ci];exact hi) h3;rw[ig]at this;exact this))
termination_by a=>SizeOf.sizeOf a
decreasing_by all_goals(simp;omega)
theorem qt{g:Nat->Nat}{clock:Nat}{es:List (Value×AV×Nat)}:xe g (i7 clock es)=i7 clock (es.map fun e=>(e.1,e.2.1.ren g,e.2.2)):=by unfold i7;rw[nm,ahh,ahh,List.map_map,List.map_map];rfl
theorem D0{g:Nat->Nat}{s:ByteArray}{pos:Nat}:xe g (k8 s pos)=k8 s pos:=rfl
theorem wc{g:Nat->Nat}{m:AV}{since last:Nat}{seen:List Nat}:xe g (i6 m since seen last)=i6 (m.ren g) since seen last:=by unfold i6;rw[nm,ahh,ahh,ahh,ahh,List.map_map];rfl
theorem ObjR.ren{D:List Nat}{g:Nat->Nat}{C C':Ctx}(hr:Rens D g C C'){cs:List AV}{o:Obj}(h:ObjR C cs o)(hd:inL D cs=true):ObjR C' (xe g cs) o:=by
 cases h with
 |map hl hi=>
  rename_i es entries clock
  rw[qt]
  refine .map (by simpa using hl) (fun i h1 h2=>?_)
  have h3:i<es.length:=by simpa using h1
  have:=hi i h3 h2
  simp only[List.getElem_map]
  refine⟨this.1,this.2.1.ren hr ?_,this.2.2⟩
  have hm:=afh.1 hd (.agg [.v es[i].1,es[i].2.1,.v (.int .i64 (Int.ofNat es[i].2.2))]) (by
   unfold i7
   exact List.mem_cons_of_mem _ (List.mem_cons_of_mem _ (ahj.2 ⟨es[i],agt _,rfl⟩)))
  simp only[AV.inB,inL,ahs]at hm
  exact hm.2.1
 |siter=>exact .siter
 |miter0=>rw[wc];exact .miter0
 |miter hv=>
  rw[wc]
  exact .miter (hv.ren hr (afh.1 hd _ (by unfold i6;simp)))
theorem ObjR.unren{g:Nat->Nat}{K:List Nat}{C C0:Ctx}(hu:Unrens g K C C0){cs:List AV}{o:Obj}(h:ObjR C (xe g cs) o)(hd:inL K cs=true)(hk:(∃clock es,cs=i7 clock es)\/∃s p,cs=k8 s p):ObjR C0 cs o:=by rcases hk with⟨clock,es,rfl⟩|⟨s,p,rfl⟩;rw[qt]at h;obtain⟨entries,rfl,hl,hi⟩:=h.map_inv;have h0:es.length=entries.size:=(by simpa using hl);refine .map h0 (fun i h1 h2=>?_);have:=hi i (by simpa using h1) h2;simp only[List.getElem_map]at this;refine⟨this.1,VR.unren hu _ _ ?_ this.2.1,this.2.2⟩;have hm:=afh.1 hd (.agg [.v es[i].1,es[i].2.1,.v (.int .i64 (Int.ofNat es[i].2.2))]) (by unfold i7;exact List.mem_cons_of_mem _ (List.mem_cons_of_mem _ (ahj.2 ⟨es[i],agt _,rfl⟩)));simp only[AV.inB,inL,ahs]at hm;exact hm.2.1;rw[D0]at h;rw[h.siter_inv];exact .siter
def m8:List (Nat×Option Blk)->bf
 |[]=>fun _=>none
 |p::r=>fun id=>bif Nat.beq id p.1 then p.2 else m8 r id
def xt(P:Program)(f:FuncId)(args:List AV)(hb:List (Nat×Blk))(hb':List (Nat×Option Blk))(ret:AV):Prop:=
 ∀(C:Ctx) (vals:Array Value),Good C->C.η=hLz hb->(∀id,C.U id->TOP<=id)->VRs C args vals->
  Calls P f vals C.w (fun e w'=>∃x C',e=.returned x/\C'.w=w'/\C'.η=m8 hb'/\Good C'/\Fr C C'/\VR C' ret x)
def gOf:List (Nat×Nat)->Nat->Nat
 |[],i=>i
 |p::r,i=>bif Nat.beq i p.1 then p.2 else gOf r i
def bwd(m:List (Nat×Nat))(k:Nat):Option Nat:=(m.find? fun p=>Nat.beq p.2 k).map (·.1)
def qr:List Nat->Bool
 |[]=>true
 |a::r=>!r.contains a&&qr r
theorem Id:∀{l:List Nat},qr l=true↔l.Nodup
 |[]=>by simp[qr]
 |a::r=>by simp[qr,Id (l:=r)]
theorem jv{a b:Nat}(h:a≠b):Nat.beq a b=false:=by grind[Nat.beq,agv]
theorem Ag:∀{m:List (Nat×Nat)} {i k:Nat},(m.map (·.1)).Nodup->(i,k)∈m->gOf m i=k
 |p::r,i,k,hn,h=>by rw[ahh,List.nodup_cons]at hn;rcases ahk.1 h with rfl|h;simp[gOf];have:i≠p.1:=fun e=>hn.1 (by rw[<-e];exact ahj.2 ⟨(i,k),h,rfl⟩);simp only[gOf,jv this,cond_false];exact Ag hn.2 h
theorem o0{m:List (Nat×Nat)}{i k:Nat}(h:bwd m k=some i):(i,k)∈m:=by
 unfold bwd at h
 cases hf:m.find? (fun p=>Nat.beq p.2 k)with
 |none=>rw[hf]at h;cases h
 |some p=>
  rw[hf]at h
  simp only[ahp,agw]at h
  have h1:=List.find?_some hf
  have h2:=agv h1
  rw[<-h,<-h2]
  exact List.mem_of_find?_eq_some hf
theorem Hj{m:List (Nat×Nat)}{k:Nat}(h:bwd m k=none):∀i,(i,k)∉m:=by intro i hi;unfold bwd at h;rw[Option.map_eq_none_iff,List.find?_eq_none]at h;exact h (i,k) hi (by simp)
theorem Kj{m:List (Nat×Nat)}(hn:(m.map (·.2)).Nodup){i i' k:Nat}(h:(i,k)∈m)(h':(i',k)∈m):i=i':=by
 induction m with
 |nil=>cases h
 |cons p r ih=>
  rw[ahh,List.nodup_cons]at hn
  rcases ahk.1 h with rfl|h1<;>rcases ahk.1 h' with e|h2
  ·exact(Prod.mk.inj e).1.symm
  ·exact absurd (ahj.2 ⟨(i',k),h2,rfl⟩) hn.1
  ·subst e;exact absurd (ahj.2 ⟨(i,k),h1,rfl⟩) hn.1
  ·exact ih hn.2 h1 h2
theorem Tt{m:List (Nat×Nat)}(hn:(m.map (·.2)).Nodup){i k:Nat}(h:(i,k)∈m):bwd m k=some i:=by
 cases hb:bwd m k with
 |none=>exact absurd h (Hj hb i)
 |some i'=>rw[Kj hn (o0 hb) h]
theorem D7:∀{δ:List (Nat×Option Blk)} {η:bf} {k:Nat},k∉δ.map (·.1)->η.put δ k=η k
 |[],_,_,_=>rfl
 |p::r,η,k,h=>by rw[ahh,ahk]at h;have h1:k≠p.1:=fun e=>h (.inl e);show(η.set p.1 p.2).put r k=η k;rw[D7 (fun e=>h (.inr e)),aq _ _ h1]
theorem Su:∀{δ:List (Nat×Option Blk)} {η:bf} {k:Nat} {ob:Option Blk},(δ.map (·.1)).Nodup->(k,ob)∈δ->η.put δ k=ob
 |p::r,η,k,ob,hn,h=>by rw[ahh,List.nodup_cons]at hn;show(η.set p.1 p.2).put r k=ob;rcases ahk.1 h with e|h;subst e;rw[D7 hn.1,am];exact Su hn.2 h
theorem uk:∀{l:List (Nat×Option Blk)} {i:Nat} {ob:Option Blk},(l.map (·.1)).Nodup->(i,ob)∈l->m8 l i=ob
 |p::r,i,ob,hn,h=>by rw[ahh,List.nodup_cons]at hn;rcases ahk.1 h with rfl|h;simp[m8];have:i≠p.1:=fun e=>hn.1 (by rw[<-e];exact ahj.2 ⟨(i,ob),h,rfl⟩);simp only[m8,jv this,cond_false];exact uk hn.2 h
theorem wi:∀{l:List (Nat×Option Blk)} {i:Nat},i∉l.map (·.1)->m8 l i=none
 |[],_,_=>rfl
 |p::r,i,h=>by rw[ahh,ahk]at h;simp only[m8,jv (fun e=>h (.inl e)),cond_false];exact wi (fun e=>h (.inr e))
theorem Ae:∀{l:List (Nat×Blk)} {i:Nat},i∈l.map (·.1)->∃b,hLz l i=some b/\(i,b)∈l
 |p::r,i,h=>by by_cases e:i=p.1;subst e;exact⟨p.2,by simp[hLz],by simp⟩;rw[ahh,ahk]at h;obtain⟨b,h1,h2⟩:=Ae (h.resolve_left e);exact⟨b,by simp only[hLz,jv e,cond_false];exact h1,List.mem_cons_of_mem _ h2⟩
theorem Cb:∀{l:List (Nat×Blk)} {i:Nat},i∉l.map (·.1)->hLz l i=none
 |[],_,_=>rfl
 |p::r,i,h=>by rw[ahh,ahk]at h;simp only[hLz,jv (fun e=>h (.inl e)),cond_false];exact Cb (fun e=>h (.inr e))
def zq(K:List Nat)(b:Blk):Prop:=inL K b.cs=true/\(b.nilp=false\/b.cs=[]\/(∃clock es,b.cs=i7 clock es)\/∃s p,b.cs=k8 s p)
def okO(D:List Nat):Option Blk->Prop
 |some b=>inL D b.cs=true
 |none=>True
def Dp{α:Type}(p:α->Prop):List α->Prop
 |[]=>True
 |a::r=>p a/\Dp p r
theorem Rm{α:Type}{p:α->Prop}:∀{l:List α},Dp p l↔∀a∈l,p a
 |[]=>by simp[Dp]
 |a::r=>by simp[Dp,Rm (l:=r)]
section
variable{P:Program}{τ:Nat->AV}{η:bf}{d:Option Tmp}{ty:TypeId}{pos:String}{af:Array Edge}{g:Option (Nat×Bool)}
theorem aax{C:Ctx}(hg:Good C){m:List (Nat×Nat)}{hb:List (Nat×Blk)}(hc:(m.map (·.2)).Nodup)(h9:(m.map (·.1)).Nodup)(h7:∀p∈hb,p.1∈m.map (·.1))(hη:∀p∈hb,C.η (gOf m p.1)=some (p.2.ren (gOf m)))(ha:∀p∈hb,zq (hb.map (·.1)) p.2):
 let C0:Ctx:=⟨fun i=>C.ρ (gOf m i),fun i=>C.sz (gOf m i),hLz hb,fun i=>i∈hb.map (·.1),C.T,C.w⟩
 Unrens (gOf m) (hb.map (·.1)) C C0/\Good C0/\∀k,C0.mine k->∃i,i∈hb.map (·.1)/\C.live (gOf m i)/\(C.ρ (gOf m i)).1=k:=by
 intro C0
 have hu:Unrens (gOf m) (hb.map (·.1)) C C0:=by refine⟨fun _ _=>rfl,fun _ _=>rfl,fun i hi=>?_,fun _ hi=>hi,rfl,rfl⟩;obtain⟨b,h1,h2⟩:=Ae hi;exact⟨b,h1,hη _ h2⟩
 have h5:∀{i b},C0.η i=some b->i∈hb.map (·.1)/\(i,b)∈hb:=by intro i b hb';by_cases hi:i∈hb.map (·.1);obtain⟨b1,h1,h2⟩:=Ae hi;have:C0.η i=some b1:=h1;rw[this]at hb';cases hb';exact⟨hi,h2⟩;have:C0.η i=none:=Cb hi;rw[this]at hb';cases hb'
 have h0:∀{i},C0.live i->i∈hb.map (·.1)/\C.live (gOf m i):=by rintro i ⟨b,h1,h2⟩;obtain⟨k1,k2⟩:=h5 h1;exact⟨k1,_,hη _ k2,by rw[bq];exact h2⟩
 have h8:∀{i j},i∈hb.map (·.1)->j∈hb.map (·.1)->gOf m i=gOf m j->i=j:=by intro i j hi hj e;obtain⟨p,hp,rfl⟩:=ahj.1 hi;obtain⟨q,hq,rfl⟩:=ahj.1 hj;obtain⟨⟨i',k⟩,h1,h2⟩:=ahj.1 (h7 p hp);obtain⟨⟨j',k'⟩,h3,h4⟩:=ahj.1 (h7 q hq);simp only at h2 h4;subst h2 h4;rw[Ag h9 h1,Ag h9 h3]at e;subst e;exact Kj hc h1 h3
 refine⟨hu,⟨fun h=>(h5 h).1,?_,?_,?_,hg.tok,?_,?_⟩,fun k ⟨i,hl,hk⟩=>⟨i,(h0 hl).1,(h0 hl).2,hk⟩⟩
 ·intro i b hb' hk
  obtain⟨k1,k2⟩:=h5 hb'
  obtain⟨o,h1,h2⟩:=hg.obj (hη _ k2) (by rw[bq];exact hk)
  obtain⟨q1,q2⟩:=ha _ k2
  refine⟨o,h1,ObjR.unren hu h2 q1 ?_⟩
  rcases q2 with h|h|h
  ·rw[dj h]at hk;cases hk
  ·obtain⟨_,h3⟩:=H1 hk;exact absurd h h3
  ·exact h
 ·intro i b hb' hn
  obtain⟨k1,k2⟩:=h5 hb'
  obtain⟨c,t,g1,g2,g3,g4⟩:=hg.blk (hη _ k2) hn
  obtain⟨q1,_⟩:=ha _ k2
  have h6:(b.ren (gOf m)).cs.length=b.cs.length:=ci _
  refine⟨c,t,g1,g2,by rw[<-h6];exact g3,fun j h h'=>VR.unren hu _ _ (m6 q1 j h) ?_⟩
  have:=g4 j (by rw[h6];exact h) h'
  have e:(b.ren (gOf m)).cs[j]'(by rw[h6];exact h)=(b.cs[j]).ren (gOf m):=ig _
  rw[e]at this
  exact this
 ·intro i j hi hj e
  exact h8 (h0 hi).1 (h0 hj).1 (hg.inj (h0 hi).2 (h0 hj).2 e)
 ·rintro k ⟨i,hl,hk⟩ hT
  exact hg.apart ⟨gOf m i,(h0 hl).2,hk⟩ hT
 ·intro i b hb' hv hn
  obtain⟨k1,k2⟩:=h5 hb'
  have:=hg.tight (hη _ k2) hv hn
  have h6:(b.ren (gOf m)).cs.length=b.cs.length:=ci _
  rw[h6]at this
  exact this
end
section
variable{P:Program}{τ:Nat->AV}{η:bf}{d:Option Tmp}{ty:TypeId}{pos:String}{af:Array Edge}{g:Option (Nat×Bool)}
def d6(m:List (Nat×Nat))(hb':List (Nat×Option Blk)):List (Nat×Option Blk):=hb'.map fun p=>(gOf m p.1,p.2.map (Blk.ren (gOf m)))
theorem Cz{o:Oper}{f:FuncId}{args:List AV}{hb:List (Nat×Blk)}{hb':List (Nat×Option Blk)}{ret:AV}(m:List (Nat×Nat))(hc:xt P f args hb hb' ret)
 (hm:m.map (·.1)=hb'.map (·.1))(h1:qr (m.map (·.1))=true)(h2:qr (m.map (·.2))=true)(g9:hb.all (fun p=>Nat.ble TOP p.1&&(m.map (·.1)).contains p.1)=true)
 (hη:Dp (fun p=>η (gOf m p.1)=some (p.2.ren (gOf m))) hb)(gs:Dp (fun p=>zq (hb.map (·.1)) p.2) hb)(ga:Dp (fun p=>okO (m.map (·.1)) p.2) hb')(g4:inL (hb.map (·.1)) args=true)(gb:ret.inB (m.map (·.1))=true)
 (h:∀(C:Ctx) (a:Act),Good C->(∀x∈o.op.operands,VR C (aev τ x) (a.eval x))->∃vals,VRs C (xe (gOf m) args) vals/\(execOp a.eval o).run P C.w=.ok (.enter f vals) C.w):
 LOp P o τ η (hb.map fun p=>gOf m p.1) (d6 m hb') (ret.ren (gOf m)):=by
 intro C a hg gt gu gc K Q hK
 have n1:=Id.1 h1
 have n2:=Id.1 h2
 have n3:(hb'.map (·.1)).Nodup:=hm▸n1
 have h6:∀p∈hb,TOP<=p.1/\p.1∈m.map (·.1):=fun p hp=>by
  have:=List.all_eq_true.1 g9 p hp
  rw[ahs]at this
  exact⟨aha this.1,List.contains_iff_mem.1 this.2⟩
 have hη1:=Rm.1 hη
 have gd:=Rm.1 gs
 have ge:=Rm.1 ga
 have hCη:∀p∈hb,C.η (gOf m p.1)=some (p.2.ren (gOf m)):=fun p hp=>(gu _ (ahj.2 ⟨p,hp,rfl⟩)).trans (hη1 p hp)
 obtain⟨hu,gp,h9⟩:=aax hg n2 n1 (fun p hp=>(h6 p hp).2) hCη gd
 generalize g1:(⟨fun i=>C.ρ (gOf m i),fun i=>C.sz (gOf m i),hLz hb,fun i=>i∈hb.map (·.1),C.T,C.w⟩:Ctx)=C0 at hu gp h9
 have eη:C0.η=hLz hb:=by rw[<-g1]
 have eU:∀i,C0.U i↔i∈hb.map (·.1):=fun i=>by rw[<-g1]
 have eρ:∀i,C0.ρ i=C.ρ (gOf m i):=fun i=>by rw[<-g1]
 have esz:∀i,C0.sz i=C.sz (gOf m i):=fun i=>by rw[<-g1]
 have eT:C0.T=C.T:=by rw[<-g1]
 have ew:C0.w=C.w:=by rw[<-g1]
 obtain⟨vals,⟨gq,hv⟩,gf⟩:=h C a hg gt
 have g5:VRs C0 args vals:=by
  rw[ci]at gq
  refine⟨gq,fun i hi gv=>VR.unren hu _ _ (m6 g4 i hi) ?_⟩
  have:=hv i (by rw[ci];exact hi) gv
  rw[ig]at this
  exact this
 have hh:∀{k},C0.mine k->C.mine k:=fun hk=>by
  obtain⟨i,_,hl,e⟩:=h9 _ hk
  exact⟨_,hl,e⟩
 unfold Oper.wp
 rw[gf]
 have ht:=hc C0 vals gp eη (fun i hi=>by
  obtain⟨p,hp,rfl⟩:=ahj.1 ((eU i).1 hi)
  exact(h6 p hp).1) g5
 rw[ew]at ht
 refine Calls.mono ht ?_
 rintro e w' ⟨x,C1,rfl,rfl,hη',g2,he,hx⟩
 -- the caller's blocks after the call
 let C2:Ctx:=⟨fun k=>match bwd m k with|some i=>C1.ρ i|none=>C.ρ k,fun k=>match bwd m k with|some i=>C1.sz i|none=>C.sz k,
  fun k=>match bwd m k with|some i=>(C1.η i).map (Blk.ren (gOf m))|none=>C.η k,fun k=>C.U k\/(bwd m k).isSome=true,C1.T,C1.w⟩
 have g3:∀{i k},(i,k)∈m->gOf m i=k:=fun h=>Ag n1 h
 have hD:∀{i},i∈m.map (·.1)->bwd m (gOf m i)=some i:=by
  intro i hi
  obtain⟨⟨i',k⟩,h3,h4⟩:=ahj.1 hi
  simp only at h4;subst h4
  rw[g3 h3];exact Tt n2 h3
 have hy:Rens (m.map (·.1)) (gOf m) C1 C2:=by
  refine⟨fun i hi=>?_,fun i hi=>?_,fun i hi=>?_,fun i hi=>?_,rfl,rfl⟩
  ·simp only[C2,hD hi]
  ·simp only[C2,hD hi]
  ·simp only[C2,hD hi]
  ·simp only[C2,hD hi];exact .inr rfl
 have gg:∀{i b},C1.η i=some b->i∈m.map (·.1)/\(i,some b)∈hb':=by
  intro i b hz
  rw[hη']at hz
  by_cases hi:i∈hb'.map (·.1)
  ·obtain⟨⟨i',ob⟩,h3,h4⟩:=ahj.1 hi
   simp only at h4;subst h4
   have:=uk n3 h3
   rw[this]at hz;subst hz
   exact⟨hm▸hi,h3⟩
  ·rw[wi hi]at hz;cases hz
 have ho:∀{i b},C1.η i=some b->inL (m.map (·.1)) b.cs=true:=fun hz=>ge _ (gg hz).2
 -- live blocks
 have hr:∀{k b},C2.η k=some b->(∃i b1,bwd m k=some i/\C1.η i=some b1/\b=b1.ren (gOf m))\/(bwd m k=none/\C.η k=some b):=by
  intro k b h0
  cases hf:bwd m k with
  |none=>right;refine⟨rfl,?_⟩;simpa only[C2,hf]using h0
  |some i=>
   left
   have:(C1.η i).map (Blk.ren (gOf m))=some b:=by simpa only[C2,hf]using h0
   cases gh:C1.η i with
   |none=>rw[gh]at this;cases this
   |some b1=>rw[gh]at this;simp only[ahp,agw]at this;exact⟨i,b1,rfl,gh,this.symm⟩
 have hd:∀{k},bwd m k=none->C.live k->¬C0.mine (C.ρ k).1:=by
  intro k hf hl gw
  obtain⟨i,hi,gx,e⟩:=h9 _ gw
  have:=hg.inj gx hl e
  subst this
  obtain⟨p,hp,rfl⟩:=ahj.1 hi
  rw[hD (h6 p hp).2]at hf
  cases hf
 have g7:∀{k},C.live k->(C.ρ k).1<C0.w.heap.size:=fun hl=>by rw[ew];exact hg.lt hl
 have hm1c:∀{k},C1.mine k->C.mine k\/C.w.heap.size<=k:=fun hk=>(he.mine _ hk).imp hh (fun h=>by rw[ew]at h;exact h)
 have gi:Ev C C2:=by
  refine⟨⟨?_,?_,?_,?_,?_,?_,?_,?_⟩,fun _ h=>.inl h,?_⟩
  ·have:=he.os;rw[ew]at this;exact this
  ·have:=he.tape;rw[ew]at this;exact this
  ·have:=he.output;rw[ew]at this;exact this
  ·have:=he.size;rw[ew]at this;exact this
  ·intro k hk hn
   have:=he.keep k (by rw[ew];exact hk) (fun h=>hn (hh h))
   rw[ew]at this;exact this
  ·rintro k ⟨id,⟨b,h0,h7⟩,rfl⟩
   rcases hr h0 with⟨i,b1,e1,e2,rfl⟩|⟨e1,e2⟩
   ·have e3:C2.ρ id=C1.ρ i:=by simp only[C2,e1]
    rw[e3]
    exact hm1c ⟨i,⟨b1,e2,by rw[bq]at h7;exact h7⟩,rfl⟩
   ·have e3:C2.ρ id=C.ρ id:=by simp only[C2,e1]
    rw[e3]
    exact .inl ⟨id,⟨b,e2,h7⟩,rfl⟩
  ·intro k hk
   exact he.T k (by rw[eT];exact hk)
  ·intro k hk
   rcases he.Tnew k hk with h|h|h
   ·exact .inl (by rw[<-eT];exact h)
   ·exact .inr (.inl (hh h))
   ·exact .inr (.inr (by rw[<-ew];exact h))
  ·intro id b' hU h0
   rcases hr h0 with⟨i,b1,e1,e2,rfl⟩|⟨e1,e2⟩
   ·have hq:=o0 e1
    have g8:=g3 hq
    by_cases hi:i∈hb.map (·.1)
    ·have gy:TOP<=i:=by obtain⟨p,hp,rfl⟩:=ahj.1 hi;exact(h6 p hp).1
     obtain⟨_,gj⟩:=he.pin i gy ((eU i).2 hi)
     obtain⟨b0,q1,q2,q3⟩:=gj b1 e2
     obtain⟨b0',q4,q5⟩:=hu.η i hi
     rw[q1]at q4;cases q4
     rw[g8]at q5
     refine⟨_,q5,q2,fun e=>?_⟩
     obtain⟨r1,r2,r3,r4⟩:=q3 e
     refine⟨?_,?_,by rw[bq,bq];exact r3,r4⟩
     ·simp only[C2,e1];rw[r1,eρ,g8]
     ·simp only[C2,e1];rw[r2,esz,g8]
    ·exfalso
     have h8:i∈m.map (·.1):=ahj.2 ⟨_,hq,rfl⟩
     obtain⟨ob,gz⟩:∃ob,(i,ob)∈hb':=by
      rw[hm]at h8
      obtain⟨⟨i',ob⟩,h3,h4⟩:=ahj.1 h8
      simp only at h4;subst h4
      exact⟨ob,h3⟩
     refine gc (gOf m i,ob.map (Blk.ren (gOf m))) (ahj.2 ⟨(i,ob),gz,rfl⟩) (fun gk=>?_) (by rw[g8];exact hU)
     obtain⟨p,hp,e⟩:=ahj.1 gk
     have h5:=hD (h6 p hp).2
     simp only at e
     rw[e,hD h8]at h5
     exact hi (ahj.2 ⟨p,hp,(Option.some.inj h5).symm⟩)
   ·refine⟨b',e2,ag8 _,fun _=>⟨?_,?_,rfl,rfl⟩⟩
    ·simp only[C2,e1]
    ·simp only[C2,e1]
 have hw:∀{k},bwd m k=none->C.live k->C1.w.heap[(C.ρ k).1]? =C.w.heap[(C.ρ k).1]?:=fun hf hl=>by
  have:=he.keep _ (g7 hl) (hd hf hl)
  rw[ew]at this;exact this
 have g6:Good C2:=by
  refine⟨?_,?_,?_,?_,g2.tok,?_,?_⟩
  ·intro k b h0
   rcases hr h0 with⟨i,b1,e1,e2,rfl⟩|⟨e1,e2⟩
   ·exact .inr (by simp[e1])
   ·exact .inl (hg.used e2)
  ·intro k b h0 hk
   rcases hr h0 with⟨i,b1,e1,e2,rfl⟩|⟨e1,e2⟩
   ·have e3:C2.ρ k=C1.ρ i:=by simp only[C2,e1]
    obtain⟨ob,q1,q2⟩:=g2.obj e2 (by rw[bq]at hk;exact hk)
    rw[e3]
    exact⟨ob,q1,q2.ren hy (ho e2)⟩
   ·have e3:C2.ρ k=C.ρ k:=by simp only[C2,e1]
    obtain⟨ob,q1,q2⟩:=hg.obj e2 hk
    rw[e3]
    exact⟨ob,(hw e1 ⟨b,e2,by rw[hk];decide⟩).trans q1,q2.mono hg gi⟩
  ·intro k b h0 hn
   rcases hr h0 with⟨i,b1,e1,e2,rfl⟩|⟨e1,e2⟩
   ·have e3:C2.ρ k=C1.ρ i:=by simp only[C2,e1]
    have e4:C2.sz k=C1.sz i:=by simp only[C2,e1]
    have hs:(b1.ren (gOf m)).cs.length=b1.cs.length:=ci _
    obtain⟨c,t,q1,q2,q3,q4⟩:=g2.blk e2 hn
    rw[e3,e4]
    refine⟨c,t,q1,q2,by rw[hs];exact q3,fun j hj gl=>?_⟩
    have gr:j<b1.cs.length:=by rw[hs]at hj;exact hj
    have e5:(b1.ren (gOf m)).cs[j]'hj=(b1.cs[j]).ren (gOf m):=ig hj
    rw[e5]
    exact(q4 j gr gl).ren hy (m6 (ho e2) j gr)
   ·have e3:C2.ρ k=C.ρ k:=by simp only[C2,e1]
    have e4:C2.sz k=C.sz k:=by simp only[C2,e1]
    obtain⟨c,t,q1,q2,q3,q4⟩:=hg.blk e2 hn
    rw[e3,e4]
    exact⟨c,t,(hw e1 ⟨b,e2,di hn⟩).trans q1,q2,q3,fun j hj gl=>(q4 j hj gl).mono hg gi⟩
  ·rintro k k' ⟨b,h0,h7⟩ ⟨b',gm,ha⟩ e
   rcases hr h0 with⟨i,b1,e1,e2,rfl⟩|⟨e1,e2⟩<;>rcases hr gm with⟨i',b1',e1',e2',rfl⟩|⟨e1',e2'⟩
   ·have f1:C2.ρ k=C1.ρ i:=by simp only[C2,e1]
    have f2:C2.ρ k'=C1.ρ i':=by simp only[C2,e1']
    rw[f1,f2]at e
    have:=g2.inj ⟨b1,e2,by rw[bq]at h7;exact h7⟩ ⟨b1',e2',by rw[bq]at ha;exact ha⟩ e
    subst this
    rw[<-g3 (o0 e1),<-g3 (o0 e1')]
   ·exfalso
    have f1:C2.ρ k=C1.ρ i:=by simp only[C2,e1]
    have f2:C2.ρ k'=C.ρ k':=by simp only[C2,e1']
    rw[f1,f2]at e
    have gn:C1.mine (C1.ρ i).1:=⟨i,⟨b1,e2,by rw[bq]at h7;exact h7⟩,rfl⟩
    rcases he.mine _ gn with q|q
    ·rw[e]at q;exact hd e1' ⟨b',e2',ha⟩ q
    ·have:=g7 ⟨b',e2',ha⟩;omega
   ·exfalso
    have f1:C2.ρ k'=C1.ρ i':=by simp only[C2,e1']
    have f2:C2.ρ k=C.ρ k:=by simp only[C2,e1]
    rw[f1,f2]at e
    have gn:C1.mine (C1.ρ i').1:=⟨i',⟨b1',e2',by rw[bq]at ha;exact ha⟩,rfl⟩
    rcases he.mine _ gn with q|q
    ·rw[<-e]at q;exact hd e1 ⟨b,e2,h7⟩ q
    ·have:=g7 ⟨b,e2,h7⟩;omega
   ·have f1:C2.ρ k=C.ρ k:=by simp only[C2,e1]
    have f2:C2.ρ k'=C.ρ k':=by simp only[C2,e1']
    rw[f1,f2]at e
    exact hg.inj ⟨b,e2,h7⟩ ⟨b',e2',ha⟩ e
  ·rintro k ⟨id,⟨b,h0,h7⟩,rfl⟩ hT
   rcases hr h0 with⟨i,b1,e1,e2,rfl⟩|⟨e1,e2⟩
   ·have f1:C2.ρ id=C1.ρ i:=by simp only[C2,e1]
    rw[f1]at hT
    exact g2.apart ⟨i,⟨b1,e2,by rw[bq]at h7;exact h7⟩,rfl⟩ hT
   ·have f1:C2.ρ id=C.ρ id:=by simp only[C2,e1]
    rw[f1]at hT
    rcases he.Tnew _ hT with q|q|q
    ·rw[eT]at q;exact hg.apart ⟨id,⟨b,e2,h7⟩,rfl⟩ q
    ·exact hd e1 ⟨b,e2,h7⟩ q
    ·have:=g7 ⟨b,e2,h7⟩;omega
  ·intro k b h0 hv hn
   rcases hr h0 with⟨i,b1,e1,e2,rfl⟩|⟨e1,e2⟩
   ·have e3:C2.ρ k=C1.ρ i:=by simp only[C2,e1]
    have e4:C2.sz k=C1.sz i:=by simp only[C2,e1]
    have hs:(b1.ren (gOf m)).cs.length=b1.cs.length:=ci _
    rw[e3,e4,hs]
    exact g2.tight e2 hv hn
   ·have e3:C2.ρ k=C.ρ k:=by simp only[C2,e1]
    have e4:C2.sz k=C.sz k:=by simp only[C2,e1]
    rw[e3,e4]
    exact hg.tight e2 hv hn
 -- what is written
 have g0:(d6 m hb').map (·.1)=m.map (·.2):=by
  have e1:(d6 m hb').map (·.1)=(hb'.map (·.1)).map (gOf m):=by simp[d6,Function.comp_def]
  rw[e1,<-hm,List.map_map]
  exact List.map_congr_left (fun p hp=>g3 (show(p.1,p.2)∈m from hp))
 have go:C2.η=C.η.put (d6 m hb'):=by
  funext k
  cases hf:bwd m k with
  |none=>
   rw[D7 (by
    rw[g0]
    intro hk
    obtain⟨p,hp,rfl⟩:=ahj.1 hk
    exact Hj hf p.1 hp)]
   simp only[C2,hf]
  |some i=>
   have hq:=o0 hf
   have h8:i∈hb'.map (·.1):=hm▸ahj.2 ⟨_,hq,rfl⟩
   obtain⟨⟨i',ob⟩,h3,h4⟩:=ahj.1 h8
   simp only at h4;subst h4
   have h5:(gOf m i',ob.map (Blk.ren (gOf m)))∈d6 m hb':=ahj.2 ⟨_,h3,rfl⟩
   rw[g3 hq]at h5
   rw[Su (by rw[g0];exact n2) h5]
   simp only[C2,hf,hη',uk n3 h3]
 refine hK x C2 go (fun k=>?_) g6 gi (hx.ren hy gb)
 rw[g0]
 constructor
 ·rintro(hk|hk)
  ·exact .inl hk
  ·obtain⟨i,hi⟩:=Option.isSome_iff_exists.1 hk
   exact .inr (ahj.2 ⟨_,o0 hi,rfl⟩)
 ·rintro(hk|hk)
  ·exact .inl hk
  ·obtain⟨⟨i,k'⟩,hp,rfl⟩:=ahj.1 hk
   exact .inr (by rw[Tt n2 hp];rfl)
theorem a8{f:FuncId}{xs:Array Operand}{ats:Array TypeId}{args:List AV}{hb:List (Nat×Blk)}{hb':List (Nat×Option Blk)}{ret r:AV}{fp:List Nat}{δ:List (Nat×Option Blk)}(m:List (Nat×Nat))(h6:bv P f=true)(hc:xt P f args hb hb' ret)
 (hm:m.map (·.1)=hb'.map (·.1))(h1:qr (m.map (·.1))=true)(h2:qr (m.map (·.2))=true)(h3:hb.all (fun p=>Nat.ble TOP p.1&&(m.map (·.1)).contains p.1)=true)
 (hη:Dp (fun p=>η (gOf m p.1)=some (p.2.ren (gOf m))) hb)(h7:Dp (fun p=>zq (hb.map (·.1)) p.2) hb)(h4:Dp (fun p=>okO (m.map (·.1)) p.2) hb')(h0:inL (hb.map (·.1)) args=true)(h5:ret.inB (m.map (·.1))=true)
 (h8:xs.toList.map (aev τ)=xe (gOf m) args)(h9:(hb.map fun p=>gOf m p.1)=fp)(hδ:d6 m hb'=δ)(hr:ret.ren (gOf m)=r):
 LOp P ⟨d,.call {callee:=.value (.func f),args:=xs,argTypes:=ats},ty,pos,af,g⟩ τ η fp δ r:=by
 subst h9 hδ hr
 refine Cz m hc hm h1 h2 h3 hη h7 h4 h0 h5 fun C a hg hx=>⟨xs.map a.eval,?_,?_⟩
 ·rw[<-h8]
  refine⟨by simp,fun i h h'=>?_⟩
  simp only[List.getElem_map,Array.getElem_toList,Array.getElem_map]
  exact hx _ (by simp[Op.operands,Call.operands])
 ·have:execOp a.eval ⟨d,.call {callee:=.value (.func f),args:=xs,argTypes:=ats},ty,pos,af,g⟩=callFunc f (#[]++xs.map a.eval++#[]):=rfl
  rw[this,d9 h6]
  simp
theorem cw{o:Oper}{fp:List Nat}{δ:List (Nat×Option Blk)}{v:AV}(h:LOp P o τ η fp δ v)(hs:Dp (fun p=>p.1∈fp/\η p.1=p.2/\p.2.isSome=true) δ):LOp P o τ η fp [] v:=by
 have h0:=Rm.1 hs
 intro C a hg h7 h6 _ K Q hK
 refine h C a hg h7 h6 (fun p hp hn=>absurd (h0 p hp).1 hn) K Q fun x C' h1 h2 h3 h4 h5=>hK x C' ?_ (fun id=>?_) h3 h4 h5
 ·rw[h1]
  have:∀(δ:List (Nat×Option Blk)) (η':bf),(∀p∈δ,η' p.1=p.2)->η'.put δ=η':=by
   intro δ
   induction δ with
   |nil=>intro _ _;rfl
   |cons p r ih=>
    intro η' hp
    have e:η'.set p.1 p.2=η':=by
     funext k
     by_cases hk:k=p.1
     ·subst hk;rw[am,hp p (by simp)]
     ·rw[aq _ _ hk]
    show(η'.set p.1 p.2).put r=η'
    rw[e]
    exact ih η' (fun q hq=>hp q (by simp[hq]))
  exact this δ C.η (fun p hp=>(h6 _ (h0 p hp).1).trans (h0 p hp).2.1)
 ·rw[h2]
  simp only[List.map_nil,List.not_mem_nil,or_false]
  constructor
  ·rintro(hk|hk)
   ·exact hk
   ·obtain⟨p,hp,rfl⟩:=ahj.1 hk
    obtain⟨q1,q2,q3⟩:=h0 p hp
    obtain⟨b,hb⟩:=Option.isSome_iff_exists.1 q3
    exact hg.used ((h6 _ q1).trans (q2.trans hb))
  ·exact .inl
end
theorem VR.shift{C C':Ctx}(hρ:C'.ρ=C.ρ)(h6:C'.sz=C.sz)(hw:C'.w=C.w)(hU:C'.U=C.U)(hT:∀b,C.T b->C'.T b)(h5:∀{id b},C.η id=some b->C.U id)
 (hη:∀id b',C'.η id=some b'->∃b,C.η id=some b/\b'.ver=b.ver/\b'.nilp=b.nilp/\b'.kind=b.kind/\b'.esz=b.esz){a:AV}{x:Value}(h:VR C a x):VR C' a x:=by
 have st:∀{id ver:Nat},(∀b,C.η id=some b->ver<b.ver)->∀b,C'.η id=some b->ver<b.ver:=by
  intro id ver h b hb
  obtain⟨b0,h0,h1,_⟩:=hη id b hb
  rw[h1];exact h b0 h0
 have keep:∀{id:Nat} {b:Blk},C.η id=some b->(∃b',C'.η id=some b'/\b'.ver=b.ver/\b'.nilp=b.nilp/\b'.kind=b.kind/\b'.esz=b.esz)\/C'.η id=none:=by
  intro id b hb
  cases h':C'.η id with
  |none=>exact .inr rfl
  |some b'=>
   obtain⟨b0,h0,hh⟩:=hη id b' h'
   rw[hb]at h0;cases h0
   exact .inl ⟨b',rfl,hh⟩
 induction h with
 |imm h=>exact .imm (h.mono hT (fun _ _=>by rw[hw]))
 |ptr hb he hn=>
  rcases keep hb with⟨b',h',e1,e2,e3,e4⟩|h'
  ·rw[<-hρ];exact .ptr h' (e1.trans he) (e2.trans hn)
  ·exact .stalep rfl (by rw[hU];exact h5 hb) (fun b hb'=>by rw[h']at hb';cases hb')
 |sl hb he hn h1 h2 h3 h4=>
  rcases keep hb with⟨b',h',e1,e2,e3,e4⟩|h'
  ·rw[<-hρ];exact .sl h' (e1.trans he) (e2.trans hn) h1 h2 h3 (by rw[hρ,h6,e4];exact h4)
  ·exact .stales rfl (by rw[hU];exact h5 hb) (fun b hb'=>by rw[h']at hb';cases hb')
 |slz hb he hn=>
  rcases keep hb with⟨b',h',e1,e2,e3,e4⟩|h'
  ·exact .slz h' (e1.trans he) (e2.trans hn)
  ·exact .stales rfl (by rw[hU];exact h5 hb) (fun b hb'=>by rw[h']at hb';cases hb')
 |slnil hb he hn=>
  rcases keep hb with⟨b',h',e1,e2,e3,e4⟩|h'
  ·exact .slnil h' (e1.trans he) (e3.trans hn)
  ·exact .stales rfl (by rw[hU];exact h5 hb) (fun b hb'=>by rw[h']at hb';cases hb')
 |mp hb he hn=>
  rcases keep hb with⟨b',h',e1,e2,e3,e4⟩|h'
  ·rw[<-hρ];exact .mp h' (e1.trans he) (e3.trans hn)
  ·exact .stalem rfl (by rw[hU];exact h5 hb) (fun b hb'=>by rw[h']at hb';cases hb')
 |it hb he hn=>
  rcases keep hb with⟨b',h',e1,e2,e3,e4⟩|h'
  ·rw[<-hρ];exact .it h' (e1.trans he) (e3.trans hn)
  ·exact .stalei rfl (by rw[hU];exact h5 hb) (fun b hb'=>by rw[h']at hb';cases hb')
 |stalem h1 hu hs=>exact .stalem h1 (by rw[hU];exact hu) (st hs)
 |stalei h1 hu hs=>exact .stalei h1 (by rw[hU];exact hu) (st hs)
 |stalep h1 hu hs=>exact .stalep h1 (by rw[hU];exact hu) (st hs)
 |stales h1 hu hs=>exact .stales h1 (by rw[hU];exact hu) (st hs)
 |agg hl _ ih=>exact .agg hl ih
 |tup hl _ ih=>exact .tup hl ih
 |clo hl _ ih=>exact .clo hl ih
theorem ObjR.shift{C C':Ctx}(h:∀{a:AV} {x:Value},VR C a x->VR C' a x){cs:List AV}{o:Obj}(ho:ObjR C cs o):ObjR C' cs o:=by
 cases ho with
 |map hl hi=>exact .map hl (fun i h1 h2=>⟨(hi i h1 h2).1,h (hi i h1 h2).2.1,(hi i h1 h2).2.2⟩)
 |siter=>exact .siter
 |miter0=>exact .miter0
 |miter hv=>exact .miter (h hv)
inductive FzC(fp:List Nat)(η:bf):List AV->List AV->Prop where
 |nil:FzC fp η [] []
 |same {a:AV} {cs ds:List AV}:FzC fp η cs ds->FzC fp η (a :: cs) (a :: ds)
 |fz {a r:AV} {cs ds:List AV}:FzP fp η a r->FzC fp η cs ds->FzC fp η (a :: cs) (r :: ds)
theorem FzC.refl{fp:List Nat}{η:bf}:∀l:List AV,FzC fp η l l
 |[]=>.nil
 |_::r=>.same (FzC.refl r)
theorem FzC.len{fp:List Nat}{η:bf}{cs ds:List AV}(h:FzC fp η cs ds):cs.length=ds.length:=by
 induction h with
 |nil=>rfl
 |same _ ih=>simp[ih]
 |fz _ _ ih=>simp[ih]
theorem FzC.at{fp:List Nat}{η:bf}{cs ds:List AV}(h:FzC fp η cs ds):∀(i:Nat) (h1:i<cs.length) (h2:i<ds.length),ds[i]=cs[i]\/FzP fp η cs[i] ds[i]:=by
 induction h with
 |nil=>intro i h1;simp at h1
 |same _ ih=>intro i h1 h2;cases i with
  |zero=>exact .inl rfl
  |succ i=>simpa using ih i (by simpa using h1) (by simpa using h2)
 |fz hf _ ih=>intro i h1 h2;cases i with
  |zero=>exact .inr hf
  |succ i=>simpa using ih i (by simpa using h1) (by simpa using h2)
inductive RetFz(fp:List Nat)(η:bf):AV->AV->Prop where
 |same {a:AV}:RetFz fp η a a
 |fz {a r:AV}:FzP fp η a r->RetFz fp η a r
 |tup {cs ds:List AV}:FzC fp η cs ds->RetFz fp η (.tup cs) (.tup ds)
inductive Left(fp:List Nat)(η:bf):Nat×Option Blk->Prop where
 |gone {i:Nat}:Left fp η (i,none)
 |same {i:Nat} {b:Blk}:η i=some b->i∉fp->Left fp η (i,some b)
 |cells {i ver ez:Nat} {cs ds:List AV}:η i=some ⟨ver,cs,ez,false⟩->i∉fp->FzC fp η cs ds->Left fp η (i,some ⟨ver,ds,ez,false⟩)
def Xs(P:Program)(N:Nat)(fn:Func)(s:St)(a0:AV):Prop:=∀C a,SRel N C s a->∃x,(results fn a.tmps).run P C.w=.ok x C.w/\VR C a0 x
theorem SRel.toX{N:Nat}{C:Ctx}{s:St}{a:Act}(h:SRel N C s a):SRelX [] (fun _=>True) s.u N C s a:=⟨h.good,fun id _=>by rw[h.η],fun id h1 h2=>by omega,h.defers,h.size,h.τ⟩
theorem Xs.all{P:Program}{N:Nat}{fn:Func}{s:St}{vs:List AV}(h:AllX P (fun _=>True) s.u N s fn.results.toList vs):Xs P N fn s (Sz vs):=fun C a hr=>oa h [] C a hr.toX
theorem aw{P:Program}{N:Nat}{fn:Func}{s:St}{vs:List AV}{rs:Array ResultVar}(hr:fn.results=rs)(h:AllX P (fun _=>True) s.u N s rs.toList vs):Xs P N fn s (Sz vs):=Xs.all (by rw[hr];exact h)
def Fg(P:Program)(N:Nat)(fn:Func)(s:St)(hb':List (Nat×Option Blk))(ret:AV):Prop:=
 ∀C a,SRel N C s a->∃x C',(results fn a.tmps).run P C.w=.ok x C.w/\C'.w=C.w/\C'.η=m8 hb'/\Good C'/\Fr C C'/\VR C' ret x
theorem Fg.of{P:Program}{N:Nat}{fn:Func}{s:St}{hb':List (Nat×Option Blk)}{a0 ret:AV}(fp:List Nat)(ha:Xs P N fn s a0)(hn:qr (hb'.map (·.1))=true)(hl:Dp (Left fp s.η) hb')(hr:RetFz fp s.η a0 ret):Fg P N fn s hb' ret:=by
 intro C a hs
 have n:=Id.1 hn
 have hh:=Rm.1 hl
 obtain⟨x,h1,h2⟩:=ha C a hs
 let C':Ctx:={C with η:=m8 hb',T:=fun b=>C.T b\/C.mineOf fp b}
 have hm:∀{i b},m8 hb' i=some b->(i,some b)∈hb':=by
  intro i b h6
  by_cases hi:i∈hb'.map (·.1)
  ·obtain⟨⟨i',ob⟩,h3,h4⟩:=ahj.1 hi
   simp only at h4;subst h4
   have:=uk n h3
   rw[this]at h6;subst h6
   exact h3
  ·rw[wi hi]at h6;cases h6
 have h7:∀{i b'},m8 hb' i=some b'->∃b,C.η i=some b/\i∉fp/\b'.ver=b.ver/\b'.nilp=b.nilp/\b'.kind=b.kind/\b'.esz=b.esz/\FzC fp s.η b.cs b'.cs/\(b'.nilp=true->b'.cs=b.cs):=by
  intro i b' h6
  have:=hh _ (hm h6)
  cases this with
  |same h3 h4=>exact⟨b',by rw[hs.η];exact h3,h4,rfl,rfl,rfl,rfl,FzC.refl _,fun _=>rfl⟩
  |@cells _ ver ez cs ds h3 h4 h5=>exact⟨⟨ver,cs,ez,false⟩,by rw[hs.η];exact h3,h4,rfl,rfl,(dj rfl).trans (dj rfl).symm,rfl,h5,fun e=>by cases e⟩
 have h9:∀{a:AV} {x:Value},VR C a x->VR C' a x:=fun hv=>VR.shift (C:=C) (C':=C') rfl rfl rfl rfl (fun b hb=>.inl hb) hs.good.used (fun id b' hb=>by
  obtain⟨b,q1,_,q2,q3,q4,q5,_⟩:=h7 hb
  exact⟨b,q1,q2,q3,q4,q5⟩) hv
 have hc:∀{a r:AV} {x:Value},FzP fp s.η a r->VR C a x->VR C' r x:=fun hf hv=>.imm (hf C hs.good (fun id _=>by rw[hs.η]) _ hv)
 have h0:∀{i},C'.live i->C.live i/\i∉fp:=by
  rintro i ⟨b',h6,hk⟩
  obtain⟨b,q1,q0,q2,q3,q4,_⟩:=h7 h6
  exact⟨⟨b,q1,by rw[<-q4];exact hk⟩,q0⟩
 refine⟨x,C',h1,rfl,rfl,⟨?_,?_,?_,?_,?_,?_,?_⟩,⟨⟨rfl,rfl,rfl,ag8 _,fun _ _ _=>rfl,fun k ⟨i,q1,q2⟩=>.inl ⟨i,(h0 q1).1,q2⟩,fun k h=>.inl h,fun k h=>?_⟩,?_⟩,?_⟩
 ·intro i b' h6
  obtain⟨b,q1,_⟩:=h7 h6
  exact hs.good.used q1
 ·intro i b' h6 hk
  obtain⟨b,q1,_,q2,q3,q4,_,_,q5⟩:=h7 h6
  obtain⟨o,g1,g2⟩:=hs.good.obj q1 (by rw[<-q4];exact hk)
  refine⟨o,g1,?_⟩
  rw[q5 (H1 hk).1]
  exact ObjR.shift h9 g2
 ·intro i b' h6 hd
  obtain⟨b,q1,_,q2,q3,q4,_,q5,_⟩:=h7 h6
  obtain⟨c,t,g1,g2,g3,g4⟩:=hs.good.blk q1 (by rw[<-q3];exact hd)
  have h8:=q5.len
  refine⟨c,t,g1,g2,by rw[<-h8];exact g3,fun j hj ho=>?_⟩
  have:=g4 j (by omega) ho
  rcases q5.at j (by omega) hj with e|e
  ·rw[e];exact h9 this
  ·exact hc e this
 ·intro i j hi hj e
  exact hs.good.inj (h0 hi).1 (h0 hj).1 e
 ·refine hs.good.tokT (fun _ h=>.inl h) ?_
  rintro k (hk|hk)
  ·exact hs.good.tlt hk
  ·exact cr hs.good (bj hk)
 ·rintro k ⟨i,he,hk⟩ (hT|⟨i',hg,hl'',e⟩)
  ·exact hs.good.apart ⟨i,(h0 he).1,hk⟩ hT
  ·have:i'=i:=hs.good.inj hl'' (h0 he).1 (e.trans hk.symm)
   subst this
   exact(h0 he).2 hg
 ·intro i b' h6 hv hd
  obtain⟨b,q1,_,q2,q3,q4,_,q5,_⟩:=h7 h6
  have:=hs.good.tight q1 (q2▸hv) (by rw[<-q3];exact hd)
  rw[<-q5.len];exact this
 ·rcases h with h|h
  ·exact .inl h
  ·exact .inr (.inl (bj h))
 ·intro id _ hu
  refine⟨hu,fun b' h6=>?_⟩
  obtain⟨b,q1,_,q2,q3,q4,q5,_⟩:=h7 h6
  exact⟨b,q1,by omega,fun _=>⟨rfl,rfl,q4,q5⟩⟩
 ·cases hr with
  |same=>exact h9 h2
  |fz hf=>exact hc hf h2
  |tup hf=>
   obtain⟨vs,rfl,hh,hp⟩:=h2.tup_inv'
   have h8:=hf.len
   refine .tup (by omega) (fun i hi hg=>?_)
   have:=hp i (by omega) hg
   rcases hf.at i (by omega) hi with e|e
   ·rw[e];exact h9 this
   ·exact hc e this
theorem xt.of_body{P:Program}{f:FuncId}{fn:Func}{c:Code}{N:Nat}{args:List AV}{hb:List (Nat×Blk)}{hb':List (Nat×Option Blk)}{ret:AV}(hf:P.funcs[f]? =some fn)(h8:fn.body=some c)(hN:fn.ntmps=N)(hl:args.length<=N)
 (h:AWP P N c (fun e s'=>(e=.normal\/e=.ret)/\Fg P N fn s' hb' ret) ⟨b7 args,hLz hb,0⟩):xt P f args hb hb' ret:=by
 intro C vals hg hη hU ⟨hlen,hv⟩
 have hr:SRel N C ⟨b7 args,hLz hb,0⟩ {tmps:=vals++Array.replicate (fn.ntmps-vals.size) undef,defers:=[]}:=by refine⟨hg,hη,fun id h=>.inr (hU id h),rfl,by simp;omega,fun t=>?_⟩;simp only[Act.eval,b7];by_cases ht:t<args.length;have h1:args.getD t (.v undef)=args[t]:=(by simp[List.getD,ht]);have h2:(vals++Array.replicate (fn.ntmps-vals.size) undef).getD t undef=vals[t]'(by omega):=(by rw[Array.getD_eq_getD_getElem?,Array.getElem?_append_left (by omega)];simp[show t<vals.size by omega]);rw[h1,h2];exact hv t ht (by omega);have h1:args.getD t (.v undef)=.v undef:=(by simp[List.getD,List.getElem?_eq_none (Nat.le_of_not_lt ht)]);have h2:(vals++Array.replicate (fn.ntmps-vals.size) undef).getD t undef=undef:=(by rw[Array.getD_eq_getD_getElem?,Array.getElem?_append_right (by omega)];rw[Array.getElem?_replicate];split<;>rfl);rw[h1,h2];exact VR.v _ _
 refine calls_of_wp hf h8 (Code.wp_mono ?_ (h C _ hr))
 rintro e a' w' ⟨s',C',⟨he,ho⟩,rfl,h7,h9⟩
 obtain⟨x,C2,h1,h2,h3,h4,h5,h6⟩:=ho C' a' h7
 have h0:∃x' C'',(Ending.returned x)=.returned x'/\C''.w=C'.w/\C''.η=m8 hb'/\Good C''/\Fr C C''/\VR C'' ret x':=⟨x,C2,rfl,h2,h3,h4,h9.trans h5,h6⟩
 rcases he with rfl|rfl
 ·exact⟨h7.defers,x,h1,h0⟩
 ·exact⟨h7.defers,x,h1,h0⟩
open Go.RowKit Go.Sort
def iF(l:List Int):List AV:=l.map fun n=>.v (.int .i64 n)
section
variable{P:Program}{N:Nat}{Q:Exit->St->Prop}{τ:Nat->AV}{η:bf}{u:Nat}
theorem br{c:Code}(fp:List Nat)(t:Nat)(r:AV)(hf:FzP fp η (τ t) r){η':bf}(hη':(η.put (fp.map fun id=>(id,none)))=η')(hc:AWP P N c Q ⟨upd τ t r,η',u⟩):AWP P N c Q ⟨τ,η,u⟩:=by
 subst hη';intro C a hs;let C':Ctx:={C with η:=C.η.put (fp.map fun id=>(id,none)),T:=fun b=>C.T b\/C.mineOf fp b}
 have h5:∀{i b'},C'.η i=some b'->C.η i=some b'/\i∉fp:=by
  intro i b' h6;have:(C.η.put (fp.map fun id=>(id,none))) i=some b':=h6
  rw[zm]at this;by_cases e:i∈fp;rw[ag2 e]at this;cases this;rw[ag1 e]at this;exact⟨this,e⟩
 have h7:∀{a:AV} {x:Value},VR C a x->VR C' a x:=fun hv=>VR.shift (C:=C) (C':=C') rfl rfl rfl rfl (fun b hb=>.inl hb) hs.good.used (fun id b' hb=>⟨b',(h5 hb).1,rfl,rfl,rfl,rfl⟩) hv;have h0:∀{i},C'.live i->C.live i/\i∉fp:=by rintro i ⟨b',h6,hk⟩;exact⟨⟨b',(h5 h6).1,hk⟩,(h5 h6).2⟩
 have hg:Good C':=by
  refine⟨fun h=>hs.good.used (h5 h).1,by intro i b' h6 hk;obtain⟨o,g1,g2⟩:=hs.good.obj (h5 h6).1 hk;exact⟨o,g1,ObjR.shift h7 g2⟩,by intro i b' h6 h9;obtain⟨c,t,g1,g2,g3,g4⟩:=hs.good.blk (h5 h6).1 h9;exact⟨c,t,g1,g2,g3,fun j hj ha=>h7 (g4 j hj ha)⟩,fun hi hj e=>hs.good.inj (h0 hi).1 (h0 hj).1 e,?_,?_,fun h hv hn=>hs.good.tight (h5 h).1 hv hn⟩;refine hs.good.tokT (fun _ h=>.inl h) ?_;rintro k (hk|hk);exact hs.good.tlt hk;exact cr hs.good (bj hk);rintro k ⟨i,h8,hk⟩ (hT|⟨i',hd,hl'',e⟩);exact hs.good.apart ⟨i,(h0 h8).1,hk⟩ hT;have:i'=i:=hs.good.inj hl'' (h0 h8).1 (e.trans hk.symm)
  subst this;exact(h0 h8).2 hd
 have he:Fr C C':=⟨⟨rfl,rfl,rfl,ag8 _,fun _ _ _=>rfl,fun k ⟨i,q1,q2⟩=>.inl ⟨i,(h0 q1).1,q2⟩,fun k h=>.inl h,fun k h=>h.imp (fun h=>h) (fun h=>.inl (bj h))⟩,fun id _ hu=>⟨hu,fun b' h6=>⟨b',(h5 h6).1,ag8 _,fun _=>⟨rfl,rfl,rfl,rfl⟩⟩⟩⟩
 have hh:SRel N C' ⟨upd τ t r,η.put (fp.map fun id=>(id,none)),u⟩ a:=by
  have e0:C.η=η:=hs.η;refine⟨hg,by simp only[C',e0],hs.u,hs.defers,hs.size,fun q=>?_⟩;by_cases e:q=t;subst e;have e1:upd τ q r q=r:=by simp[upd]
  show VR C' (upd τ q r q) _;rw[e1];exact .imm (hf C hs.good (fun id _=>by rw[e0]) _ (hs.τ q));have e1:upd τ t r q=τ q:=by simp[upd,jv e]
  show VR C' (upd τ t r q) _;rw[e1];exact h7 (hs.τ q)
 have:=hc C' a hh;exact Code.wp_mono (fun e a' w' ⟨s',C'',h1,h2,h3,h4⟩=>⟨s',C'',h1,h2,h3,he.trans h4⟩) this
end
structure RowF{α:Type}(f:α->List AV)(q:Nat):Prop where
 len:∀a,(f a).length=q
 one:∀a,(f a).all AV.one=true
 low:∀u a,m9 u (f a)=true
 ins:∀D a,inL D (f a)=true
 ren:∀g a,xe g (f a)=f a
 pure:∀a,km (f a)=true
def rF{α:Type}(f:α->List AV)(l:List α):List AV:=(l.map f).flatten
section
variable{α:Type}{f:α->List AV}{q:Nat}
theorem j0{a:α}{l:List α}:rF f (a::l)=f a++rF f l:=rfl
theorem x9{l m:List α}:rF f (l++m)=rF f l++rF f m:=by simp[rF]
theorem D5{a:α}{l:List α}:rF f (l++[a])=rF f l++f a:=by simp[rF]
theorem ib(h:RowF f q):∀l:List α,(rF f l).length=l.length*q
 |[]=>by simp[rF]
 |a::l=>by rw[j0,agx,h.len,ib h l,ahf,Nat.add_mul,Nat.one_mul,Nat.add_comm]
theorem Kz(h:RowF f q):∀l:List α,(rF f l).all AV.one=true
 |[]=>rfl
 |a::l=>by rw[j0,List.all_append,h.one,Kz h l];rfl
theorem Gr{u:Nat}:∀{l m:List AV},m9 u (l++m)=(m9 u l&&m9 u m)
 |[],_=>rfl
 |a::l,m=>by rw[List.cons_append,m9,m9,Gr,Bool.and_assoc]
theorem Md{D:List Nat}:∀{l m:List AV},inL D (l++m)=(inL D l&&inL D m)
 |[],_=>rfl
 |a::l,m=>by rw[List.cons_append,inL,inL,Md,Bool.and_assoc]
theorem Bs:∀{l m:List AV},km (l++m)=(km l&&km m)
 |[],_=>rfl
 |a::l,m=>by rw[List.cons_append,km,km,Bs,Bool.and_assoc]
theorem aa(h:RowF f q)(u:Nat):∀l:List α,m9 u (rF f l)=true
 |[]=>rfl
 |a::l=>by rw[j0,Gr,h.low,aa h u l];rfl
theorem au(h:RowF f q)(D:List Nat):∀l:List α,inL D (rF f l)=true
 |[]=>rfl
 |a::l=>by rw[j0,Md,h.ins,au h D l];rfl
theorem Ky(h:RowF f q):∀l:List α,km (rF f l)=true
 |[]=>rfl
 |a::l=>by rw[j0,Bs,h.pure,Ky h l];rfl
theorem Ss(h:RowF f q)(g:Nat->Nat):∀l:List α,xe g (rF f l)=rF f l
 |[]=>rfl
 |a::l=>by rw[j0,nm,ahi,<-nm,<-nm,h.ren,Ss h g l]
theorem cv(h:RowF f q){g:Nat->Nat}{v:Nat}{l:List α}{n:Bool}:(Blk.mk v (rF f l) q n).ren g=⟨v,rF f l,q,n⟩:=by simp only[Blk.ren,Ss h]
theorem av(h:RowF f q){K:List Nat}{v:Nat}{l:List α}:zq K ⟨v,rF f l,q,Nat.beq l.length 0⟩:=⟨au h K l,by
 cases l with
 |nil=>exact .inr (.inl rfl)
 |cons a r=>exact .inl rfl⟩
theorem FzP.rowsF(h:RowF f q){fp:List Nat}{η:bf}{id v:Nat}{l:List α}(h0:id∈fp)(hb:η id=some ⟨v,rF f l,q,false⟩):FzP fp η (.sl id v 0 l.length) (.tree q (l.map f)):=
 cx (f:=f) h0 hb rfl rfl rfl rfl rfl (fun a _=>⟨h.len a,h.pure a⟩)
theorem FzP.rows(h:RowF f q){fp:List Nat}{η:bf}{id v:Nat}{l:List α}(h0:id∈fp)(hb:η id=some ⟨v,rF f l,q,Nat.beq l.length 0⟩):FzP fp η (.sl id v 0 l.length) (.tree q (l.map f)):=by
 cases l with
 |nil=>
  intro C hg hη x hx
  obtain⟨e,_,_⟩:=hx.slnil_inv ((hη id h0).trans hb) rfl rfl
  subst e
  exact .tree0 (by unfold maxLen;omega)
 |cons a r=>exact FzP.rowsF h h0 hb
end
section
variable{P:Program}{τ:Nat->AV}{η:bf}{d:Option Tmp}{ty:TypeId}{pos:String}{af:Array Edge}{g:Option (Nat×Bool)}
theorem bh{α:Type}{f:α->List AV}{q:Nat}(hf:RowF f q){t e by_:Nat}{s x:Operand}{z:Value}{fp:List Nat}{id ver:Nat}{l:List α}{a:α}{news:List AV}(ht:P.underlying t=some (.slice e))(hs:ap P e=some q)(hz:bi P e=some z)(h4:(P.info? e).map (·.bytes)=some by_)(h5:z.cells.size=q)
 (hx:aev τ s=.sl id ver 0 l.length)(hb:η id=some ⟨ver,rF f l,q,Nat.beq l.length 0⟩)(h2:Src η fp (aev τ x) 1 news)(h0:news=f a)(h3:(l.length+1)*by_<=140737488355328)(h1:l.length+1<=140737488355328)(h6:ver+1≠TV):
 LOp P ⟨d,.call {callee:=.builtin .append,args:=#[s,x],argTypes:=#[t,t]},ty,pos,af,g⟩ τ η (id::fp) [(id,some ⟨ver+1,rF f (l++[a]),q,Nat.beq (l++[a]).length 0⟩)] (.sl id (ver+1) 0 (l++[a]).length):=by
 subst h0
 have e1:Nat.beq (l++[a]).length 0=false:=jv (by simp)
 have e2:(l++[a]).length=l.length+1:=by simp
 rw[e1,e2,D5]
 exact xc (m:=1) ht hs hz h4 h5 hx hb rfl (ib hf l) h2 (by decide) (by rw[Nat.one_mul];exact hf.len a) (hf.one a) h3 h1 h6
end
open Go.RowKit Go.Sort Go.Shelf Go.Lib
open Go.RowKit Go.Shelf Go.Lib
theorem TR.tree_cells{T:Nat->Prop}{w:World}{q:Nat}{xs:List (List AV)}{x:Value}(h:TR T w (.tree q xs) x):
 (xs=[]/\∃a cap,cap<=maxLen/\x=.slice a 0 cap)\/∃b off cap,∃news:List Value,T b/\xs.length<=140737488355328/\xs.length<=cap/\cap<=maxLen/\(∀k (h:k<xs.length),xs[k].length=q)/\x=.slice (some ⟨b,off,none⟩) xs.length cap/\news.length=xs.length*q/\xs.flatten.length=xs.length*q/\
  (∀j u,news[j]? =some u->w.cell? ⟨b,off+j,none⟩=some u)/\∀j (h:j<xs.flatten.length) (h':j<news.length),TR T w xs.flatten[j] news[j]:=by
 cases h with
 |tree0 h=>exact .inl ⟨rfl,_,_,h,rfl⟩
 |tree cell hT h1 h2 h3 h4 h5 h6=>
  rename_i b off cap
  right
  refine⟨b,off,cap,(List.range (xs.length*q)).map fun i=>cell (i/q) (i%q),hT,h3,h1,h2,h4,rfl,by simp,jq xs h4,fun j u hj=>?_,fun j hj h7=>?_⟩
  ·simp only[List.getElem?_map]at hj
   cases hr:(List.range (xs.length*q))[j]? with
   |none=>rw[hr]at hj;cases hj
   |some p=>
    rw[hr]at hj
    obtain⟨h8,hq⟩:=ahn.1 hr
    simp only[List.getElem_range]at hq
    subst hq
    simp only[ahp,agw]at hj
    subst hj
    have h0:j<xs.length*q:=by simpa using h8
    obtain⟨g1,g2,_,_⟩:=im xs h4 j h0
    rw[h4 _ g1]at g2
    have:=h5 (j/q) (j%q) g1 g2
    rw[show off+j/q*q+j%q=off+j by have:=Nat.div_add_mod j q;rw[Nat.mul_comm]at this;omega]at this
    exact this
  ·simp only[ag0,List.length_range]at h7
   obtain⟨g1,g2,g3,g4⟩:=im xs h4 j h7
   rw[g4]
   simp only[List.getElem_map,List.getElem_range]
   exact h6 _ g1 _ g2
theorem TR.one{T:Nat->Prop}{w:World}{a:AV}{x:Value}(h:TR T w a x)(h1:a.one=true):x.oneCell'=true:=
 VR.one (C:=⟨fun _=>(0,0),fun _=>0,fun _=>none,fun _=>False,T,w⟩) (.imm h) h1
theorem TRs.arg{T:Nat->Prop}{w:World}{a:AV}{vals:Array Value}(h:TRs T w [a] vals):∃x,vals=#[x]/\TR T w a x:=by obtain⟨h0,hv⟩:=h;have h1:0<vals.size:=(by simp at h0;omega);refine⟨vals[0],?_,hv 0 (by simp) h1⟩;apply Array.ext;simpa using h0.symm;intro i hi h2;have:i=0:=(by simp at h2;omega);subst this;rfl
theorem Owned.tree{T:Nat->Prop}{w w':World}{et q:Nat}{xs:List (List AV)}{v:Value}{news:List Value}(hx:∀k (h:k<xs.length),xs[k].length=q)(hn:xs.length<=140737488355328)(hT:∀b,T b->b<w.heap.size)(h3:∀j (h:j<xs.flatten.length) (h':j<news.length),TR T w xs.flatten[j] news[j])
 (ho:w'.ownsRow w.heap.size et q v xs.length news)(hb:Below w.heap.size w w'):R4 T w (.tree q xs) (.returned v) w':=by
 obtain⟨hl,⟨rfl,h0⟩|⟨g,cap,cur,rfl,hg,h2,h8,ha,hsz,h4⟩⟩:=ho
 ·have:xs=[]:=ahm h0
  subst this
  exact⟨_,T,rfl,.tree0 (by unfold maxLen;omega),fun _ h=>h,fun _ h=>.inl h,fun b h=>Nat.lt_of_lt_of_le (hT b h) hb.size,hb⟩
 ·have hgl:g<w'.heap.size:=(Array.getElem?_eq_some_iff.1 h2).1
  have hc:∀{a:AV} {x:Value},TR T w a x->TR (fun b=>T b\/b=g) w' a x:=fun h=>h.mono (fun b h=>.inl h) (fun b h=>hb.block b (hT b h))
  refine⟨_,fun b=>T b\/b=g,rfl,?_,fun b h=>.inl h,fun b h=>h.imp (fun h=>h) (fun e=>by omega),fun b h=>h.elim (fun h=>Nat.lt_of_lt_of_le (hT b h) hb.size) (fun e=>by omega),hb⟩
  have hfl:=jq xs hx
  have h9:∀k j,k<xs.length->j<q->k*q+j<news.length/\w'.cell? ⟨g,0+k*q+j,none⟩=some (news.getD (k*q+j) undef):=by intro k j hk hj;have h5:k*q+j<xs.length*q:=(by have:(k+1)*q<=xs.length*q:=Nat.mul_le_mul_right _ hk;rw[Nat.add_mul]at this;omega);refine⟨by omega,?_⟩;have h1:news.getD (k*q+j) undef=cur.toList.getD (k*q+j) undef:=(by rw[<-h4];simp only[List.getD];rw[List.getElem?_take_of_lt (by omega)]);have hd:k*q+j<cur.size:=(by have:xs.length*q<=cap*q:=Nat.mul_le_mul_right _ h8;omega);rw[h1,Nat.zero_add];simp[World.cell?,h2,List.getD,hd]
  refine TR.tree (fun k j=>news.getD (k*q+j) undef) (.inr rfl) h8 ha hn hx (fun k j hk hj=>(h9 k j hk hj).2) (fun k hk j hj=>?_)
  have h6:j<q:=by rw[<-hx k hk];exact hj
  have h5:=(h9 k j hk h6).1
  have h7:k*q+j<xs.length*q:=by have:(k+1)*q<=xs.length*q:=Nat.mul_le_mul_right _ hk;rw[Nat.add_mul]at this;omega
  obtain⟨g1,g2,g3,g4⟩:=im xs hx (k*q+j) h7
  have hq:0<q:=by omega
  have e1:(k*q+j)/q=k:=by rw[Nat.mul_comm,Nat.mul_add_div hq,Nat.div_eq_of_lt h6];rfl
  have e2:(k*q+j)%q=j:=by rw[Nat.mul_comm,Nat.mul_add_mod,Nat.mod_eq_of_lt h6]
  have:=h3 (k*q+j) g3 h5
  rw[g4]at this
  simp only[e1,e2]at this
  have e3:news.getD (k*q+j) undef=news[k*q+j]:=by simp[List.getD,h5]
  rw[e3]
  exact hc this
theorem Ix{P:Program}{ρ:Ren}(L:SlLaysE0.n41 P ρ)(i0:TypeInfo)(z:Value)(size bytes:Nat)(hi:P.info? (ρ.t 23)=some i0)(h3:i0.zero=some z)(h4:i0.size=size)(h5:i0.bytes=bytes)(h6:z.cells.size=size)(h7:0<size)
 (z23:∀w,(Go.sizeOf (ρ.t 23)).run P w=.ok size w)(ad:Addr)(c:Nat)(w:World):
 Calls P (ρ.f 41) #[.slice (some ad) 0 c] w fun e w'=>∃v',e=.returned v'/\w'.ownsRow w.heap.size (ρ.t 23) size v' 0 []/\v'≠.slice none 0 0/\Below w.heap.size w w':=by
 have mixed:=L.mixed;have t4:=L.t4;have a4:=L.a4;have z4:=L.z4;have v4:=L.v4;have t22:=L.t22;have a22:=L.a22;have z22:=L.z22;have v22:=L.v22
 have q22:∀(w:World) (a:Option Addr) (n c n' c':Nat),(binOp .eql (ρ.t 22) (.slice a n c) (.slice none n' c')).run P w=.ok (.bool a.isNone) w:=fun w a n c n' c'=>Lib.run_eql_slice_nil w _ _ a n c n' c' L.t22
 have u22:∀w,Sem.run P (underlying (ρ.t 22)) w=.ok (TypeDesc.slice (ρ.t 23)) w:=run_underlying t22
 obtain⟨_,_,FG⟩:=L.f41
 go_enter FG,SlBodyN.n41_ntmps ρ
 go_wp2_with (at_builtin;refine wpList_append_own _ rfl _ _ (ρ.t 22) rfl w.heap.size (ρ.t 23) i0 z size bytes t22 hi h3 h4 h5 h6 h7 _ _ _ rfl (World.ownsRow_made w #[] 0 (ag8 _) (ag6 _) (by simp)) ad 0 c [] rfl ?qc1 ?qc2 ?qc3 ?qc4 ?qc5 ?qc6 ?_)
 case qc1=>simp
 case qc2=>intro j u hj;simp at hj
 case qc3=>intro u hu;simp at hu
 case qc4=>simp
 case qc5=>simp
 case qc6=>simp
 intro v' w1 h1 h0 h2
 go_wp2
 go_ret
 refine⟨v',rfl,by simpa using h1,?_,?_⟩
 ·exact h2
 ·exact((Below.refl _ w).alloc (ag8 _) _).grown h0 (by simp) (by intro k hk;simp[Value.ownBlock]at hk;omega)
structure CloneL(P:Program)(F q:Nat):Prop where
 ex:∃(ρ:Ren) (i0:TypeInfo) (z:Value) (bytes:Nat),ρ.f 41=F/\SlLaysE0.n41 P ρ/\P.info? (ρ.t 23)=some i0/\i0.zero=some z/\i0.size=q/\i0.bytes=bytes/\z.cells.size=q/\(∀w,(Go.sizeOf (ρ.t 23)).run P w=.ok q w)/\bytes<=1000
 pos:0<q
theorem CloneL.full{P:Program}{F q:Nat}(L:CloneL P F q)(b off n c:Nat)(news:List Value)(w:World)(hl:news.length=n*q)(hn:n<=1000000)(hc:∀j u,news[j]? =some u->w.cell? ⟨b,off+j,none⟩=some u)(h1:∀u∈news,u.oneCell'=true):
 Calls P F #[.slice (some ⟨b,off,none⟩) n c] w fun e w'=>∃v' et,e=.returned v'/\w'.ownsRow w.heap.size et q v' n news/\v'≠.slice none 0 0/\Below w.heap.size w w':=by
 obtain⟨⟨ρ,i0,z,bytes,rfl,LL,a1,a2,a3,a4,a5,a6,a7⟩,hp⟩:=L
 refine(AnyE.slices_Clone LL i0 z q bytes a1 a2 a3 a4 a5 hp a6 b off n c news w hl (by unfold maxLen;omega) ?_ hc h1).mono ?_
 ·have:n*bytes<=1000000*1000:=Nat.mul_le_mul hn a7
  omega
 ·rintro e w' ⟨v',h1,h2,h3,h4⟩
  exact⟨v',_,h1,h2,h3,h4⟩
theorem CloneL.empt{P:Program}{F q:Nat}(L:CloneL P F q)(ad:Addr)(c:Nat)(w:World):
 Calls P F #[.slice (some ad) 0 c] w fun e w'=>∃v' et,e=.returned v'/\w'.ownsRow w.heap.size et q v' 0 []/\v'≠.slice none 0 0/\Below w.heap.size w w':=by
 obtain⟨⟨ρ,i0,z,bytes,rfl,LL,a1,a2,a3,a4,a5,a6,a7⟩,hp⟩:=L
 refine(Ix LL i0 z q bytes a1 a2 a3 a4 a5 hp a6 ad c w).mono ?_
 rintro e w' ⟨v',h1,h2,h3,h4⟩
 exact⟨v',_,h1,h2,h3,h4⟩
theorem CloneL.nilc{P:Program}{F q:Nat}(L:CloneL P F q)(n c:Nat)(w:World):Calls P F #[.slice none n c] w fun e w'=>e=.returned (.slice none 0 0)/\w'=w:=by obtain⟨⟨ρ,i0,z,bytes,rfl,LL,_⟩,_⟩:=L;exact AnyE.slices_Clone_nil LL n c w
theorem CloneL.tree{P:Program}{F q:Nat}(L:CloneL P F q){α:Type}{f:α->List AV}(hf:∀a,(f a).all AV.one=true)(l:List α)(hn:l.length<=1000000):eu P F [.tree q (l.map f)] (.tree q (l.map f)):=by
 intro T w vals hv hT;obtain⟨x,rfl,hx⟩:=hv.arg;rcases hx.tree_cells with⟨he,a,cap,hcap,rfl⟩|⟨b,off,cap,news,hTb,h1,h2,h3,h4,rfl,h5,h6,h7,h8⟩;have e0:l=[]:=by simpa using he
 subst e0;cases a with
 |none=>
  refine(L.nilc 0 cap w).mono ?_
  rintro e w' ⟨rfl,rfl⟩
  exact⟨_,T,rfl,.tree0 (by unfold maxLen;omega),fun _ h=>h,fun _ h=>.inl h,hT,Below.refl _ _⟩
 |some ad=>
  refine(L.empt ad cap w).mono ?_
  rintro e w' ⟨v',et,rfl,ho,_,hb⟩
  exact Owned.tree (xs:=[]) (news:=[]) (by simp) (by simp) hT (by simp) ho hb
 have h0:∀u∈news,u.oneCell'=true:=fun u hu=>by obtain⟨j,hj,rfl⟩:=ahe hu;have h9:j<(l.map f).flatten.length:=(by omega);refine(h8 j h9 hj).one ?_;obtain⟨c,hc,ha⟩:=List.mem_flatten.1 (agt h9);obtain⟨a,_,rfl⟩:=ahj.1 hc;exact List.all_eq_true.1 (hf a) _ ha
 have hd:(l.map f).length=l.length:=ag0 _;refine(L.full b off _ cap news w h5 (by rw[hd];exact hn) h7 h0).mono ?_;rintro e w' ⟨v',et,rfl,ho,_,hb⟩;exact Owned.tree h4 h1 hT h8 ho hb
theorem A3{P:Program}{f:FuncId}{args:List AV}{cs:List AV}{q n:Nat}(hcs:cs.length=n*q)(hpos:0<n)(hn:n<=140737488355328)(h5:∀a∈args,a.pureB=true)(hp:km cs=true)
 (h:∀(T:Nat->Prop) (w:World) (vals:Array Value),TRs T w args vals->TOk T w->∃news:List Value,(∀j (h:j<cs.length) (h':j<news.length),TR T w cs[j] news[j])/\
  Calls P f vals w (fun e w'=>∃v' et,e=.returned v'/\w'.ownsRow w.heap.size et q v' n news/\Below w.heap.size w w')):
 xt P f args [] [(0,some ⟨0,cs,q,false⟩)] (.sl 0 0 0 n):=by
 intro C vals hg hη hU ⟨he,hv⟩
 have h6:TRs C.T C.w args vals:=⟨he,fun i hi hf=>(hv i hi hf).pure (h5 _ (agt hi))⟩
 obtain⟨news,h7,h8⟩:=h C.T C.w vals h6 hg.tok
 refine h8.mono ?_
 rintro e w' ⟨v',et,rfl,⟨hl,⟨rfl,h0⟩|⟨g,cap,cur,rfl,hh,h3,ha,hm,hsz,h9⟩⟩,hb⟩
 ·omega
 have hgl:g<w'.heap.size:=(Array.getElem?_eq_some_iff.1 h3).1
 have hη0:∀i,C.η i=none:=fun i=>by rw[hη];rfl
 let C':Ctx:=⟨fun _=>(g,0),fun _=>cur.size,m8 [(0,some ⟨0,cs,q,false⟩)],fun i=>C.U i\/i=0,C.T,w'⟩
 have h2:∀{i b},C'.η i=some b->i=0/\b=⟨0,cs,q,false⟩:=by intro i b h1;by_cases e:i=0;subst e;have:C'.η 0=some ⟨0,cs,q,false⟩:=(by simp[C',m8]);rw[this]at h1;cases h1;exact⟨rfl,rfl⟩;have:C'.η i=none:=(by simp[C',m8,jv e]);rw[this]at h1;cases h1
 have h4:∀{k},C'.mine k->k=g:=by rintro k ⟨i,⟨b,h1,_⟩,rfl⟩;rfl
 have hmineC:∀{k},¬C.mine k:=by rintro k ⟨i,⟨b,h1,_⟩,_⟩;rw[hη0]at h1;cases h1
 have hle:n*q<=cap*q:=Nat.mul_le_mul_right _ ha
 refine⟨_,C',rfl,rfl,rfl,⟨?_,?_,?_,?_,?_,?_,?_⟩,⟨⟨hb.os,hb.tape,hb.output,hb.size,fun k hk _=>hb.block k hk,fun k hk=>.inr (by rw[h4 hk];exact hh),fun _ h=>h,fun _ h=>.inl h⟩,?_⟩,?_⟩
 ·intro i b h1
  exact .inr (h2 h1).1
 ·intro i b h1 hk
  obtain⟨rfl,rfl⟩:=h2 h1
  rw[dj rfl]at hk;cases hk
 ·intro i b h1 hn1
  obtain⟨rfl,rfl⟩:=h2 h1
  refine⟨cur,et,h3,rfl,by show 0+cs.length<=cur.size;omega,fun j hj ho=>?_⟩
  have hq:j<cs.length:=hj
  have hc:j<news.length:=by omega
  have hd:j<cur.size:=by omega
  have e5:cur[j]'hd=news[j]:=by have:cur.toList[j]? =news[j]?:=(by rw[<-h9,List.getElem?_take_of_lt (by omega)]);rw[agu hc,agu (by simpa using hd)]at this;simpa using this
  have e6:cur[(C'.ρ 0).2+j]'ho=news[j]:=by rw[<-e5];show cur[0+j]'(by omega)=_;congr 1;omega
  rw[e6]
  exact .imm ((h7 j hq hc).mono (fun _ h=>h) (fun b h=>hb.block b (hg.tlt h)))
 ·rintro i j ⟨b,h1,_⟩ ⟨b',hr,_⟩ _
  rw[(h2 h1).1,(h2 hr).1]
 ·exact⟨fun k hk=>Nat.lt_of_lt_of_le (hg.tlt (k:=k) hk) hb.size,hg.tok.glob.mono (fun _ h=>h) (fun b h=>hb.block b (hg.tlt h))⟩
 ·intro k hk hT
  rw[h4 hk]at hT
  have:=hg.tlt (k:=g) hT
  omega
 ·intro i b h1 hs hn'
  obtain⟨rfl,rfl⟩:=h2 h1
  exact absurd hs (by show¬(0:Nat)=TV;decide)
 ·intro id ht hu
  refine⟨.inl hu,fun b' h1=>?_⟩
  obtain⟨rfl,rfl⟩:=h2 h1
  exact absurd ht (by unfold TOP;omega)
 ·have hw:C'.η 0=some ⟨0,cs,q,false⟩:=by simp[C',m8]
  have:=VR.sl (C:=C') (id:=0) (ver:=0) (off:=0) (len:=n) (cap:=cap) (b:=⟨0,cs,q,false⟩) hw rfl rfl ha hm hn (by show 0+0+cap*q<=cur.size;omega)
  exact this
theorem o8{P:Program}{F q:Nat}(L:CloneL P F q){α:Type}{f:α->List AV}(hf:RowF f q)(l:List α)(h0:0<l.length)(hn:l.length<=1000000):xt P F [.tree q (l.map f)] [] [(0,some ⟨0,rF f l,q,false⟩)] (.sl 0 0 0 l.length):=by
 refine A3 (ib hf l) h0 (by omega) (by simp[AV.pureB]) (Ky hf l) fun T w vals hv hT=>?_;obtain⟨x,rfl,hx⟩:=hv.arg;rcases hx.tree_cells with⟨he,a,cap,hcap,rfl⟩|⟨b,off,cap,news,hTb,h1,h2,h3,h4,rfl,h5,h6,h7,h8⟩;have e0:l=[]:=by simpa using he
 subst e0;exact absurd h0 (by simp);have ha:(l.map f).length=l.length:=ag0 _
 have h9:∀u∈news,u.oneCell'=true:=fun u hu=>by obtain⟨j,hj,rfl⟩:=ahe hu;have hd:j<(l.map f).flatten.length:=(by omega);refine(h8 j hd hj).one ?_;obtain⟨c,hc,hg⟩:=List.mem_flatten.1 (agt hd);obtain⟨a,_,rfl⟩:=ahj.1 hc;exact List.all_eq_true.1 (hf.one a) _ hg
 refine⟨news,h8,(L.full b off _ cap news w h5 (by rw[ha];exact hn) h7 h9).mono ?_⟩;rintro e w' ⟨v',et,rfl,ho,_,hb⟩;rw[ha]at ho;exact⟨v',et,rfl,ho,hb⟩
theorem Py{α:Type}{f:α->List AV}{l:List α}{k:Nat}(h:k<l.length):rF f l=rF f (l.take k)++(f l[k]++rF f (l.drop (k+1))):=by grind[List.getElem_cons_drop,List.take_append_drop,x9,j0]
theorem Gb{α:Type}{f:α->List AV}{q:Nat}(hf:RowF f q){l:List α}{k:Nat}(h:k<l.length):(rF f (l.take k)).length=k*q:=by rw[ib hf,List.length_take,Nat.min_eq_left (by omega)]
inductive FzLO(fp:List Nat)(η:bf):List AV->List AV->Prop where
 |same (l:List AV):FzLO fp η l l
 |keep {a:AV} {l r:List AV}:FzLO fp η l r->FzLO fp η (a :: l) (a :: r)
 |fz {a b:AV} {l r:List AV}:FzP fp η a b->FzLO fp η l r->FzLO fp η (a :: l) (b :: r)
theorem FzLO.at{fp:List Nat}{η:bf}{l r:List AV}(h:FzLO fp η l r):l.length=r.length/\∀i (h:i<l.length) (h':i<r.length),l[i]=r[i]\/FzP fp η l[i] r[i]:=by
 induction h with
 |same l=>exact⟨rfl,fun i h h'=>.inl rfl⟩
 |keep h ih=>
  refine⟨by simp[ih.1],fun i h h'=>?_⟩
  cases i with
  |zero=>exact .inl rfl
  |succ i=>exact ih.2 i (by simpa using h) (by simpa using h')
 |fz h1 h ih=>
  refine⟨by simp[ih.1],fun i h h'=>?_⟩
  cases i with
  |zero=>exact .inr h1
  |succ i=>exact ih.2 i (by simpa using h) (by simpa using h')
section
variable{P:Program}{N:Nat}{Q:Exit->St->Prop}{τ:Nat->AV}{η:bf}{u:Nat}
theorem cd{c:Code}(id:Nat)(b':Blk){b:Blk}(hb:η id=some b)(he:b=b')(hc:AWP P N c Q ⟨τ,η.set id (some b'),u⟩):AWP P N c Q ⟨τ,η,u⟩:=by
 subst he
 have:η.set id (some b)=η:=by
  funext i;by_cases e:i=id;subst e;rw[am,hb];rw[aq _ _ e]
 rwa [this]at hc
theorem b8{c:Code}(fp:List Nat)(id ver z:Nat)(cs ds:List AV)(hb:η id=some ⟨ver,cs,z,false⟩)(ho:fp.contains id=false)(hf:FzLO fp η cs ds){η':bf}(hη':((η.put (fp.map fun id=>(id,none))).set id (some ⟨ver,ds,z,false⟩))=η')(hc:AWP P N c Q ⟨τ,η',u⟩):AWP P N c Q ⟨τ,η,u⟩:=by
 subst hη';intro C a hs;have e0:C.η=η:=hs.η
 have hd:id∉fp:=fun h=>by rw[List.contains_iff_mem.2 h]at ho;cases ho
 obtain⟨h9,hr⟩:=hf.at;let C':Ctx:={C with η:=(C.η.put (fp.map fun id=>(id,none))).set id (some ⟨ver,ds,z,false⟩),T:=fun b=>C.T b\/C.mineOf fp b}
 have he:C.η id=some ⟨ver,cs,z,false⟩:=by rw[e0];exact hb
 have h8:∀{i b'},C'.η i=some b'->i∉fp/\((i=id/\b'=⟨ver,ds,z,false⟩)\/(i≠id/\C.η i=some b')):=by
  intro i b' h0;have h0:((C.η.put (fp.map fun id=>(id,none))).set id (some ⟨ver,ds,z,false⟩)) i=some b':=h0
  by_cases ei:i=id;subst ei;rw[am]at h0;cases h0;exact⟨hd,.inl ⟨rfl,rfl⟩⟩;rw[aq _ _ ei,zm]at h0;by_cases e:i∈fp;rw[ag2 e]at h0;cases h0;rw[ag1 e]at h0;exact⟨e,.inr ⟨ei,h0⟩⟩
 have h7:∀i b',C'.η i=some b'->∃b,C.η i=some b/\b'.ver=b.ver/\b'.nilp=b.nilp/\b'.kind=b.kind/\b'.esz=b.esz:=by
  intro i b' h0;obtain⟨_,⟨rfl,rfl⟩|⟨_,h⟩⟩:=h8 h0;exact⟨_,he,rfl,rfl,by rw[dj rfl,dj rfl],rfl⟩;exact⟨_,h,rfl,rfl,rfl,rfl⟩
 have ha:∀{a:AV} {x:Value},VR C a x->VR C' a x:=fun hv=>VR.shift (C:=C) (C':=C') rfl rfl rfl rfl (fun b hb=>.inl hb) hs.good.used h7 hv;have hh:∀{a b:AV} {x:Value},FzP fp η a b->VR C a x->VR C' b x:=fun hp hv=>.imm (hp C hs.good (fun id _=>by rw[e0]) _ hv)
 have h6:∀{i},C'.live i->C.live i/\i∉fp:=by rintro i ⟨b',h0,hk⟩;obtain⟨b,h1,_,_,h4,_⟩:=h7 _ _ h0;exact⟨⟨b,h1,by rw[<-h4];exact hk⟩,(h8 h0).1⟩
 have hg:Good C':=by
  refine⟨fun h=>?_,?_,?_,fun hi hj e=>hs.good.inj (h6 hi).1 (h6 hj).1 e,?_,?_,fun h hv hn=>?_⟩;obtain⟨b,h1,_⟩:=h7 _ _ h;exact hs.good.used h1;intro i b' h0 hk;obtain⟨_,⟨rfl,rfl⟩|⟨_,h⟩⟩:=h8 h0;rw[dj rfl]at hk;cases hk;obtain⟨o,g1,g2⟩:=hs.good.obj h hk;exact⟨o,g1,ObjR.shift ha g2⟩;intro i b' h0 ht;obtain⟨_,⟨rfl,rfl⟩|⟨_,h⟩⟩:=h8 h0;obtain⟨c,t,g1,g2,g3,g4⟩:=hs.good.blk he rfl;refine⟨c,t,g1,g2,by show(C.ρ i).2+ds.length<=c.size;rw[<-h9];exact g3,fun j hj hl=>?_⟩;have hw:j<ds.length:=hj
  have hq:j<cs.length:=by omega
  have h1:=g4 j hq hl;rcases hr j hq hw with e|e;show VR C' ds[j] _
  rw[<-e];exact ha h1;exact hh e h1;obtain⟨c,t,g1,g2,g3,g4⟩:=hs.good.blk h ht;exact⟨c,t,g1,g2,g3,fun j hj hl=>ha (g4 j hj hl)⟩;refine hs.good.tokT (fun _ h=>.inl h) ?_;rintro k (hk|hk);exact hs.good.tlt hk;exact cr hs.good (bj hk);rintro k ⟨i,hm,hk⟩ (hT|⟨i',hx,hl'',e⟩);exact hs.good.apart ⟨i,(h6 hm).1,hk⟩ hT;have:i'=i:=hs.good.inj hl'' (h6 hm).1 (e.trans hk.symm)
  subst this;exact(h6 hm).2 hx;obtain⟨_,⟨rfl,rfl⟩|⟨_,h1⟩⟩:=h8 h;have:=hs.good.tight he hv rfl
  show C.sz _=(C.ρ _).2+ds.length;rw[<-h9];exact this;exact hs.good.tight h1 hv hn
 have hy:Fr C C':=⟨⟨rfl,rfl,rfl,ag8 _,fun _ _ _=>rfl,fun k ⟨i,q1,q2⟩=>.inl ⟨i,(h6 q1).1,q2⟩,fun k h=>.inl h,fun k h=>h.imp (fun h=>h) (fun h=>.inl (bj h))⟩,fun i _ hu=>⟨hu,fun b' h0=>by obtain⟨b,h1,h2,_,h4,h5⟩:=h7 _ _ h0;exact⟨b,h1,by omega,fun _=>⟨rfl,rfl,h4,h5⟩⟩⟩⟩;have hz:SRel N C' ⟨τ,(η.put (fp.map fun id=>(id,none))).set id (some ⟨ver,ds,z,false⟩),u⟩ a:=by refine⟨hg,by simp only[C',e0],hs.u,hs.defers,hs.size,fun q=>ha (hs.τ q)⟩
 have:=hc C' a hz;exact Code.wp_mono (fun e a' w' ⟨s',C'',h1,h2,h3,h4⟩=>⟨s',C'',h1,h2,h3,hy.trans h4⟩) this
end
theorem l7{α:Type}{f:α->List AV}{q:Nat}(h:RowF f q){m:List (Nat×Nat)}{i k v:Nat}{r:List α}{n:Bool}(e:gOf m i=k):d6 m [(i,some ⟨v,rF f r,q,n⟩)]=[(k,some ⟨v,rF f r,q,n⟩)]:=by simp only[d6,ahh,List.map_nil,e,ahp,cv h]
section
variable{α:Type}{f:α->List AV}{q:Nat}
theorem okB(h:RowF f q){K:List Nat}{v:Nat}{l:List α}{b:Bool}(he:b=true->l=[]):zq K ⟨v,rF f l,q,b⟩:=⟨au h K l,by
 cases b with
 |false=>exact .inl rfl
 |true=>rw[he rfl];exact .inr (.inl rfl)⟩
end
section
variable{P:Program}{τ:Nat->AV}{η:bf}{d:Option Tmp}{ty:TypeId}{pos:String}{af:Array Edge}{g:Option (Nat×Bool)}
theorem Ji{α:Type}{t e m n:Nat}{k:IntKind}{v:Int}{x y:Operand}{f:α->List AV}{l:List α}(hu:P.underlying t=some (.slice e))(hs:ap P e=some m)(hx:aev τ x=.tree m (l.map f))(hi:aev τ y=.v (.int k v))(hv:v=((n:Nat):Int))(hn:n<=l.length):
 LOp P ⟨d,.slice t x (some y) none none,ty,pos,af,g⟩ τ η [] [] (.tree m ((l.drop n).map f)):=by
 subst hv
 have h:ve P τ η 0 t x (some y) none=some ⟨[],[],.tree m ((l.drop n).map f),0⟩:=by have h1:Nat.ble n l.length=true:=Nat.ble_eq_true_of_le hn;have h2:Nat.ble l.length l.length=true:=Nat.ble_eq_true_of_le (ag8 _);have h3:aev τ y=.v (.int k (Int.ofNat n)):=hi;unfold ve;rw[hu];simp only[hs,hx,xn,h3,ag0,h1,h2,Nat.beq_refl,Bool.and_true,cond_true];congr 3;rw[<-List.map_drop,ahl (by simp)]
 exact vd h
end
section
variable{P:Program}{τ:Nat->AV}{η:bf}{d:Option Tmp}{ty:TypeId}{pos:String}{af:Array Edge}{g:Option (Nat×Bool)}
theorem Cy{o:Oper}{fp:List Nat}{v:AV}{id:Nat}{b:Option Blk}(h:LOp P o τ η fp [] v)(h6:id∈fp)(hb:η id=b)(h7:b.isSome=true):LOp P o τ η fp [(id,b)] v:=by
 intro C a hg h8 h0 _ K Q hK
 refine h C a hg h8 h0 (fun p hp=>absurd hp (by simp)) K Q fun x C' h1 h2 h3 h4 h5=>hK x C' ?_ (fun i=>?_) h3 h4 h5
 ·rw[h1]
  funext k
  have e:C.η id=b:=(h0 id h6).trans hb
  simp only[bf.put]
  by_cases hk:k=id
  ·subst hk;rw[am];exact e
  ·rw[aq _ _ hk]
 ·rw[h2]
  simp only[List.map_nil,List.not_mem_nil,or_false,ahh,agy]
  refine⟨fun h=>.inl h,fun h=>?_⟩
  rcases h with h|h
  ·exact h
  ·subst h
   have e:C.η i=b:=(h0 i h6).trans hb
   cases b with
   |none=>cases h7
   |some b=>exact hg.used e
def vbX(ver n:Nat):Nat:=bif Nat.beq n 0 then ver else ver+1
variable{α:Type}{f:α->List AV}{q:Nat}
theorem A2(hf:RowF f q){t e by_:Nat}{s x:Operand}{z:Value}{id ver:Nat}{l l':List α}(ht:P.underlying t=some (.slice e))(hs:ap P e=some q)(hz:bi P e=some z)(h2:(P.info? e).map (·.bytes)=some by_)(h3:z.cells.size=q)
 (hx:aev τ s=.sl id ver 0 l.length)(hb:η id=some ⟨ver,rF f l,q,false⟩)(hy:aev τ x=.tree q (l'.map f))(h1:(l.length+l'.length)*by_<=140737488355328)(h0:l.length+l'.length<=140737488355328)(h4:ver+1≠TV):
 LOp P ⟨d,.call {callee:=.builtin .append,args:=#[s,x],argTypes:=#[t,t]},ty,pos,af,g⟩ τ η [id] [(id,some ⟨ver+1,rF f (l++l'),q,false⟩)] (.sl id (ver+1) 0 (l++l').length):=by
 have:=LOp.append (d:=d) (ty:=ty) (pos:=pos) (af:=af) (g:=g) (m:=l'.length) (news:=rF f l') ht hs hz h2 h3 hx hb rfl rfl rfl (Nat.le_of_eq (ib hf l).symm) (by rw[hy];exact qi rfl) (ib hf l') (Kz hf l') h1 h0 h4
 rw[<-agx,<-ib hf l,List.take_length,<-x9]at this
 exact this
theorem og(hf:RowF f q){t e by_:Nat}{s x:Operand}{z:Value}{id ver:Nat}{l l':List α}(ht:P.underlying t=some (.slice e))(hs:ap P e=some q)(hz:bi P e=some z)(h5:(P.info? e).map (·.bytes)=some by_)(h6:z.cells.size=q)
 (hx:aev τ s=.sl id ver 0 l.length)(hb:η id=some ⟨ver,rF f l,q,Nat.beq l.length 0⟩)(hy:aev τ x=.tree q (l'.map f))(h2:(l.length+l'.length)*by_<=140737488355328)(h1:l.length+l'.length<=140737488355328)(h7:ver+1≠TV):
 LOp P ⟨d,.call {callee:=.builtin .append,args:=#[s,x],argTypes:=#[t,t]},ty,pos,af,g⟩ τ η [id] [(id,some ⟨vbX ver (l++l').length,rF f (l++l'),q,Nat.beq (l++l').length 0⟩)] (.sl id (vbX ver (l++l').length) 0 (l++l').length):=by
 by_cases h0:(l++l').length=0
 ·have e0:=ahm h0
  obtain⟨rfl,rfl⟩:=List.append_eq_nil_iff.1 e0
  refine Cy (.look [id] fun C a hg h8 ha=>?_) (agy.2 rfl) hb rfl
  have h9:C.η id=some ⟨ver,[],q,true⟩:=(ha id (agy.2 rfl)).trans hb
  have e1:=h8 s (by simp[Op.operands,Call.operands])
  rw[hx]at e1
  obtain⟨e2,_,_⟩:=e1.slnil_inv h9 rfl rfl
  unfold ap at hs
  cases hi:P.info? e with
  |none=>rw[hi]at hs;cases hs
  |some inf=>
   have hv:VR C (.sl id (vbX ver 0) 0 0) (.slice none 0 0):=.slnil (b:=⟨ver,[],q,true⟩) h9 rfl rfl
   have h3:Src η [] (aev τ x) 0 []:=by rw[hy];exact qi (f:=f) (l:=([]:List α)) rfl
   rcases h3 C hg (fun i hi=>absurd hi (by simp)) _ (h8 x (by simp[Op.operands,Call.operands]))with⟨_,_,ad,c,h4⟩|⟨ad,c,vals,h4,_⟩
   ·refine⟨.slice none 0 0,dv C.w ?_,hv⟩
    rw[e2,h4]
    exact cz (P:=P) (ty:=ty) ht hi C.w none ad 0 0 c (ag8 _)
   ·refine⟨.slice none 0 0,dv C.w ?_,hv⟩
    rw[e2,h4]
    exact cz (P:=P) (ty:=ty) ht hi C.w none (some ad) 0 0 c (ag8 _)
 ·have e1:Nat.beq (l++l').length 0=false:=jv h0
  have e2:vbX ver (l++l').length=ver+1:=by unfold vbX;rw[e1];rfl
  rw[e1,e2]
  cases l with
  |cons a r=>exact A2 hf ht hs hz h5 h6 hx hb hy h2 h1 h7
  |nil=>
   have hm:0<l'.length:=by simpa using Nat.pos_of_ne_zero h0
   have:=xc (d:=d) (ty:=ty) (pos:=pos) (af:=af) (g:=g) (m:=l'.length) (fp:=[]) (news:=rF f l') ht hs hz h5 h6 hx hb rfl (ib hf []) (by rw[hy];exact qi rfl) hm (ib hf l') (Kz hf l') h2 h1 h7
   rw[<-agx,<-x9]at this
   exact this
end
theorem Ym{ver n:Nat}:ver<=vbX ver n/\vbX ver n<=ver+1:=by unfold vbX;cases Nat.beq n 0<;>simp
def EWP(P:Program)(N:Nat)(c:Code)(Q:Exit->St->Prop)(s:St):Prop:=∃e s',Q e s'/\AWP P N c (fun e1 s1=>e1=e/\s1=s') s
def PRet(P:Program)(f:FuncId)(args:List AV)(R:AV->Prop):Prop:=∃ret,R ret/\eu P f args ret
section
variable{P:Program}{N:Nat}{Q:Exit->St->Prop}{s:St}
theorem EWP.via{c:Code}{s2:St}(h:∀Q,AWP P N c Q s2->AWP P N c Q s)(hc:EWP P N c Q s2):EWP P N c Q s:=by obtain⟨e,s',h1,h2⟩:=hc;exact⟨e,s',h1,h _ h2⟩
theorem EWP.mono{Q':Exit->St->Prop}{c:Code}(h:EWP P N c Q s)(hq:∀e s',Q e s'->Q' e s'):EWP P N c Q' s:=by obtain⟨e,s',h1,h2⟩:=h;exact⟨e,s',hq _ _ h1,h2⟩
theorem EWP.skip(h:Q .normal s):EWP P N .skip Q s:=⟨_,_,h,wK ⟨rfl,rfl⟩⟩
theorem EWP.exit{id:Nat}(h:Q (.exit id) s):EWP P N (.exit id) Q s:=⟨_,_,h,AWP.exit ⟨rfl,rfl⟩⟩
theorem EWP.ret(h:Q .ret s):EWP P N .ret Q s:=⟨_,_,h,wT ⟨rfl,rfl⟩⟩
theorem EWP.region{id:Nat}{l:List Oper}(h:Xr P N l.toArray l (fun _ s'=>Q .normal s') s):EWP P N (.region id l.toArray false) Q s:=by obtain⟨rs,s',h1,h2⟩:=h;exact⟨_,s',h2,wR (Fq h1 ⟨rfl,rfl⟩)⟩
theorem R6{id:Nat}{l:List Oper}(hm:P.follows .mixedOrders=true)(h:Xr P N l.toArray l (fun rs s'=>pn l.toArray rs=true/\Q .normal s') s):EWP P N (.region id l.toArray true) Q s:=by obtain⟨rs,s',h1,h2,h3⟩:=h;exact⟨_,s',h3,AWP.regionD hm h1 h2 ⟨rfl,rfl⟩⟩
theorem EWP.seq{x y:Code}(h:EWP P N x (andThen (EWP P N y Q) Q) s):EWP P N (.seq x y) Q s:=by
 obtain⟨e,s',h1,h2⟩:=h;cases e with
 |normal=>
  obtain⟨e2,s2,h3,h4⟩:=h1
  refine⟨e2,s2,h3,wS (AWP.mono h2 ?_)⟩
  rintro e1 s1 ⟨rfl,rfl⟩
  exact h4
 |_=>
  refine⟨_,s',h1,wS (AWP.mono h2 ?_)⟩
  rintro e1 s1 ⟨rfl,rfl⟩
  exact⟨rfl,rfl⟩
theorem EWP.cond{c:Operand}{x y:Code}{t:Bool}(hc:aev s.τ c=.v (.bool t))(ht:t=true->EWP P N x Q s)(hf:t=false->EWP P N y Q s):EWP P N (.cond c x y) Q s:=by
 cases t with
 |true=>obtain⟨e,s',h1,h2⟩:=ht rfl;exact⟨e,s',h1,AWP.condT hc h2⟩
 |false=>obtain⟨e,s',h1,h2⟩:=hf rfl;exact⟨e,s',h1,AWP.condF hc h2⟩
theorem EWP.block{id:Nat}{c:Code}(h:EWP P N c (t8 id Q) s):EWP P N (.block id c) Q s:=by
 obtain⟨e,s',h1,h2⟩:=h;cases e with
 |exit id'=>
  by_cases hi:Nat.beq id' id=true
  ·simp only[t8,hi,cond_true]at h1
   refine⟨.normal,s',h1,wB (AWP.mono h2 ?_)⟩
   rintro e1 s1 ⟨rfl,rfl⟩
   simp only[t8,hi,cond_true]
   exact⟨trivial,trivial⟩
  ·simp only[Bool.not_eq_true]at hi
   simp only[t8,hi,cond_false]at h1
   refine⟨.exit id',s',h1,wB (AWP.mono h2 ?_)⟩
   rintro e1 s1 ⟨rfl,rfl⟩
   simp only[t8,hi,cond_false]
   exact⟨trivial,trivial⟩
 |_=>
  refine⟨_,s',h1,wB (AWP.mono h2 ?_)⟩
  rintro e1 s1 ⟨rfl,rfl⟩
  exact⟨rfl,rfl⟩
inductive Chain(P:Program)(N:Nat)(c:Code)(e2:Exit)(s2:St):Nat->St->Prop
 |done {n:Nat} {s:St}:AWP P N c (fun e1 s1=>e1=e2/\s1=s2) s->e2≠.normal->Chain P N c e2 s2 n s
 |step {n m:Nat} {s s' s1:St}:AWP P N c (fun e1 s1=>e1=.normal/\s1=s') s->(∀Q,AWP P N c Q s1->AWP P N c Q s')->m<n->Chain P N c e2 s2 m s1->Chain P N c e2 s2 n s
theorem Chain.loop{c:Code}{e2:Exit}{s2:St}{n:Nat}{s:St}(h:Chain P N c e2 s2 n s):AWP P N (.loop c) (fun e1 s1=>e1=e2/\s1=s2) s:=by
 refine AWP.loop (fun n s=>∃s1,(∀Q,AWP P N c Q s1->AWP P N c Q s)/\Chain P N c e2 s2 n s1) (fun n s ⟨s1,h1,h2⟩=>h1 _ ?_) (n:=n) ⟨s,fun _ h=>h,h⟩;cases h2 with
 |done h3 h4=>
  refine AWP.mono h3 ?_
  rintro e1 s3 ⟨rfl,rfl⟩
  cases e1 with
  |normal=>exact absurd rfl h4
  |_=>exact⟨rfl,rfl⟩
 |step h3 h4 h5 h6=>
  refine AWP.mono h3 ?_
  rintro e1 s3 ⟨rfl,rfl⟩
  exact⟨_,h5,_,h4,h6⟩
theorem EWP.canon{c:Code}{s1:St}(h:Canon s s1)(hc:EWP P N c Q s1):EWP P N c Q s:=EWP.via (fun _=>AWP.canon h) hc
theorem Ow{c:Code}(I:Nat->St->Prop)(hI:∀n s,I n s->EWP P N c (andThen (fun s'=>∃m s1,m<n/\Canon s' s1/\I m s1) Q) s):∀n s,I n s->∃e2 s2,Q e2 s2/\Chain P N c e2 s2 n s:=by
 intro n;induction n using Nat.strongRecOn with
 |_ n ih=>
  intro s h0
  obtain⟨e,s',h1,h2⟩:=hI n s h0
  cases e with
  |normal=>
   obtain⟨m,s1,hm,hc,hi⟩:=h1
   obtain⟨e2,s2,h3,h4⟩:=ih m hm s1 hi
   exact⟨e2,s2,h3,.step h2 (fun _=>AWP.canon hc) hm h4⟩
  |_=>exact⟨_,s',h1,.done h2 (by simp)⟩
theorem Dd{c:Code}(I:Nat->St->Prop){n:Nat}{s1:St}(hc:Canon s s1)(h0:I n s1)(hI:∀n s,I n s->EWP P N c (andThen (fun s'=>∃m s1,m<n/\Canon s' s1/\I m s1) Q) s):EWP P N (.loop c) Q s:=by obtain⟨e2,s2,h1,h2⟩:=Ow I hI n s1 h0;exact EWP.canon hc ⟨e2,s2,h1,h2.loop⟩
theorem Dc{c:Code}(h:EWP P N c (andThen (fun _=>False) Q) s):EWP P N (.loop c) Q s:=by
 obtain⟨e,s',h1,h2⟩:=h
 cases e with
 |normal=>exact h1.elim
 |_=>exact⟨_,s',h1,(Chain.done (n:=0) h2 (by simp)).loop⟩
def R7(P:Program)(N:Nat)(c:Code)(Q:Exit->St->Prop)(s:St):Prop:=∃e2 s2 n,Q e2 s2/\Chain P N c e2 s2 n s
theorem De{c:Code}(h:EWP P N c (andThen (R7 P N c Q) Q) s):R7 P N c Q s:=by
 obtain⟨e,s',h1,h2⟩:=h;cases e with
 |normal=>
  obtain⟨e2,s2,n,h3,h4⟩:=h1
  exact⟨e2,s2,n+1,h3,.step h2 (fun _ h=>h) (Nat.lt_succ_self n) h4⟩
 |_=>exact⟨_,s',0,h1,.done h2 (by simp)⟩
theorem Ov{c:Code}(h:R7 P N c Q s):EWP P N (.loop c) Q s:=by obtain⟨e2,s2,n,h1,h2⟩:=h;exact⟨e2,s2,h1,h2.loop⟩
theorem PRet.of_body{f:FuncId}{fn:Func}{c:Code}{args:List AV}{R:AV->Prop}(hf:P.funcs[f]? =some fn)(hb:fn.body=some c)(hN:fn.ntmps=N)(hl:args.length<=N)
 (h:EWP P N c (fun e s'=>(e=.normal\/e=.ret)/\∃ret,Og P N fn s' ret/\R ret) ⟨b7 args,m4,0⟩):PRet P f args R:=by
 obtain⟨e,s',⟨he,ret,ho,hR⟩,h2⟩:=h
 refine⟨ret,hR,pB hf hb hN hl (AWP.mono h2 ?_)⟩
 rintro e1 s1 ⟨rfl,rfl⟩
 exact⟨he,ho⟩
theorem PRet.mono{f:FuncId}{args:List AV}{R R':AV->Prop}(h:PRet P f args R)(hR:∀r,R r->R' r):PRet P f args R':=by obtain⟨r,h1,h2⟩:=h;exact⟨r,hR r h1,h2⟩
end
section
variable{P:Program}{τ:Nat->AV}{η:bf}{d:Option Tmp}{ty:TypeId}{pos:String}{af:Array Edge}{g:Option (Nat×Bool)}
theorem Jk{t t':Nat}{x y:Operand}{a b:ByteArray}(hx:aev τ x=.v (.string a))(hy:aev τ y=.v (.string b))(h:a.size+b.size<=9223372036854775807):
 LOp P ⟨d,.binOp .add t x y t',ty,pos,af,g⟩ τ η [] [] (.v (.string (a++b))):=
 .look [] fun C q hg h0 _=>by have e1:=h0 x (by simp[Op.operands]);have e2:=h0 y (by simp[Op.operands]);rw[hx]at e1;rw[hy]at e2;refine⟨_,?_,VR.v C _⟩;simp only[execOp,e1.v_inv,e2.v_inv];simp[eqGuard,Sem.run_bind,Go.binOp_string_add,Go.run_string_add_sum C.w a b h]
theorem Jh{t e:Nat}{x:Operand}{ats:Array TypeId}(ha:ats[0]? =some t)(he:P.underlying t=some (.slice e))(hx:aev τ x=.v (.slice none 0 0)):
 LOp P ⟨d,.call {callee:=.builtin .len,args:=#[x],argTypes:=ats},ty,pos,af,g⟩ τ η [] [] (.v (.int .i64 0)):=
 .look [] fun C a hg h0 _=>by have h1:=h0 x (by simp[Op.operands,Call.operands]);rw[hx]at h1;refine⟨_,?_,VR.v C _⟩;simp[execOp,h1.v_inv,resolve,invoke,builtin,Builtin.len_,ha,run_underlying he,goInt]
end
def o7(P:Program)(f:FuncId)(args:List AV)(hb:List (Nat×Blk))(hb':List (Nat×Option Blk))(R:AV->Prop):Prop:=∃ret,R ret/\xt P f args hb hb' ret
theorem o7.of_body{P:Program}{f:FuncId}{fn:Func}{c:Code}{N:Nat}{args:List AV}{hb:List (Nat×Blk)}{hb':List (Nat×Option Blk)}{R:AV->Prop}(hf:P.funcs[f]? =some fn)(h0:fn.body=some c)(hN:fn.ntmps=N)(hl:args.length<=N)
 (h:EWP P N c (fun e s'=>(e=.normal\/e=.ret)/\∃ret,Fg P N fn s' hb' ret/\R ret) ⟨b7 args,hLz hb,0⟩):o7 P f args hb hb' R:=by
 obtain⟨e,s',⟨he,ret,ho,hR⟩,h2⟩:=h
 refine⟨ret,hR,xt.of_body hf h0 hN hl (AWP.mono h2 ?_)⟩
 rintro e1 s1 ⟨rfl,rfl⟩
 exact⟨he,ho⟩
end Go.Proofs.YtmbmbhkemgmhfaaGreatDoor
