/- Texts of the claim. -/
import Derived.Lib.RowBridge
import Derived.Sort.Grow
import Derived.Shelf.SlLaysE
import Derived.Shelf.SlicesE.Kit
import Derived.Shelf.RegionOpenPlain
import Derived.WalkKit
import Derived.Deep.LoopGhost
import Derived.Deep.RegionLaw
import Derived.Lib.Walk
import Derived.Sort.WalkB12
import Derived.Lib.SliceRun
import Derived.Shelf.SlicesE.Clone
import Derived.Laws.Strings2
import Derived.Laws.Slices
import Derived.Laws.Concat
import Derived.Test.YtfpfdfhlljjckaaGreatDoorCE1
import Derived.Test.YtfpfdfhlljjckaaGreatDoorCA2
set_option linter.all false
namespace Go.Proofs.YtfpfdfhlljjckaaGreatDoor
set_option maxRecDepth 1000000
set_option maxHeartbeats 0
set_option linter.unusedVariables false
set_option linter.unusedSimpArgs false
open Go.RowKit
variable{a:AV}{R:AV->Prop}{ats:Array TypeId}{b:Bool}{c:Code}{C C':Ctx}{fn:Func}{f:FuncId}{xs:List (List AV)}{hb:List (Nat×Blk)}{m:List (Nat×Nat)}{hb' δ:List (Nat×Option Blk)}{es:List (Value×AV×Nat)}{args cs vs:List AV}{D K fp seen:List Nat}{N clock e et i j k n q t u v ver:Nat}{F:Nat->Bool}{g:Nat->Nat}{T:Nat->Prop}{o:Oper}{x y:Operand}{P:Program}{s s1 s2:St}{α β:Type}{z:Value}{w:World}
theorem p8 :∀{s:Sem α} {f:α->Sem β} {a:α} {b:β},fa P s=some a->fa P (f a)=some b->fa P (s.bind f)=some b:=by
 intro s
 induction s with
 |pure a=>intro f a' b h1 h2;simp only[fa,aza]at h1;subst h1;exact h2
 |program k ih=>intro f a b h1 h2;exact ih P h1 h2
 |mark m k ih=>intro f a b h1 h2;exact ih h1 h2
 |choose q k ih=>
  intro f a b h1 h2
  simp only[Sem.bind,fa]at h1 ⊢
  cases hq:q.forced with
  |false=>rw[hq]at h1;simp at h1
  |true=>
   rw[hq]at h1
   simp only[cond_true]at h1 ⊢
   exact ih 0 h1 h2
 |_=>intro f a b h1 h2;simp[fa]at h1
theorem Ak{t:TypeId}{d:TypeDesc}(h:P.underlying t=some d):fa P (underlying t)=some d:=by show fa P (match P.underlying t with|some d=>(pure d:Sem TypeDesc)|none=>stuck "no such type")=some d;rw[h];rfl
section
variable{P:Program}{kt:TypeId}
theorem Al{k:Int}{e:Bool}(hk:P.underlying kt=some (.int .i64)):fa P (Instr.checkKey e 10000 kt (.int .i64 k))=some ():=by show fa P (Instr.checkKey e (9999+1) kt (.int .i64 k))=some ();unfold Instr.checkKey;have:fa P (underlying kt)=some (.int .i64):=Ak hk;exact p8 this rfl
theorem vu{k:Int}:∀(es:List (Value×AV×Nat)) (i:Nat),(∀e∈es,∃n,e.1=.int .i64 n/\n≠k)->Instr.findNow (.int .i64) (.int .i64 k) (l8 es) i=some none
 |[],_,_=>rfl
 |e::es,i,h=>by obtain⟨n,h1,h2⟩:=h e (by simp);have h3:(k==n)=false:=(by simpa using fun e=>h2 e.symm);simp only[l8,azw,Instr.findNow,h1,Instr.sameNow,if_true,h3];exact vu es (i+1) (fun e he=>h e (by simp[he]))
theorem vt{k:Int}:∀(es:List (Value×AV×Nat)) (i j:Nat) (hj:j<es.length),(∀e∈es,∃n,e.1=.int .i64 n)->es[j].1=.int .i64 k->(∀i (h:i<es.length),i<j->es[i].1≠.int .i64 k)->∃v,Instr.findNow (.int .i64) (.int .i64 k) (l8 es) i=some (some (i+j,v))
 |[],_,_,hj,_,_,_=>absurd hj (by simp)
 |e::es,i,0,hj,hi,h1,_=>by simp only[List.getElem_cons_zero]at h1;exact⟨undef,by simp[l8,Instr.findNow,h1,Instr.sameNow]⟩
 |e::es,i,j+1,hj,hi,h1,h2=>by obtain⟨n,hn⟩:=hi e (by simp);have h0:n≠k:=fun e'=>h2 0 (by simp) (by omega) (by simp[hn,e']);have h3:(k==n)=false:=(by simpa using fun e=>h0 e.symm);obtain⟨v,hv⟩:=vt es (i+1) j (by simpa using hj) (fun e he=>hi e (by simp[he])) (by simpa using h1) (fun q hq hqj=>by have:=h2 (q+1) (by simpa using hq) (by omega);simpa using this);refine⟨v,?_⟩;simp only[l8,azw,Instr.findNow,hn,Instr.sameNow,if_true,h3];rw[show i+(j+1)=i+1+j by omega];exact hv
theorem Cy{k:Int}(hk:P.underlying kt=some (.int .i64))(h:∀e∈es,∃n,e.1=.int .i64 n/\n≠k):B3 P kt (.int .i64 k) es=some none:=by unfold B3;rw[Al hk];have h1:fa P (Instr.findKey kt (.int .i64 k) (l8 es))=some none:=(by unfold Instr.findKey;refine p8 (Ak hk) ?_;rw[vu es 0 h];rfl);rw[h1]
theorem O2{k:Int}(hk:P.underlying kt=some (.int .i64))(hj:j<es.length)(hi:∀e∈es,∃n,e.1=.int .i64 n)(h1:es[j].1=.int .i64 k)(h2:∀i (h:i<es.length),i<j->es[i].1≠.int .i64 k):B3 P kt (.int .i64 k) es=some (some j):=by unfold B3;rw[Al hk];obtain⟨v,hv⟩:=vt es 0 j hj hi h1 h2;rw[Nat.zero_add]at hv;have h1:fa P (Instr.findKey kt (.int .i64 k) (l8 es))=some (some (j,v)):=(by unfold Instr.findKey;refine p8 (Ak hk) ?_;rw[hv];rfl);rw[h1]
end
theorem K0:∀es:List (Value×AV×Nat),aca (es.map fun e=>.agg [.v e.1,e.2.1,.v (.int .i64 (Int.ofNat e.2.2))])=some es
 |[]=>rfl
 |e::es=>by have ih:=K0 es;simp only[azw,aca,ih]
theorem rb{η:bm}{id z:Nat}(h:η id=some (cj ver z clock es)):G0 η id ver=some (cj ver z clock es,clock,es):=by have h1:Qo (mw clock es)=some (clock,es):=(by have e:Qo (mw clock es)=(match aca (es.map fun e=>.agg [.v e.1,e.2.1,.v (.int .i64 (Int.ofNat e.2.2))])with|some es=>some (clock,es)|none=>none):=rfl;rw[e,K0]);unfold G0;rw[h];have e2:(cj ver z clock es).cs=mw clock es:=rfl;have e3:(cj ver z clock es).ver=ver:=rfl;have e4:(cj ver z clock es).nilp=true:=rfl;simp only[e2,e3,e4,h1];simp
section
variable{P:Program}{τ:Nat->AV}{η:bm}{d:Option Tmp}{ty:TypeId}{pos:String}{af:Array Edge}{g:Option (Nat×Bool)}
theorem xl{kt id z:Nat}{m k:Operand}{n:Int}(ht:P.underlying t=some (.map kt et))(hk:P.underlying kt=some (.int .i64))(hm:aev τ m=.mp id ver)(h0:aev τ k=.v (.int .i64 n))(hb:η id=some (cj ver z clock es))
 (h:∀e∈es,∃q,e.1=.int .i64 q/\q≠n):LOp P ⟨d,.mapUpdate t m k x,ty,pos,af,g⟩ τ η [id] [(id,some (cj ver z (clock+1) (es++[(.int .i64 n,aev τ x,clock)])))] (.v undef):=by
 refine Ov (u:=0) (r:=⟨[id],[(id,some (cj ver z (clock+1) (es++[(.int .i64 n,aev τ x,clock)])))],.v undef,0⟩) (.inl rfl) ?_
 unfold Jl
 rw[ht]
 simp only[h0,hm,rb hb,Al hk,Cy hk h]
 rfl
theorem Ps{kt id z:Nat}{i:Operand}{n:Int}{v:AV}{z0:Value}(ht:P.underlying t=some (.map kt et))(hk:P.underlying kt=some (.int .i64))(hz:bp P et=some z0)(hm:aev τ x=.mp id ver)(h0:aev τ i=.v (.int .i64 n))(hb:η id=some (cj ver z clock es))
 (hj:j<es.length)(hi:∀e∈es,∃q,e.1=.int .i64 q)(h1:es[j].1=.int .i64 n)(h2:∀i (h:i<es.length),i<j->es[i].1≠.int .i64 n)(hv:es[j].2.1=v):LOp P ⟨d,.lookup t x i false,ty,pos,af,g⟩ τ η [id] [] v:=by
 subst hv
 refine Ml (u:=0) (r:=⟨[id],[],es[j].2.1,0⟩) ?_
 unfold Zq
 rw[ht]
 simp only[h0,hz,hm,rb hb,O2 hk hj hi h1 h2,ay8 hj]
 rfl
end
theorem B9:∀ns:List Nat,um (ns.map fun n=>.v (.int .i64 (Int.ofNat n)))=some ns
 |[]=>rfl
 |n::ns=>by have ih:=B9 ns;have e:um ((n::ns).map fun n=>.v (.int .i64 (Int.ofNat n)))=(match um (ns.map fun n=>.v (.int .i64 (Int.ofNat n)))with|some l=>some (n::l)|none=>none):=rfl;rw[e,ih]
theorem Jo{η:bm}{id z mid mver since last:Nat}(h:η id=some (di ver z (.mp mid mver) since seen last)):To η id ver=some (di ver z (.mp mid mver) since seen last,.ofm mid mver since seen last):=by have h1:Fu (ii (.mp mid mver) since seen last)=some (.ofm mid mver since seen last):=(by have e:Fu (ii (.mp mid mver) since seen last)=(match um (seen.map fun n=>.v (.int .i64 (Int.ofNat n)))with|some seen=>some (.ofm mid mver since seen last)|none=>none):=rfl;rw[e,B9]);unfold To;rw[h];have e2:(di ver z (.mp mid mver) since seen last).cs=ii (.mp mid mver) since seen last:=rfl;have e3:(di ver z (.mp mid mver) since seen last).ver=ver:=rfl;have e4:(di ver z (.mp mid mver) since seen last).nilp=true:=rfl;simp only[e2,e3,e4,h1];simp
theorem All2.l{R:α->β->Prop}{l:List α}{m:List β}(h:All2 R l m):∀x∈l,∃y∈m,R x y:=by
 induction h with
 |nil=>simp
 |cons r _ ih=>simp only[azz,forall_eq_or_imp];exact⟨⟨_,.inl rfl,r⟩,fun x hx=>(ih x hx).imp fun _ h=>⟨.inr h.1,h.2⟩⟩
theorem All2.r{R:α->β->Prop}{l:List α}{m:List β}(h:All2 R l m):∀y∈m,∃x∈l,R x y:=by
 induction h with
 |nil=>simp
 |cons r _ ih=>simp only[azz,forall_eq_or_imp];exact⟨⟨_,.inl rfl,r⟩,fun x hx=>(ih x hx).imp fun _ h=>⟨.inr h.1,h.2⟩⟩
theorem V4(hg:Good C)(h:0<n):∃k C',k<n/\Good C'/\Ev C C'/\C'.η=C.η/\C'.ρ=C.ρ/\C'.U=C.U/\C'.w.heap=C.w.heap/\(choose (.mapNext n)).run P C.w=.ok k C'.w:=by
 by_cases h1:n=1
 ·subst h1;exact⟨0,C,by omega,hg,.refl C,rfl,rfl,rfl,rfl,by simp[choose,Sem.run,Question.forced]⟩
 ·have h0:(Question.mapNext n).forced=false:=by simp[Question.forced];omega
  obtain⟨gd,ed⟩:=wi hg
  exact⟨_,_,Nat.mod_lt _ (by omega),gd,ed,rfl,rfl,rfl,rfl,by simp[choose,Sem.run,h0];rfl⟩
section
variable{P:Program}{N:Nat}{τ:Nat->AV}{η:bm}{u:Nat}{ty:TypeId}{pos:String}{af:Array Edge}{g:Option (Nat×Bool)}
theorem Fm.next{ops:Array Oper}{K:St->Prop}{l:List Oper}{d:Nat}{id mid mver since z zm last:Nat}  
 (hx:aev τ x=.it id ver)(hb:η id=some (di ver z (.mp mid mver) since seen last))(hm:η mid=some (cj mver zm clock es))
 (hid:qo u id=true)(hw:By ops τ ⟨some d,.next x false,ty,pos,af,g⟩=some true)(hd:qc N ops ⟨some d,.next x false,ty,pos,af,g⟩=true)
 (hf:∀e∈es,e.2.2<since)(h4:seen=[]\/es=[]\/∃e∈es,e.2.2<last)
 (h5:(∀e∈es,seen.contains e.2.2=true)->Fm P N ops l K ⟨upd τ d (.tup [.v (.bool false)]),η,u⟩)
 (h6:∀e∈es,seen.contains e.2.2=false->Fm P N ops l K ⟨upd τ d (.tup [.v (.bool true),.v e.1,e.2.1]),η.set id (some (di ver z (.mp mid mver) since (seen++[e.2.2]) clock)),u⟩):
 Fm P N ops (⟨some d,.next x false,ty,pos,af,g⟩::l) K ⟨τ,η,u⟩:=by
 intro C a Q hr hK
 unfold wpList
 rw[qr hw hr (qc.guard hd)]
 simp only[if_true]
 left
 have hg:=hr.good
 have h7:=(congrFun hr.η id).trans hb
 have ho:=(congrFun hr.η mid).trans hm
 obtain⟨ob,g1,g2⟩:=hg.obj h7 rfl
 obtain⟨m,rfl,hp⟩:=ObjR.miter_inv g2
 have e1:=hr.eval x
 rw[hx]at e1
 have e1:=e1.it_inv h7 rfl
 obtain rfl:m=(C.ρ mid).1:=by simpa using hp.mp_inv ho rfl
 obtain⟨entries,q1,q2,q3⟩:=Gx hg ho rfl
 have h8:All2 (fun(x:Value×AV×Nat) (e:MapEntry)=>e.key=x.1/\VR C x.2.1 e.val/\e.born=x.2.2) es entries.toList:=.of_idx (by simpa using q2) (fun i h1 h2=>by simpa using q3 i h1 (by simpa using h2))
 have h0:=h8.filter (p:=fun e=>!seen.contains e.2.2) (q:=fun e=>!seen.contains e.born) (fun a b h=>by rw[h.2.2])
 have ht:(execOp a.eval ⟨some d,.next x false,ty,pos,af,g⟩).run P C.w=((Instr.next (a.eval x) false ty).run P C.w).andThen fun x w=>.ok (.value x) w:=by
  simp only[execOp,Sem.run_bind];rfl
 have t1:(!seen.toArray.isEmpty&&!entries.isEmpty&&entries.all (·.born≥last))=false:=by
  rcases h4 with h|h|⟨e,he,h⟩
  ·simp[h]
  ·subst h;simp at q2;simp[Array.eq_empty_of_size_eq_zero q2.symm]
  ·obtain⟨y,hy,h3⟩:=h8.l e he
   rw[show entries.all (·.born≥last)=false by rw[Array.all_eq_false'];exact⟨y,by simpa using hy,by simp;omega⟩];simp
 have h9:(entries.filter fun e=>!seen.toArray.contains e.born).toList=entries.toList.filter fun e=>!seen.contains e.born:=by simp
 generalize hL:(entries.filter fun e=>!seen.toArray.contains e.born)=L at h9
 rw[<-h9]at h0
 have hq:∀y∈L,y.born<since:=fun y hy=>by
  obtain⟨e,he,h⟩:=h0.r y (by simpa using hy)
  rw[h.2.2];exact hf e (List.mem_filter.1 he).1
 have o1:L.filter (·.born<since)=L:=Array.filter_eq_self.2 fun y hy=>by simpa using hq y hy
 have o2:L.filter (·.born≥since)=#[]:=Array.filter_eq_empty_iff.2 fun y hy=>by have:=hq y hy;simp;omega
 unfold Oper.wp
 rw[ht,e1]
 simp only[Instr.next,Sem.run_bind,p6 g1 (fun _ _ _ e=>by cases e),azq,p6 q1 (fun _ _ _ e=>by cases e),t1,Bool.false_eq_true,if_false,hL,o1,o2,Array.append_empty]
 obtain⟨ll⟩:=L
 match ll,h0 with
 |[],h0=>
  have hj:(choose (.mapNext 1)).run P C.w=.ok 0 C.w:=by simp[choose,Sem.run,Question.forced]
  have e0:((if(⟨[]⟩:Array MapEntry).isEmpty=true then#[none]else#[])++Array.map some ⟨[]⟩)=(#[none]:Array (Option MapEntry)):=by simp
  rw[e0,show(#[none]:Array (Option MapEntry)).size=1 from rfl,hj]
  have hs:=hr.put (.refl C) hg (fun i hi=>hr.u i hi) (qc.dst hd) (aku (VR.v C (.bool false)))
  rw[hr.η]at hs
  exact h5 (fun e he=>by
   cases hc:seen.contains e.2.2 with
   |true=>rfl
   |false=>exact absurd (h0.l e (List.mem_filter.2 ⟨he,by rw[hc];rfl⟩)) (by simp)) C _ Q hs hK
 |y::ys,h0=>
  obtain⟨k,C',hk,hl,ha,hη,hρ,hU,hh,hj⟩:=V4 (P:=P) hg (n:=ys.length+1) (by omega)
  obtain⟨e,he,k1,k2,k3⟩:=h0.r (y::ys)[k] (ay7 hk)
  obtain⟨he,hu⟩:=List.mem_filter.1 he
  have e0:((if(⟨y::ys⟩:Array MapEntry).isEmpty=true then#[none]else#[])++Array.map some ⟨y::ys⟩)=Array.map some ⟨y::ys⟩:=by simp
  have e2:(Array.map some (⟨y::ys⟩:Array MapEntry))[k]? =some (some (y::ys)[k]):=by rw[Array.getElem?_map,show(⟨y::ys⟩:Array MapEntry)[k]? =some (y::ys)[k]from(Array.getElem?_eq_getElem (by simpa using hk)).trans rfl];rfl
  have kk:∀D,VR D (.v e.1) (y::ys)[k].key:=fun D=>by rw[k1];exact VR.v _ _
  have g1':C'.w.heap[(C.ρ id).1]? =some (.mapIter (some (C.ρ mid).1) since seen.toArray last):=by rw[hh];exact g1
  rw[e0,show(Array.map some (⟨y::ys⟩:Array MapEntry)).size=ys.length+1 by simp,hj]
  simp only[azq,e2,Sem.run_bind,wv g1' (fun _ _ _ e=>by cases e),azr]
  have hv:seen.toArray.push (y::ys)[k].born=(seen++[e.2.2]).toArray:=by rw[k3];simp
  rw[hv,<-hρ]
  rw[<-hη]at h7
  have hz:ObjR C' (di ver z (.mp mid mver) since (seen++[e.2.2]) clock).cs (.mapIter (some (C'.ρ mid).1) since (seen++[e.2.2]).toArray clock):=.miter (by rw[hρ];exact hp.mono hg ha)
  have hn:=uj (o:=.mapIter (some (C'.ρ mid).1) since (seen++[e.2.2]).toArray clock) (b:=di ver z (.mp mid mver) since (seen++[e.2.2]) clock) hl h7 rfl rfl rfl rfl
  have g0:=wg (b:=di ver z (.mp mid mver) since (seen++[e.2.2]) clock) hl h7 rfl rfl rfl rfl hz
  have hs:=hr.put (v:=.tup [.v (.bool true),.v e.1,e.2.1]) (ha.trans hn) g0 (fun i hi=>hr.u i (by rw[<-hU];exact hi)) (qc.dst hd) (atd (VR.v _ (.bool true)) (kk _) ((k2.mono hg ha).mono hl hn))
  rw[show(C'.setO id (di ver z (.mp mid mver) since (seen++[e.2.2]) clock) (.mapIter (some (C'.ρ mid).1) since (seen++[e.2.2]).toArray clock)).η=_ from congrArg (bm.set · id _) (hη.trans hr.η)]at hs
  have h1:=h6 e he (by simpa using hu) _ _ Q hs (fun s' C'' a' hk g3 g4=>hK s' C'' a' hk g3 ((ha.trans hn).toFr.trans g4))
  exact h1
end
mutual
def AV.ren(g:Nat->Nat):AV->AV
 | .v x=>.v x
 | .tree n xs=>.tree n xs
 | .tp cs o=>.tp cs o
 | .unk=>.unk
 | .ptr id ver off=>.ptr (g id) ver off
 | .mp id ver=>.mp (g id) ver
 | .it id ver=>.it (g id) ver
 | .sl id ver off len=>.sl (g id) ver off len
 | .agg cs=>.agg (wl g cs)
 | .tup cs=>.tup (wl g cs)
 | .clo f cs=>.clo f (wl g cs)
def wl(g:Nat->Nat):List AV->List AV
 | []=>[]
 |a :: r=>a.ren g :: wl g r
end
mutual
def AV.inB(D:List Nat):AV->Bool
 | .v _=>true
 | .tree _ _=>true
 | .tp _ _=>true
 | .unk=>true
 | .ptr id _ _=>D.contains id
 | .mp id _=>D.contains id
 | .it id _=>D.contains id
 | .sl id _ _ _=>D.contains id
 | .agg cs=>inL D cs
 | .tup cs=>inL D cs
 | .clo _ cs=>inL D cs
def inL(D:List Nat):List AV->Bool
 | []=>true
 |a :: r=>a.inB D&&inL D r
end
theorem qy{g:Nat->Nat}:∀l:List AV,wl g l=l.map (AV.ren g)
 |[]=>rfl
 |a::r=>by rw[wl,qy r];rfl
theorem cx(l:List AV):(wl g l).length=l.length:=by rw[qy,aze]
theorem i8{l:List AV}(h:i<(wl g l).length):(wl g l)[i]=(l[i]'(by rw[cx]at h;exact h)).ren g:=by simp only[qy,List.getElem_map]
theorem awl{l:List AV}:inL D l=true↔∀a∈l,a.inB D=true:=by
 induction l with
 |nil=>simp[inL]
 |cons a r ih=>simp[inL,ih]
theorem pe{l:List AV}(h:inL D l=true)(i:Nat)(hi:i<l.length):l[i].inB D=true:=awl.1 h _ (ay7 _)
def Blk.ren(g:Nat->Nat)(b:Blk):Blk:=⟨b.ver,wl g b.cs,b.esz,b.nilp⟩
theorem br{b:Blk}:(b.ren g).kind=b.kind:=by obtain⟨v,cs,z,n⟩:=b;cases n<;>cases cs<;>rfl
structure Rens(D:List Nat)(g:Nat->Nat)(C C':Ctx):Prop where
 ρ:∀i,i∈D->C'.ρ (g i)=C.ρ i
 sz:∀i,i∈D->C'.sz (g i)=C.sz i
 η:∀i,i∈D->C'.η (g i)=(C.η i).map (Blk.ren g)
 U:∀i,i∈D->C'.U (g i)
 T:C'.T=C.T
 w:C'.w=C.w
theorem TR.ren(hr:Rens D g C C'){x:Value}(h:TR C.T C.w a x)(hd:a.inB D=true):VR C' (a.ren g) x:=by
 induction h with
 |v=>exact .imm (.v _)
 |unk=>exact .imm (.unk _)
 |tree cell h1 h2 h3 h4 h5 h6 h7=>exact .imm (by rw[hr.T,hr.w];exact .tree cell h1 h2 h3 h4 h5 h6 h7)
 |tree0 h=>exact .imm (.tree0 h)
 |tp cell h1 h2 h3=>exact .imm (by rw[hr.T,hr.w];exact .tp cell h1 h2 h3)
 |@agg cs vs hl hi ih=>exact .agg (by rw[cx];exact hl) (fun i h1 h2=>by
  have h3:i<cs.length:=by rw[cx]at h1;exact h1
  rw[i8 h1];exact ih i h3 h2 (pe hd i h3))
 |@tup cs vs hl hi ih=>exact .tup (by rw[cx];exact hl) (fun i h1 h2=>by
  have h3:i<cs.length:=by rw[cx]at h1;exact h1
  rw[i8 h1];exact ih i h3 h2 (pe hd i h3))
 |@clo f cs vs hl hi ih=>exact .clo (by rw[cx];exact hl) (fun i h1 h2=>by
  have h3:i<cs.length:=by rw[cx]at h1;exact h1
  rw[i8 h1];exact ih i h3 h2 (pe hd i h3))
theorem VR.ren(hr:Rens D g C C'){x:Value}(h:VR C a x)(hd:a.inB D=true):VR C' (a.ren g) x:=by
 have st:∀{id ver:Nat},id∈D->(∀b,C.η id=some b->ver<b.ver)->∀b,C'.η (g id)=some b->ver<b.ver:=by
  intro id ver h0 h b hb
  rw[hr.η id h0]at hb
  cases hc:C.η id with
  |none=>rw[hc]at hb;cases hb
  |some b0=>rw[hc]at hb;simp only[az5,aza]at hb;subst hb;exact h b0 hc
 have lv:∀{id:Nat} {b:Blk},id∈D->C.η id=some b->C'.η (g id)=some (b.ren g):=fun h0 hb=>by rw[hr.η _ h0,hb];rfl
 induction h with
 |imm h=>exact TR.ren hr h hd
 |ptr hb he hn=>
  have h0:_∈D:=List.contains_iff_mem.1 hd
  rw[<-hr.ρ _ h0];exact .ptr (lv h0 hb) he hn
 |sl hb he hn h1 h2 h3 h4=>
  have h0:_∈D:=List.contains_iff_mem.1 hd
  rw[<-hr.ρ _ h0];exact .sl (lv h0 hb) he hn h1 h2 h3 (by rw[hr.ρ _ h0,hr.sz _ h0];exact h4)
 |slz hb he hn=>
  have h0:_∈D:=List.contains_iff_mem.1 hd
  exact .slz (lv h0 hb) he hn
 |slnil hb he hn=>
  have h0:_∈D:=List.contains_iff_mem.1 hd
  exact .slnil (lv h0 hb) he (by rw[br];exact hn)
 |mp hb he hn=>
  have h0:_∈D:=List.contains_iff_mem.1 hd
  rw[<-hr.ρ _ h0];exact .mp (lv h0 hb) he (by rw[br];exact hn)
 |it hb he hn=>
  have h0:_∈D:=List.contains_iff_mem.1 hd
  rw[<-hr.ρ _ h0];exact .it (lv h0 hb) he (by rw[br];exact hn)
 |stalem h1 hu hs=>have h0:_∈D:=List.contains_iff_mem.1 hd;exact .stalem h1 (hr.U _ h0) (st h0 hs)
 |stalei h1 hu hs=>have h0:_∈D:=List.contains_iff_mem.1 hd;exact .stalei h1 (hr.U _ h0) (st h0 hs)
 |stalep h1 hu hs=>have h0:_∈D:=List.contains_iff_mem.1 hd;exact .stalep h1 (hr.U _ h0) (st h0 hs)
 |stales h1 hu hs=>have h0:_∈D:=List.contains_iff_mem.1 hd;exact .stales h1 (hr.U _ h0) (st h0 hs)
 |@agg cs vs hl hi ih=>exact .agg (by rw[cx];exact hl) (fun i h1 h2=>by
  have h3:i<cs.length:=by rw[cx]at h1;exact h1
  rw[i8 h1];exact ih i h3 h2 (pe hd i h3))
 |@tup cs vs hl hi ih=>exact .tup (by rw[cx];exact hl) (fun i h1 h2=>by
  have h3:i<cs.length:=by rw[cx]at h1;exact h1
  rw[i8 h1];exact ih i h3 h2 (pe hd i h3))
 |@clo f cs vs hl hi ih=>exact .clo (by rw[cx];exact hl) (fun i h1 h2=>by
  have h3:i<cs.length:=by rw[cx]at h1;exact h1
  rw[i8 h1];exact ih i h3 h2 (pe hd i h3))
structure Unrens(g:Nat->Nat)(K:List Nat)(C C0:Ctx):Prop where
 ρ:∀i,i∈K->C0.ρ i=C.ρ (g i)
 sz:∀i,i∈K->C0.sz i=C.sz (g i)
 η:∀i,i∈K->∃b,C0.η i=some b/\C.η (g i)=some (b.ren g)
 U:∀i,i∈K->C0.U i
 T:C0.T=C.T
 w:C0.w=C.w
theorem VR.unren{g:Nat->Nat}{K:List Nat}{C C0:Ctx}(hu:Unrens g K C C0):∀(a:AV) (x:Value),a.inB K=true->VR C (a.ren g) x->VR C0 a x
 |.v y,x,_,h=>by cases h with|imm h=>exact .imm (by rw[hu.T,hu.w];exact h)
 |.unk,x,_,h=>by cases h with|imm h=>exact .imm (by rw[hu.T,hu.w];exact h)
 |.tree n xs,x,_,h=>by cases h with|imm h=>exact .imm (by rw[hu.T,hu.w];exact h)
 |.tp cs o,x,_,h=>by cases h with|imm h=>exact .imm (by rw[hu.T,hu.w];exact h)
 |.ptr id ver off,x,hd,h=>by
  have h0:id∈K:=List.contains_iff_mem.1 hd
  obtain⟨b,h1,h2⟩:=hu.η id h0
  change VR C (.ptr (g id) ver off) x at h
  cases h with
  |imm h=>cases h
  |ptr hb he hn=>
   rw[h2]at hb;cases hb
   rw[<-hu.ρ id h0];exact .ptr h1 he hn
  |stalep hx _ hs=>exact .stalep hx (hu.U id h0) (fun b' hb'=>by rw[h1]at hb';cases hb';exact(show ver<(b.ren g).ver from hs _ h2))
 |.sl id ver off len,x,hd,h=>by
  have h0:id∈K:=List.contains_iff_mem.1 hd
  obtain⟨b,h1,h2⟩:=hu.η id h0
  change VR C (.sl (g id) ver off len) x at h
  cases h with
  |imm h=>cases h
  |sl hb he hn q1 q2 q3 q4=>
   rw[h2]at hb;cases hb
   rw[<-hu.ρ id h0];exact .sl h1 he hn q1 q2 q3 (by rw[hu.ρ id h0,hu.sz id h0];exact q4)
  |slz hb he hn=>rw[h2]at hb;cases hb;exact .slz h1 he hn
  |slnil hb he hn=>rw[h2]at hb;cases hb;exact .slnil h1 he (by rw[<-br (g:=g)];exact hn)
  |stales hx _ hs=>exact .stales hx (hu.U id h0) (fun b' hb'=>by rw[h1]at hb';cases hb';exact(show ver<(b.ren g).ver from hs _ h2))
 |.mp id ver,x,hd,h=>by
  have h0:id∈K:=List.contains_iff_mem.1 hd
  obtain⟨b,h1,h2⟩:=hu.η id h0
  change VR C (.mp (g id) ver) x at h
  cases h with
  |imm h=>cases h
  |mp hb he hn=>
   rw[h2]at hb;cases hb
   rw[<-hu.ρ id h0];exact .mp h1 he (by rw[<-br (g:=g)];exact hn)
  |stalem hx _ hs=>exact .stalem hx (hu.U id h0) (fun b' hb'=>by rw[h1]at hb';cases hb';exact(show ver<(b.ren g).ver from hs _ h2))
 |.it id ver,x,hd,h=>by
  have h0:id∈K:=List.contains_iff_mem.1 hd
  obtain⟨b,h1,h2⟩:=hu.η id h0
  change VR C (.it (g id) ver) x at h
  cases h with
  |imm h=>cases h
  |it hb he hn=>
   rw[h2]at hb;cases hb
   rw[<-hu.ρ id h0];exact .it h1 he (by rw[<-br (g:=g)];exact hn)
  |stalei hx _ hs=>exact .stalei hx (hu.U id h0) (fun b' hb'=>by rw[h1]at hb';cases hb';exact(show ver<(b.ren g).ver from hs _ h2))
 |.agg cs,x,hd,h=>by
  change VR C (.agg (wl g cs)) x at h
  obtain⟨vs,rfl,h1,h2⟩:=h.agg_inv
  rw[cx]at h1
  exact .agg h1 (fun i hi h3=>by
   have h4:=List.sizeOf_lt_of_mem (ay7 hi:cs[i]∈cs)
   exact VR.unren hu cs[i] vs[i] (pe hd i hi) (by have:=h2 i (by rw[cx];exact hi) h3;rw[i8]at this;exact this))
 |.tup cs,x,hd,h=>by
  change VR C (.tup (wl g cs)) x at h
  obtain⟨vs,rfl,h1,h2⟩:=h.tup_inv'
  rw[cx]at h1
  exact .tup h1 (fun i hi h3=>by
   have h4:=List.sizeOf_lt_of_mem (ay7 hi:cs[i]∈cs)
   exact VR.unren hu cs[i] vs[i] (pe hd i hi) (by have:=h2 i (by rw[cx];exact hi) h3;rw[i8]at this;exact this))
 |.clo f cs,x,hd,h=>by
  change VR C (.clo f (wl g cs)) x at h
  obtain⟨vs,rfl,h1,h2⟩:=h.clo_inv
  rw[cx]at h1
  exact .clo h1 (fun i hi h3=>by
   have h4:=List.sizeOf_lt_of_mem (ay7 hi:cs[i]∈cs)
   exact VR.unren hu cs[i] vs[i] (pe hd i hi) (by have:=h2 i (by rw[cx];exact hi) h3;rw[i8]at this;exact this))
termination_by a=>SizeOf.sizeOf a
decreasing_by all_goals(simp;omega)
theorem Aq :wl g (mw clock es)=mw clock (es.map fun e=>(e.1,e.2.1.ren g,e.2.2)):=by unfold mw;rw[qy,azw,azw,List.map_map,List.map_map];rfl
theorem Iv{s:ByteArray}{pos:Nat}:wl g (pv s pos)=pv s pos:=rfl
theorem Ap{m:AV}{since last:Nat} :wl g (ii m since seen last)=ii (m.ren g) since seen last:=by unfold ii;rw[qy,azw,azw,azw,azw,List.map_map];rfl
theorem ObjR.ren(hr:Rens D g C C'){o:Obj}(h:ObjR C cs o)(hd:inL D cs=true):ObjR C' (wl g cs) o:=by
 cases h with
 |map hl hi=>
  rename_i es entries clock
  rw[Aq]
  refine .map (by simpa using hl) (fun i h1 h2=>?_)
  have h3:i<es.length:=by simpa using h1
  have:=hi i h3 h2
  simp only[List.getElem_map]
  refine⟨this.1,this.2.1.ren hr ?_,this.2.2⟩
  have hm:=awl.1 hd (.agg [.v es[i].1,es[i].2.1,.v (.int .i64 (Int.ofNat es[i].2.2))]) (by
   unfold mw
   exact List.mem_cons_of_mem _ (List.mem_cons_of_mem _ (azy.2 ⟨es[i],ay7 _,rfl⟩)))
  simp only[AV.inB,inL,az8]at hm
  exact hm.2.1
 |siter=>exact .siter
 |miter0=>rw[Ap];exact .miter0
 |miter hv=>
  rw[Ap]
  exact .miter (hv.ren hr (awl.1 hd _ (by unfold ii;simp)))
theorem ObjR.unren{C0:Ctx}(hu:Unrens g K C C0){o:Obj}(h:ObjR C (wl g cs) o)(hd:inL K cs=true)(hk:(∃clock es,cs=mw clock es)\/∃s p,cs=pv s p):ObjR C0 cs o:=by rcases hk with⟨clock,es,rfl⟩|⟨s,p,rfl⟩;rw[Aq]at h;obtain⟨entries,rfl,hl,hi⟩:=h.map_inv;have hl':es.length=entries.size:=(by simpa using hl);refine .map hl' (fun i h1 h2=>?_);have:=hi i (by simpa using h1) h2;simp only[List.getElem_map]at this;refine⟨this.1,VR.unren hu _ _ ?_ this.2.1,this.2.2⟩;have hm:=awl.1 hd (.agg [.v es[i].1,es[i].2.1,.v (.int .i64 (Int.ofNat es[i].2.2))]) (by unfold mw;exact List.mem_cons_of_mem _ (List.mem_cons_of_mem _ (azy.2 ⟨es[i],ay7 _,rfl⟩)));simp only[AV.inB,inL,az8]at hm;exact hm.2.1;rw[Iv]at h;rw[h.siter_inv];exact .siter
def lp:List (Nat×Option Blk)->bm
 |[]=>fun _=>none
 |p::r=>fun id=>bif Nat.beq id p.1 then p.2 else lp r id
def jy(P:Program)(f:FuncId)(args:List AV)(hb:List (Nat×Blk))(hb':List (Nat×Option Blk))(ret:AV):Prop:=
 ∀(C:Ctx) (vals:Array Value),Good C->C.η=hLz hb->(∀id,C.U id->TOP<=id)->VRs C args vals->
  Calls P f vals C.w (fun e w'=>∃x C',e=.returned x/\C'.w=w'/\C'.η=lp hb'/\Good C'/\Fr C C'/\VR C' ret x)
def gOf:List (Nat×Nat)->Nat->Nat
 |[],i=>i
 |p::r,i=>bif Nat.beq i p.1 then p.2 else gOf r i
def bwd(m:List (Nat×Nat))(k:Nat):Option Nat:=(m.find? fun p=>Nat.beq p.2 k).map (·.1)
def q9:List Nat->Bool
 |[]=>true
 |a::r=>!r.contains a&&q9 r
theorem On:∀{l:List Nat},q9 l=true↔l.Nodup
 |[]=>by simp[q9]
 |a::r=>by simp[q9,On (l:=r)]
theorem kg{a b:Nat}(h:a≠b):Nat.beq a b=false:=by grind[Nat.beq,ay9]
theorem Eh:∀{m:List (Nat×Nat)} {i k:Nat},(m.map (·.1)).Nodup->(i,k)∈m->gOf m i=k
 |p::r,i,k,hn,h=>by rw[azw,List.nodup_cons]at hn;rcases azz.1 h with rfl|h;simp[gOf];have:i≠p.1:=fun e=>hn.1 (by rw[<-e];exact azy.2 ⟨(i,k),h,rfl⟩);simp only[gOf,kg this,cond_false];exact Eh hn.2 h
theorem sg(h:bwd m k=some i):(i,k)∈m:=by
 unfold bwd at h
 cases hf:m.find? (fun p=>Nat.beq p.2 k)with
 |none=>rw[hf]at h;cases h
 |some p=>
  rw[hf]at h
  simp only[az5,aza]at h
  have h1:=List.find?_some hf
  have h2:=ay9 h1
  rw[<-h,<-h2]
  exact List.mem_of_find?_eq_some hf
theorem Ne(h:bwd m k=none):∀i,(i,k)∉m:=by intro i hi;unfold bwd at h;rw[Option.map_eq_none_iff,List.find?_eq_none]at h;exact h (i,k) hi (by simp)
theorem Rh(hn:(m.map (·.2)).Nodup){i':Nat}(h:(i,k)∈m)(h':(i',k)∈m):i=i':=by
 induction m with
 |nil=>cases h
 |cons p r ih=>
  rw[azw,List.nodup_cons]at hn
  rcases azz.1 h with rfl|h1<;>rcases azz.1 h' with e|h2
  ·exact(Prod.mk.inj e).1.symm
  ·exact absurd (azy.2 ⟨(i',k),h2,rfl⟩) hn.1
  ·subst e;exact absurd (azy.2 ⟨(i,k),h1,rfl⟩) hn.1
  ·exact ih hn.2 h1 h2
theorem aeh(hn:(m.map (·.2)).Nodup)(h:(i,k)∈m):bwd m k=some i:=by
 cases hb:bwd m k with
 |none=>exact absurd h (Ne hb i)
 |some i'=>rw[Rh hn (sg hb) h]
theorem I9:∀{δ:List (Nat×Option Blk)} {η:bm} {k:Nat},k∉δ.map (·.1)->η.put δ k=η k
 |[],_,_,_=>rfl
 |p::r,η,k,h=>by rw[azw,azz]at h;have h1:k≠p.1:=fun e=>h (.inl e);show(η.set p.1 p.2).put r k=η k;rw[I9 (fun e=>h (.inr e)),az _ _ h1]
theorem acx:∀{δ:List (Nat×Option Blk)} {η:bm} {k:Nat} {ob:Option Blk},(δ.map (·.1)).Nodup->(k,ob)∈δ->η.put δ k=ob
 |p::r,η,k,ob,hn,h=>by rw[azw,List.nodup_cons]at hn;show(η.set p.1 p.2).put r k=ob;rcases azz.1 h with e|h;subst e;rw[I9 hn.1,aw];exact acx hn.2 h
theorem za:∀{l:List (Nat×Option Blk)} {i:Nat} {ob:Option Blk},(l.map (·.1)).Nodup->(i,ob)∈l->lp l i=ob
 |p::r,i,ob,hn,h=>by rw[azw,List.nodup_cons]at hn;rcases azz.1 h with rfl|h;simp[lp];have:i≠p.1:=fun e=>hn.1 (by rw[<-e];exact azy.2 ⟨(i,ob),h,rfl⟩);simp only[lp,kg this,cond_false];exact za hn.2 h
theorem A6:∀{l:List (Nat×Option Blk)} {i:Nat},i∉l.map (·.1)->lp l i=none
 |[],_,_=>rfl
 |p::r,i,h=>by rw[azw,azz]at h;simp only[lp,kg (fun e=>h (.inl e)),cond_false];exact A6 (fun e=>h (.inr e))
theorem Ee:∀{l:List (Nat×Blk)} {i:Nat},i∈l.map (·.1)->∃b,hLz l i=some b/\(i,b)∈l
 |p::r,i,h=>by by_cases e:i=p.1;subst e;exact⟨p.2,by simp[hLz],by simp⟩;rw[azw,azz]at h;obtain⟨b,h1,h2⟩:=Ee (h.resolve_left e);exact⟨b,by simp only[hLz,kg e,cond_false];exact h1,List.mem_cons_of_mem _ h2⟩
theorem Hb:∀{l:List (Nat×Blk)} {i:Nat},i∉l.map (·.1)->hLz l i=none
 |[],_,_=>rfl
 |p::r,i,h=>by rw[azw,azz]at h;simp only[hLz,kg (fun e=>h (.inl e)),cond_false];exact Hb (fun e=>h (.inr e))
def Gm(K:List Nat)(b:Blk):Prop:=inL K b.cs=true/\(b.nilp=false\/b.cs=[]\/(∃clock es,b.cs=mw clock es)\/∃s p,b.cs=pv s p)
def okO(D:List Nat):Option Blk->Prop
 |some b=>inL D b.cs=true
 |none=>True
def Ki{α:Type}(p:α->Prop):List α->Prop
 |[]=>True
 |a::r=>p a/\Ki p r
theorem abi{α:Type}{p:α->Prop}:∀{l:List α},Ki p l↔∀a∈l,p a
 |[]=>by simp[Ki]
 |a::r=>by simp[Ki,abi (l:=r)]
section
variable{P:Program}{τ:Nat->AV}{η:bm}{d:Option Tmp}{ty:TypeId}{pos:String}{af:Array Edge}{g:Option (Nat×Bool)}
theorem apu(hg:Good C)(hc:(m.map (·.2)).Nodup)(h9:(m.map (·.1)).Nodup)(h7:∀p∈hb,p.1∈m.map (·.1))(hη:∀p∈hb,C.η (gOf m p.1)=some (p.2.ren (gOf m)))(ha:∀p∈hb,Gm (hb.map (·.1)) p.2):
 let C0:Ctx:=⟨fun i=>C.ρ (gOf m i),fun i=>C.sz (gOf m i),hLz hb,fun i=>i∈hb.map (·.1),C.T,C.w⟩
 Unrens (gOf m) (hb.map (·.1)) C C0/\Good C0/\∀k,C0.mine k->∃i,i∈hb.map (·.1)/\C.live (gOf m i)/\(C.ρ (gOf m i)).1=k:=by
 intro C0
 have hu:Unrens (gOf m) (hb.map (·.1)) C C0:=by refine⟨fun _ _=>rfl,fun _ _=>rfl,fun i hi=>?_,fun _ hi=>hi,rfl,rfl⟩;obtain⟨b,h1,h2⟩:=Ee hi;exact⟨b,h1,hη _ h2⟩
 have h5:∀{i b},C0.η i=some b->i∈hb.map (·.1)/\(i,b)∈hb:=by intro i b hb';by_cases hi:i∈hb.map (·.1);obtain⟨b1,h1,h2⟩:=Ee hi;have:C0.η i=some b1:=h1;rw[this]at hb';cases hb';exact⟨hi,h2⟩;have:C0.η i=none:=Hb hi;rw[this]at hb';cases hb'
 have h0:∀{i},C0.live i->i∈hb.map (·.1)/\C.live (gOf m i):=by rintro i ⟨b,h1,h2⟩;obtain⟨k1,k2⟩:=h5 h1;exact⟨k1,_,hη _ k2,by rw[br];exact h2⟩
 have h8:∀{i j},i∈hb.map (·.1)->j∈hb.map (·.1)->gOf m i=gOf m j->i=j:=by intro i j hi hj e;obtain⟨p,hp,rfl⟩:=azy.1 hi;obtain⟨q,hq,rfl⟩:=azy.1 hj;obtain⟨⟨i',k⟩,h1,h2⟩:=azy.1 (h7 p hp);obtain⟨⟨j',k'⟩,h3,h4⟩:=azy.1 (h7 q hq);simp only at h2 h4;subst h2 h4;rw[Eh h9 h1,Eh h9 h3]at e;subst e;exact Rh hc h1 h3
 refine⟨hu,⟨fun h=>(h5 h).1,?_,?_,?_,hg.tok,?_,?_⟩,fun k ⟨i,hl,hk⟩=>⟨i,(h0 hl).1,(h0 hl).2,hk⟩⟩
 ·intro i b hb' hk
  obtain⟨k1,k2⟩:=h5 hb'
  obtain⟨o,h1,h2⟩:=hg.obj (hη _ k2) (by rw[br];exact hk)
  obtain⟨q1,q2⟩:=ha _ k2
  refine⟨o,h1,ObjR.unren hu h2 q1 ?_⟩
  rcases q2 with h|h|h
  ·rw[fo h]at hk;cases hk
  ·obtain⟨_,h3⟩:=Nv hk;exact absurd h h3
  ·exact h
 ·intro i b hb' hn
  obtain⟨k1,k2⟩:=h5 hb'
  obtain⟨c,t,g1,g2,g3,g4⟩:=hg.blk (hη _ k2) hn
  obtain⟨q1,_⟩:=ha _ k2
  have h6:(b.ren (gOf m)).cs.length=b.cs.length:=cx _
  refine⟨c,t,g1,g2,by rw[<-h6];exact g3,fun j h h'=>VR.unren hu _ _ (pe q1 j h) ?_⟩
  have:=g4 j (by rw[h6];exact h) h'
  have e:(b.ren (gOf m)).cs[j]'(by rw[h6];exact h)=(b.cs[j]).ren (gOf m):=i8 _
  rw[e]at this
  exact this
 ·intro i j hi hj e
  exact h8 (h0 hi).1 (h0 hj).1 (hg.inj (h0 hi).2 (h0 hj).2 e)
 ·rintro k ⟨i,hl,hk⟩ hT
  exact hg.apart ⟨gOf m i,(h0 hl).2,hk⟩ hT
 ·intro i b hb' hv hn
  obtain⟨k1,k2⟩:=h5 hb'
  have:=hg.tight (hη _ k2) hv hn
  have h6:(b.ren (gOf m)).cs.length=b.cs.length:=cx _
  rw[h6]at this
  exact this
end
section
variable{P:Program}{τ:Nat->AV}{η:bm}{d:Option Tmp}{ty:TypeId}{pos:String}{af:Array Edge}{g:Option (Nat×Bool)}
def ju(m:List (Nat×Nat))(hb':List (Nat×Option Blk)):List (Nat×Option Blk):=hb'.map fun p=>(gOf m p.1,p.2.map (Blk.ren (gOf m)))
theorem yc{ret:AV}(m:List (Nat×Nat))(hc:jy P f args hb hb' ret)
 (hm:m.map (·.1)=hb'.map (·.1))(h1:q9 (m.map (·.1))=true)(h2:q9 (m.map (·.2))=true)(g9:hb.all (fun p=>Nat.ble TOP p.1&&(m.map (·.1)).contains p.1)=true)
 (hη:Ki (fun p=>η (gOf m p.1)=some (p.2.ren (gOf m))) hb)(gs:Ki (fun p=>Gm (hb.map (·.1)) p.2) hb)(ga:Ki (fun p=>okO (m.map (·.1)) p.2) hb')(g4:inL (hb.map (·.1)) args=true)(gb:ret.inB (m.map (·.1))=true)
 (h:∀(C:Ctx) (a:Act),Good C->(∀x∈o.op.operands,VR C (aev τ x) (a.eval x))->∃vals,VRs C (wl (gOf m) args) vals/\(execOp a.eval o).run P C.w=.ok (.enter f vals) C.w):
 LOp P o τ η (hb.map fun p=>gOf m p.1) (ju m hb') (ret.ren (gOf m)):=by
 intro C a hg gt gu gc K Q hK
 have n1:=On.1 h1
 have n2:=On.1 h2
 have n3:(hb'.map (·.1)).Nodup:=hm▸n1
 have h6:∀p∈hb,TOP<=p.1/\p.1∈m.map (·.1):=fun p hp=>by
  have:=List.all_eq_true.1 g9 p hp
  rw[az8]at this
  exact⟨azo this.1,List.contains_iff_mem.1 this.2⟩
 have hη1:=abi.1 hη
 have gd:=abi.1 gs
 have ge:=abi.1 ga
 have hCη:∀p∈hb,C.η (gOf m p.1)=some (p.2.ren (gOf m)):=fun p hp=>(gu _ (azy.2 ⟨p,hp,rfl⟩)).trans (hη1 p hp)
 obtain⟨hu,gp,h9⟩:=apu hg n2 n1 (fun p hp=>(h6 p hp).2) hCη gd
 generalize g1:(⟨fun i=>C.ρ (gOf m i),fun i=>C.sz (gOf m i),hLz hb,fun i=>i∈hb.map (·.1),C.T,C.w⟩:Ctx)=C0 at hu gp h9
 have eη:C0.η=hLz hb:=by rw[<-g1]
 have eU:∀i,C0.U i↔i∈hb.map (·.1):=fun i=>by rw[<-g1]
 have eρ:∀i,C0.ρ i=C.ρ (gOf m i):=fun i=>by rw[<-g1]
 have esz:∀i,C0.sz i=C.sz (gOf m i):=fun i=>by rw[<-g1]
 have eT:C0.T=C.T:=by rw[<-g1]
 have ew:C0.w=C.w:=by rw[<-g1]
 obtain⟨vals,⟨gq,hv⟩,gf⟩:=h C a hg gt
 have g5:VRs C0 args vals:=by
  rw[cx]at gq
  refine⟨gq,fun i hi gv=>VR.unren hu _ _ (pe g4 i hi) ?_⟩
  have:=hv i (by rw[cx];exact hi) gv
  rw[i8]at this
  exact this
 have hh:∀{k},C0.mine k->C.mine k:=fun hk=>by
  obtain⟨i,_,hl,e⟩:=h9 _ hk
  exact⟨_,hl,e⟩
 unfold Oper.wp
 rw[gf]
 have ht:=hc C0 vals gp eη (fun i hi=>by
  obtain⟨p,hp,rfl⟩:=azy.1 ((eU i).1 hi)
  exact(h6 p hp).1) g5
 rw[ew]at ht
 refine Calls.mono ht ?_
 rintro e w' ⟨x,C1,rfl,rfl,hη',g2,he,hx⟩
 -- the caller's blocks after the call
 let C2:Ctx:=⟨fun k=>match bwd m k with|some i=>C1.ρ i|none=>C.ρ k,fun k=>match bwd m k with|some i=>C1.sz i|none=>C.sz k,
  fun k=>match bwd m k with|some i=>(C1.η i).map (Blk.ren (gOf m))|none=>C.η k,fun k=>C.U k\/(bwd m k).isSome=true,C1.T,C1.w⟩
 have g3:∀{i k},(i,k)∈m->gOf m i=k:=fun h=>Eh n1 h
 have hD:∀{i},i∈m.map (·.1)->bwd m (gOf m i)=some i:=by
  intro i hi
  obtain⟨⟨i',k⟩,h3,h4⟩:=azy.1 hi
  simp only at h4;subst h4
  rw[g3 h3];exact aeh n2 h3
 have hy:Rens (m.map (·.1)) (gOf m) C1 C2:=by
  refine⟨fun i hi=>?_,fun i hi=>?_,fun i hi=>?_,fun i hi=>?_,rfl,rfl⟩
  ·simp only[C2,hD hi]
  ·simp only[C2,hD hi]
  ·simp only[C2,hD hi]
  ·simp only[C2,hD hi];exact .inr rfl
 have gg:∀{i b},C1.η i=some b->i∈m.map (·.1)/\(i,some b)∈hb':=by
  intro i b hz
  rw[hη']at hz
  by_cases hi:i∈hb'.map (·.1)
  ·obtain⟨⟨i',ob⟩,h3,h4⟩:=azy.1 hi
   simp only at h4;subst h4
   have:=za n3 h3
   rw[this]at hz;subst hz
   exact⟨hm▸hi,h3⟩
  ·rw[A6 hi]at hz;cases hz
 have ho:∀{i b},C1.η i=some b->inL (m.map (·.1)) b.cs=true:=fun hz=>ge _ (gg hz).2
 -- live blocks
 have hr:∀{k b},C2.η k=some b->(∃i b1,bwd m k=some i/\C1.η i=some b1/\b=b1.ren (gOf m))\/(bwd m k=none/\C.η k=some b):=by
  intro k b h0
  cases hf:bwd m k with
  |none=>right;refine⟨rfl,?_⟩;simpa only[C2,hf]using h0
  |some i=>
   left
   have:(C1.η i).map (Blk.ren (gOf m))=some b:=by simpa only[C2,hf]using h0
   cases gh:C1.η i with
   |none=>rw[gh]at this;cases this
   |some b1=>rw[gh]at this;simp only[az5,aza]at this;exact⟨i,b1,rfl,gh,this.symm⟩
 have hd:∀{k},bwd m k=none->C.live k->¬C0.mine (C.ρ k).1:=by
  intro k hf hl gw
  obtain⟨i,hi,hl',e⟩:=h9 _ gw
  have:=hg.inj hl' hl e
  subst this
  obtain⟨p,hp,rfl⟩:=azy.1 hi
  rw[hD (h6 p hp).2]at hf
  cases hf
 have g7:∀{k},C.live k->(C.ρ k).1<C0.w.heap.size:=fun hl=>by rw[ew];exact hg.lt hl
 have hm1c:∀{k},C1.mine k->C.mine k\/C.w.heap.size<=k:=fun hk=>(he.mine _ hk).imp hh (fun h=>by rw[ew]at h;exact h)
 have gi:Ev C C2:=by
  refine⟨⟨?_,?_,?_,?_,?_,?_,?_,?_⟩,fun _ h=>.inl h,?_⟩
  ·have:=he.os;rw[ew]at this;exact this
  ·have:=he.tape;rw[ew]at this;exact this
  ·have:=he.output;rw[ew]at this;exact this
  ·have:=he.size;rw[ew]at this;exact this
  ·intro k hk hn
   have:=he.keep k (by rw[ew];exact hk) (fun h=>hn (hh h))
   rw[ew]at this;exact this
  ·rintro k ⟨id,⟨b,h0,h7⟩,rfl⟩
   rcases hr h0 with⟨i,b1,e1,e2,rfl⟩|⟨e1,e2⟩
   ·have e3:C2.ρ id=C1.ρ i:=by simp only[C2,e1]
    rw[e3]
    exact hm1c ⟨i,⟨b1,e2,by rw[br]at h7;exact h7⟩,rfl⟩
   ·have e3:C2.ρ id=C.ρ id:=by simp only[C2,e1]
    rw[e3]
    exact .inl ⟨id,⟨b,e2,h7⟩,rfl⟩
  ·intro k hk
   exact he.T k (by rw[eT];exact hk)
  ·intro k hk
   rcases he.Tnew k hk with h|h|h
   ·exact .inl (by rw[<-eT];exact h)
   ·exact .inr (.inl (hh h))
   ·exact .inr (.inr (by rw[<-ew];exact h))
  ·intro id b' hU h0
   rcases hr h0 with⟨i,b1,e1,e2,rfl⟩|⟨e1,e2⟩
   ·have hq:=sg e1
    have g8:=g3 hq
    by_cases hi:i∈hb.map (·.1)
    ·have gx:TOP<=i:=by obtain⟨p,hp,rfl⟩:=azy.1 hi;exact(h6 p hp).1
     obtain⟨_,gj⟩:=he.pin i gx ((eU i).2 hi)
     obtain⟨b0,q1,q2,q3⟩:=gj b1 e2
     obtain⟨b0',q4,q5⟩:=hu.η i hi
     rw[q1]at q4;cases q4
     rw[g8]at q5
     refine⟨_,q5,q2,fun e=>?_⟩
     obtain⟨r1,r2,r3,r4⟩:=q3 e
     refine⟨?_,?_,by rw[br,br];exact r3,r4⟩
     ·simp only[C2,e1];rw[r1,eρ,g8]
     ·simp only[C2,e1];rw[r2,esz,g8]
    ·exfalso
     have h8:i∈m.map (·.1):=azy.2 ⟨_,hq,rfl⟩
     obtain⟨ob,gy⟩:∃ob,(i,ob)∈hb':=by
      rw[hm]at h8
      obtain⟨⟨i',ob⟩,h3,h4⟩:=azy.1 h8
      simp only at h4;subst h4
      exact⟨ob,h3⟩
     refine gc (gOf m i,ob.map (Blk.ren (gOf m))) (azy.2 ⟨(i,ob),gy,rfl⟩) (fun gk=>?_) (by rw[g8];exact hU)
     obtain⟨p,hp,e⟩:=azy.1 gk
     have h5:=hD (h6 p hp).2
     simp only at e
     rw[e,hD h8]at h5
     exact hi (azy.2 ⟨p,hp,(Option.some.inj h5).symm⟩)
   ·refine⟨b',e2,azm _,fun _=>⟨?_,?_,rfl,rfl⟩⟩
    ·simp only[C2,e1]
    ·simp only[C2,e1]
 have hw:∀{k},bwd m k=none->C.live k->C1.w.heap[(C.ρ k).1]? =C.w.heap[(C.ρ k).1]?:=fun hf hl=>by
  have:=he.keep _ (g7 hl) (hd hf hl)
  rw[ew]at this;exact this
 have g6:Good C2:=by
  refine⟨?_,?_,?_,?_,g2.tok,?_,?_⟩
  ·intro k b h0
   rcases hr h0 with⟨i,b1,e1,e2,rfl⟩|⟨e1,e2⟩
   ·exact .inr (by simp[e1])
   ·exact .inl (hg.used e2)
  ·intro k b h0 hk
   rcases hr h0 with⟨i,b1,e1,e2,rfl⟩|⟨e1,e2⟩
   ·have e3:C2.ρ k=C1.ρ i:=by simp only[C2,e1]
    obtain⟨ob,q1,q2⟩:=g2.obj e2 (by rw[br]at hk;exact hk)
    rw[e3]
    exact⟨ob,q1,q2.ren hy (ho e2)⟩
   ·have e3:C2.ρ k=C.ρ k:=by simp only[C2,e1]
    obtain⟨ob,q1,q2⟩:=hg.obj e2 hk
    rw[e3]
    exact⟨ob,(hw e1 ⟨b,e2,by rw[hk];decide⟩).trans q1,q2.mono hg gi⟩
  ·intro k b h0 hn
   rcases hr h0 with⟨i,b1,e1,e2,rfl⟩|⟨e1,e2⟩
   ·have e3:C2.ρ k=C1.ρ i:=by simp only[C2,e1]
    have e4:C2.sz k=C1.sz i:=by simp only[C2,e1]
    have hs:(b1.ren (gOf m)).cs.length=b1.cs.length:=cx _
    obtain⟨c,t,q1,q2,q3,q4⟩:=g2.blk e2 hn
    rw[e3,e4]
    refine⟨c,t,q1,q2,by rw[hs];exact q3,fun j hj gl=>?_⟩
    have gr:j<b1.cs.length:=by rw[hs]at hj;exact hj
    have e5:(b1.ren (gOf m)).cs[j]'hj=(b1.cs[j]).ren (gOf m):=i8 hj
    rw[e5]
    exact(q4 j gr gl).ren hy (pe (ho e2) j gr)
   ·have e3:C2.ρ k=C.ρ k:=by simp only[C2,e1]
    have e4:C2.sz k=C.sz k:=by simp only[C2,e1]
    obtain⟨c,t,q1,q2,q3,q4⟩:=hg.blk e2 hn
    rw[e3,e4]
    exact⟨c,t,(hw e1 ⟨b,e2,fh hn⟩).trans q1,q2,q3,fun j hj gl=>(q4 j hj gl).mono hg gi⟩
  ·rintro k k' ⟨b,h0,h7⟩ ⟨b',gm,ha⟩ e
   rcases hr h0 with⟨i,b1,e1,e2,rfl⟩|⟨e1,e2⟩<;>rcases hr gm with⟨i',b1',e1',e2',rfl⟩|⟨e1',e2'⟩
   ·have f1:C2.ρ k=C1.ρ i:=by simp only[C2,e1]
    have f2:C2.ρ k'=C1.ρ i':=by simp only[C2,e1']
    rw[f1,f2]at e
    have:=g2.inj ⟨b1,e2,by rw[br]at h7;exact h7⟩ ⟨b1',e2',by rw[br]at ha;exact ha⟩ e
    subst this
    rw[<-g3 (sg e1),<-g3 (sg e1')]
   ·exfalso
    have f1:C2.ρ k=C1.ρ i:=by simp only[C2,e1]
    have f2:C2.ρ k'=C.ρ k':=by simp only[C2,e1']
    rw[f1,f2]at e
    have gn:C1.mine (C1.ρ i).1:=⟨i,⟨b1,e2,by rw[br]at h7;exact h7⟩,rfl⟩
    rcases he.mine _ gn with q|q
    ·rw[e]at q;exact hd e1' ⟨b',e2',ha⟩ q
    ·have:=g7 ⟨b',e2',ha⟩;omega
   ·exfalso
    have f1:C2.ρ k'=C1.ρ i':=by simp only[C2,e1']
    have f2:C2.ρ k=C.ρ k:=by simp only[C2,e1]
    rw[f1,f2]at e
    have gn:C1.mine (C1.ρ i').1:=⟨i',⟨b1',e2',by rw[br]at ha;exact ha⟩,rfl⟩
    rcases he.mine _ gn with q|q
    ·rw[<-e]at q;exact hd e1 ⟨b,e2,h7⟩ q
    ·have:=g7 ⟨b,e2,h7⟩;omega
   ·have f1:C2.ρ k=C.ρ k:=by simp only[C2,e1]
    have f2:C2.ρ k'=C.ρ k':=by simp only[C2,e1']
    rw[f1,f2]at e
    exact hg.inj ⟨b,e2,h7⟩ ⟨b',e2',ha⟩ e
  ·rintro k ⟨id,⟨b,h0,h7⟩,rfl⟩ hT
   rcases hr h0 with⟨i,b1,e1,e2,rfl⟩|⟨e1,e2⟩
   ·have f1:C2.ρ id=C1.ρ i:=by simp only[C2,e1]
    rw[f1]at hT
    exact g2.apart ⟨i,⟨b1,e2,by rw[br]at h7;exact h7⟩,rfl⟩ hT
   ·have f1:C2.ρ id=C.ρ id:=by simp only[C2,e1]
    rw[f1]at hT
    rcases he.Tnew _ hT with q|q|q
    ·rw[eT]at q;exact hg.apart ⟨id,⟨b,e2,h7⟩,rfl⟩ q
    ·exact hd e1 ⟨b,e2,h7⟩ q
    ·have:=g7 ⟨b,e2,h7⟩;omega
  ·intro k b h0 hv hn
   rcases hr h0 with⟨i,b1,e1,e2,rfl⟩|⟨e1,e2⟩
   ·have e3:C2.ρ k=C1.ρ i:=by simp only[C2,e1]
    have e4:C2.sz k=C1.sz i:=by simp only[C2,e1]
    have hs:(b1.ren (gOf m)).cs.length=b1.cs.length:=cx _
    rw[e3,e4,hs]
    exact g2.tight e2 hv hn
   ·have e3:C2.ρ k=C.ρ k:=by simp only[C2,e1]
    have e4:C2.sz k=C.sz k:=by simp only[C2,e1]
    rw[e3,e4]
    exact hg.tight e2 hv hn
 -- what is written
 have g0:(ju m hb').map (·.1)=m.map (·.2):=by
  have e1:(ju m hb').map (·.1)=(hb'.map (·.1)).map (gOf m):=by simp[ju,Function.comp_def]
  rw[e1,<-hm,List.map_map]
  exact List.map_congr_left (fun p hp=>g3 (show(p.1,p.2)∈m from hp))
 have go:C2.η=C.η.put (ju m hb'):=by
  funext k
  cases hf:bwd m k with
  |none=>
   rw[I9 (by
    rw[g0]
    intro hk
    obtain⟨p,hp,rfl⟩:=azy.1 hk
    exact Ne hf p.1 hp)]
   simp only[C2,hf]
  |some i=>
   have hq:=sg hf
   have h8:i∈hb'.map (·.1):=hm▸azy.2 ⟨_,hq,rfl⟩
   obtain⟨⟨i',ob⟩,h3,h4⟩:=azy.1 h8
   simp only at h4;subst h4
   have h5:(gOf m i',ob.map (Blk.ren (gOf m)))∈ju m hb':=azy.2 ⟨_,h3,rfl⟩
   rw[g3 hq]at h5
   rw[acx (by rw[g0];exact n2) h5]
   simp only[C2,hf,hη',za n3 h3]
 refine hK x C2 go (fun k=>?_) g6 gi (hx.ren hy gb)
 rw[g0]
 constructor
 ·rintro(hk|hk)
  ·exact .inl hk
  ·obtain⟨i,hi⟩:=Option.isSome_iff_exists.1 hk
   exact .inr (azy.2 ⟨_,sg hi,rfl⟩)
 ·rintro(hk|hk)
  ·exact .inl hk
  ·obtain⟨⟨i,k'⟩,hp,rfl⟩:=azy.1 hk
   exact .inr (by rw[aeh n2 hp];rfl)
theorem bg{xs:Array Operand}{ret r:AV}(m:List (Nat×Nat))(h6:cw P f=true)(hc:jy P f args hb hb' ret)
 (hm:m.map (·.1)=hb'.map (·.1))(h1:q9 (m.map (·.1))=true)(h2:q9 (m.map (·.2))=true)(h3:hb.all (fun p=>Nat.ble TOP p.1&&(m.map (·.1)).contains p.1)=true)
 (hη:Ki (fun p=>η (gOf m p.1)=some (p.2.ren (gOf m))) hb)(h7:Ki (fun p=>Gm (hb.map (·.1)) p.2) hb)(h4:Ki (fun p=>okO (m.map (·.1)) p.2) hb')(h0:inL (hb.map (·.1)) args=true)(h5:ret.inB (m.map (·.1))=true)
 (h8:xs.toList.map (aev τ)=wl (gOf m) args)(h9:(hb.map fun p=>gOf m p.1)=fp)(hδ:ju m hb'=δ)(hr:ret.ren (gOf m)=r):
 LOp P ⟨d,.call {callee:=.value (.func f),args:=xs,argTypes:=ats},ty,pos,af,g⟩ τ η fp δ r:=by
 subst h9 hδ hr
 refine yc m hc hm h1 h2 h3 hη h7 h4 h0 h5 fun C a hg hx=>⟨xs.map a.eval,?_,?_⟩
 ·rw[<-h8]
  refine⟨by simp,fun i h h'=>?_⟩
  simp only[List.getElem_map,Array.getElem_toList,Array.getElem_map]
  exact hx _ (by simp[Op.operands,Call.operands])
 ·have:execOp a.eval ⟨d,.call {callee:=.value (.func f),args:=xs,argTypes:=ats},ty,pos,af,g⟩=callFunc f (#[]++xs.map a.eval++#[]):=rfl
  rw[this,fu h6]
  simp
theorem H7{v:AV}(h:LOp P o τ η fp δ v)(hs:Ki (fun p=>p.1∈fp/\η p.1=p.2/\p.2.isSome=true) δ):LOp P o τ η fp [] v:=by
 have h0:=abi.1 hs
 intro C a hg h7 h6 _ K Q hK
 refine h C a hg h7 h6 (fun p hp hn=>absurd (h0 p hp).1 hn) K Q fun x C' h1 h2 h3 h4 h5=>hK x C' ?_ (fun id=>?_) h3 h4 h5
 ·rw[h1]
  have:∀(δ:List (Nat×Option Blk)) (η':bm),(∀p∈δ,η' p.1=p.2)->η'.put δ=η':=by
   intro δ
   induction δ with
   |nil=>intro _ _;rfl
   |cons p r ih=>
    intro η' hp
    have e:η'.set p.1 p.2=η':=by
     funext k
     by_cases hk:k=p.1
     ·subst hk;rw[aw,hp p (by simp)]
     ·rw[az _ _ hk]
    show(η'.set p.1 p.2).put r=η'
    rw[e]
    exact ih η' (fun q hq=>hp q (by simp[hq]))
  exact this δ C.η (fun p hp=>(h6 _ (h0 p hp).1).trans (h0 p hp).2.1)
 ·rw[h2]
  simp only[List.map_nil,List.not_mem_nil,or_false]
  constructor
  ·rintro(hk|hk)
   ·exact hk
   ·obtain⟨p,hp,rfl⟩:=azy.1 hk
    obtain⟨q1,q2,q3⟩:=h0 p hp
    obtain⟨b,hb⟩:=Option.isSome_iff_exists.1 q3
    exact hg.used ((h6 _ q1).trans (q2.trans hb))
  ·exact .inl
end
theorem VR.shift(hρ:C'.ρ=C.ρ)(h6:C'.sz=C.sz)(hw:C'.w=C.w)(hU:C'.U=C.U)(hT:∀b,C.T b->C'.T b)(h5:∀{id b},C.η id=some b->C.U id)
 (hη:∀id b',C'.η id=some b'->∃b,C.η id=some b/\b'.ver=b.ver/\b'.nilp=b.nilp/\b'.kind=b.kind/\b'.esz=b.esz){x:Value}(h:VR C a x):VR C' a x:=by
 have st:∀{id ver:Nat},(∀b,C.η id=some b->ver<b.ver)->∀b,C'.η id=some b->ver<b.ver:=by
  intro id ver h b hb
  obtain⟨b0,h0,h1,_⟩:=hη id b hb
  rw[h1];exact h b0 h0
 have keep:∀{id:Nat} {b:Blk},C.η id=some b->(∃b',C'.η id=some b'/\b'.ver=b.ver/\b'.nilp=b.nilp/\b'.kind=b.kind/\b'.esz=b.esz)\/C'.η id=none:=by
  intro id b hb
  cases h':C'.η id with
  |none=>exact .inr rfl
  |some b'=>
   obtain⟨b0,h0,hh⟩:=hη id b' h'
   rw[hb]at h0;cases h0
   exact .inl ⟨b',rfl,hh⟩
 induction h with
 |imm h=>exact .imm (h.mono hT (fun _ _=>by rw[hw]))
 |ptr hb he hn=>
  rcases keep hb with⟨b',h',e1,e2,e3,e4⟩|h'
  ·rw[<-hρ];exact .ptr h' (e1.trans he) (e2.trans hn)
  ·exact .stalep rfl (by rw[hU];exact h5 hb) (fun b hb'=>by rw[h']at hb';cases hb')
 |sl hb he hn h1 h2 h3 h4=>
  rcases keep hb with⟨b',h',e1,e2,e3,e4⟩|h'
  ·rw[<-hρ];exact .sl h' (e1.trans he) (e2.trans hn) h1 h2 h3 (by rw[hρ,h6,e4];exact h4)
  ·exact .stales rfl (by rw[hU];exact h5 hb) (fun b hb'=>by rw[h']at hb';cases hb')
 |slz hb he hn=>
  rcases keep hb with⟨b',h',e1,e2,e3,e4⟩|h'
  ·exact .slz h' (e1.trans he) (e2.trans hn)
  ·exact .stales rfl (by rw[hU];exact h5 hb) (fun b hb'=>by rw[h']at hb';cases hb')
 |slnil hb he hn=>
  rcases keep hb with⟨b',h',e1,e2,e3,e4⟩|h'
  ·exact .slnil h' (e1.trans he) (e3.trans hn)
  ·exact .stales rfl (by rw[hU];exact h5 hb) (fun b hb'=>by rw[h']at hb';cases hb')
 |mp hb he hn=>
  rcases keep hb with⟨b',h',e1,e2,e3,e4⟩|h'
  ·rw[<-hρ];exact .mp h' (e1.trans he) (e3.trans hn)
  ·exact .stalem rfl (by rw[hU];exact h5 hb) (fun b hb'=>by rw[h']at hb';cases hb')
 |it hb he hn=>
  rcases keep hb with⟨b',h',e1,e2,e3,e4⟩|h'
  ·rw[<-hρ];exact .it h' (e1.trans he) (e3.trans hn)
  ·exact .stalei rfl (by rw[hU];exact h5 hb) (fun b hb'=>by rw[h']at hb';cases hb')
 |stalem h1 hu hs=>exact .stalem h1 (by rw[hU];exact hu) (st hs)
 |stalei h1 hu hs=>exact .stalei h1 (by rw[hU];exact hu) (st hs)
 |stalep h1 hu hs=>exact .stalep h1 (by rw[hU];exact hu) (st hs)
 |stales h1 hu hs=>exact .stales h1 (by rw[hU];exact hu) (st hs)
 |agg hl _ ih=>exact .agg hl ih
 |tup hl _ ih=>exact .tup hl ih
 |clo hl _ ih=>exact .clo hl ih
theorem ObjR.shift(h:∀{a:AV} {x:Value},VR C a x->VR C' a x){o:Obj}(ho:ObjR C cs o):ObjR C' cs o:=by
 cases ho with
 |map hl hi=>exact .map hl (fun i h1 h2=>⟨(hi i h1 h2).1,h (hi i h1 h2).2.1,(hi i h1 h2).2.2⟩)
 |siter=>exact .siter
 |miter0=>exact .miter0
 |miter hv=>exact .miter (h hv)
inductive FzC(fp:List Nat)(η:bm):List AV->List AV->Prop where
 |nil:FzC fp η [] []
 |same {a:AV} {cs ds:List AV}:FzC fp η cs ds->FzC fp η (a :: cs) (a :: ds)
 |fz {a r:AV} {cs ds:List AV}:FzP fp η a r->FzC fp η cs ds->FzC fp η (a :: cs) (r :: ds)
theorem FzC.refl{fp:List Nat}{η:bm}:∀l:List AV,FzC fp η l l
 |[]=>.nil
 |_::r=>.same (FzC.refl r)
theorem FzC.len{η:bm}{ds:List AV}(h:FzC fp η cs ds):cs.length=ds.length:=by
 induction h with
 |nil=>rfl
 |same _ ih=>simp[ih]
 |fz _ _ ih=>simp[ih]
theorem FzC.at{η:bm}{ds:List AV}(h:FzC fp η cs ds):∀(i:Nat) (h1:i<cs.length) (h2:i<ds.length),ds[i]=cs[i]\/FzP fp η cs[i] ds[i]:=by
 induction h with
 |nil=>intro i h1;simp at h1
 |same _ ih=>intro i h1 h2;cases i with
  |zero=>exact .inl rfl
  |succ i=>simpa using ih i (by simpa using h1) (by simpa using h2)
 |fz hf _ ih=>intro i h1 h2;cases i with
  |zero=>exact .inr hf
  |succ i=>simpa using ih i (by simpa using h1) (by simpa using h2)
inductive RetFz(fp:List Nat)(η:bm):AV->AV->Prop where
 |same {a:AV}:RetFz fp η a a
 |fz {a r:AV}:FzP fp η a r->RetFz fp η a r
 |tup {cs ds:List AV}:FzC fp η cs ds->RetFz fp η (.tup cs) (.tup ds)
inductive Left(fp:List Nat)(η:bm):Nat×Option Blk->Prop where
 |gone {i:Nat}:Left fp η (i,none)
 |same {i:Nat} {b:Blk}:η i=some b->i∉fp->Left fp η (i,some b)
 |cells {i ver ez:Nat} {cs ds:List AV}:η i=some ⟨ver,cs,ez,false⟩->i∉fp->FzC fp η cs ds->Left fp η (i,some ⟨ver,ds,ez,false⟩)
def akw(P:Program)(N:Nat)(fn:Func)(s:St)(a0:AV):Prop:=∀C a,SRel N C s a->∃x,(results fn a.tmps).run P C.w=.ok x C.w/\VR C a0 x
theorem SRel.toX{a:Act}(h:SRel N C s a):SRelX [] (fun _=>True) s.u N C s a:=⟨h.good,fun id _=>by rw[h.η],fun id h1 h2=>by omega,h.defers,h.size,h.τ⟩
theorem akw.all(h:AllX P (fun _=>True) s.u N s fn.results.toList vs):akw P N fn s (avl vs):=fun C a hr=>H5 h [] C a hr.toX
theorem cy{rs:Array ResultVar}(hr:fn.results=rs)(h:AllX P (fun _=>True) s.u N s rs.toList vs):akw P N fn s (avl vs):=akw.all (by rw[hr];exact h)
def Pn(P:Program)(N:Nat)(fn:Func)(s:St)(hb':List (Nat×Option Blk))(ret:AV):Prop:=
 ∀C a,SRel N C s a->∃x C',(results fn a.tmps).run P C.w=.ok x C.w/\C'.w=C.w/\C'.η=lp hb'/\Good C'/\Fr C C'/\VR C' ret x
theorem Pn.of{a0 ret:AV}(fp:List Nat)(ha:akw P N fn s a0)(hn:q9 (hb'.map (·.1))=true)(hl:Ki (Left fp s.η) hb')(hr:RetFz fp s.η a0 ret):Pn P N fn s hb' ret:=by
 intro C a hs
 have n:=On.1 hn
 have hg:=abi.1 hl
 obtain⟨x,h1,h2⟩:=ha C a hs
 let C':Ctx:={C with η:=lp hb',T:=fun b=>C.T b\/C.mineOf fp b}
 have hh:∀{i b},lp hb' i=some b->(i,some b)∈hb':=by
  intro i b h6
  by_cases hi:i∈hb'.map (·.1)
  ·obtain⟨⟨i',ob⟩,h3,h4⟩:=azy.1 hi
   simp only at h4;subst h4
   have:=za n h3
   rw[this]at h6;subst h6
   exact h3
  ·rw[A6 hi]at h6;cases h6
 have h7:∀{i b'},lp hb' i=some b'->∃b,C.η i=some b/\i∉fp/\b'.ver=b.ver/\b'.nilp=b.nilp/\b'.kind=b.kind/\b'.esz=b.esz/\FzC fp s.η b.cs b'.cs/\(b'.nilp=true->b'.cs=b.cs):=by
  intro i b' h6
  have:=hg _ (hh h6)
  cases this with
  |same h3 h4=>exact⟨b',by rw[hs.η];exact h3,h4,rfl,rfl,rfl,rfl,FzC.refl _,fun _=>rfl⟩
  |@cells _ ver ez cs ds h3 h4 h5=>exact⟨⟨ver,cs,ez,false⟩,by rw[hs.η];exact h3,h4,rfl,rfl,(fo rfl).trans (fo rfl).symm,rfl,h5,fun e=>by cases e⟩
 have h9:∀{a:AV} {x:Value},VR C a x->VR C' a x:=fun hv=>VR.shift (C:=C) (C':=C') rfl rfl rfl rfl (fun b hb=>.inl hb) hs.good.used (fun id b' hb=>by
  obtain⟨b,q1,_,q2,q3,q4,q5,_⟩:=h7 hb
  exact⟨b,q1,q2,q3,q4,q5⟩) hv
 have hc:∀{a r:AV} {x:Value},FzP fp s.η a r->VR C a x->VR C' r x:=fun hf hv=>.imm (hf C hs.good (fun id _=>by rw[hs.η]) _ hv)
 have h0:∀{i},C'.live i->C.live i/\i∉fp:=by
  rintro i ⟨b',h6,hk⟩
  obtain⟨b,q1,q0,q2,q3,q4,_⟩:=h7 h6
  exact⟨⟨b,q1,by rw[<-q4];exact hk⟩,q0⟩
 refine⟨x,C',h1,rfl,rfl,⟨?_,?_,?_,?_,?_,?_,?_⟩,⟨⟨rfl,rfl,rfl,azm _,fun _ _ _=>rfl,fun k ⟨i,q1,q2⟩=>.inl ⟨i,(h0 q1).1,q2⟩,fun k h=>.inl h,fun k h=>?_⟩,?_⟩,?_⟩
 ·intro i b' h6
  obtain⟨b,q1,_⟩:=h7 h6
  exact hs.good.used q1
 ·intro i b' h6 hk
  obtain⟨b,q1,_,q2,q3,q4,_,_,q5⟩:=h7 h6
  obtain⟨o,g1,g2⟩:=hs.good.obj q1 (by rw[<-q4];exact hk)
  refine⟨o,g1,?_⟩
  rw[q5 (Nv hk).1]
  exact ObjR.shift h9 g2
 ·intro i b' h6 hd
  obtain⟨b,q1,_,q2,q3,q4,_,q5,_⟩:=h7 h6
  obtain⟨c,t,g1,g2,g3,g4⟩:=hs.good.blk q1 (by rw[<-q3];exact hd)
  have h8:=q5.len
  refine⟨c,t,g1,g2,by rw[<-h8];exact g3,fun j hj hm=>?_⟩
  have:=g4 j (by omega) hm
  rcases q5.at j (by omega) hj with e|e
  ·rw[e];exact h9 this
  ·exact hc e this
 ·intro i j hi hj e
  exact hs.good.inj (h0 hi).1 (h0 hj).1 e
 ·refine hs.good.tokT (fun _ h=>.inl h) ?_
  rintro k (hk|hk)
  ·exact hs.good.tlt hk
  ·exact fv hs.good (bt hk)
 ·rintro k ⟨i,hl',hk⟩ (hT|⟨i',he,hl'',e⟩)
  ·exact hs.good.apart ⟨i,(h0 hl').1,hk⟩ hT
  ·have:i'=i:=hs.good.inj hl'' (h0 hl').1 (e.trans hk.symm)
   subst this
   exact(h0 hl').2 he
 ·intro i b' h6 hv hd
  obtain⟨b,q1,_,q2,q3,q4,_,q5,_⟩:=h7 h6
  have:=hs.good.tight q1 (q2▸hv) (by rw[<-q3];exact hd)
  rw[<-q5.len];exact this
 ·rcases h with h|h
  ·exact .inl h
  ·exact .inr (.inl (bt h))
 ·intro id _ hu
  refine⟨hu,fun b' h6=>?_⟩
  obtain⟨b,q1,_,q2,q3,q4,q5,_⟩:=h7 h6
  exact⟨b,q1,by omega,fun _=>⟨rfl,rfl,q4,q5⟩⟩
 ·cases hr with
  |same=>exact h9 h2
  |fz hf=>exact hc hf h2
  |tup hf=>
   obtain⟨vs,rfl,hg,ho⟩:=h2.tup_inv'
   have h8:=hf.len
   refine .tup (by omega) (fun i hi he=>?_)
   have:=ho i (by omega) he
   rcases hf.at i (by omega) hi with e|e
   ·rw[e];exact h9 this
   ·exact hc e this
theorem jy.of_body{ret:AV}(hf:P.funcs[f]? =some fn)(h8:fn.body=some c)(hN:fn.ntmps=N)(hl:args.length<=N)
 (h:AWP P N c (fun e s'=>(e=.normal\/e=.ret)/\Pn P N fn s' hb' ret) ⟨lz args,hLz hb,0⟩):jy P f args hb hb' ret:=by
 intro C vals hg hη hU ⟨hlen,hv⟩
 have hr:SRel N C ⟨lz args,hLz hb,0⟩ {tmps:=vals++Array.replicate (fn.ntmps-vals.size) undef,defers:=[]}:=by refine⟨hg,hη,fun id h=>.inr (hU id h),rfl,by simp;omega,fun t=>?_⟩;simp only[Act.eval,lz];by_cases ht:t<args.length;have h1:args.getD t (.v undef)=args[t]:=(by simp[List.getD,ht]);have h2:(vals++Array.replicate (fn.ntmps-vals.size) undef).getD t undef=vals[t]'(by omega):=(by rw[Array.getD_eq_getD_getElem?,Array.getElem?_append_left (by omega)];simp[show t<vals.size by omega]);rw[h1,h2];exact hv t ht (by omega);have h1:args.getD t (.v undef)=.v undef:=(by simp[List.getD,List.getElem?_eq_none (Nat.le_of_not_lt ht)]);have h2:(vals++Array.replicate (fn.ntmps-vals.size) undef).getD t undef=undef:=(by rw[Array.getD_eq_getD_getElem?,Array.getElem?_append_right (by omega)];rw[Array.getElem?_replicate];split<;>rfl);rw[h1,h2];exact VR.v _ _
 refine calls_of_wp hf h8 (Code.wp_mono ?_ (h C _ hr))
 rintro e a' w' ⟨s',C',⟨he,ho⟩,rfl,h7,h9⟩
 obtain⟨x,C2,h1,h2,h3,h4,h5,h6⟩:=ho C' a' h7
 have h0:∃x' C'',(Ending.returned x)=.returned x'/\C''.w=C'.w/\C''.η=lp hb'/\Good C''/\Fr C C''/\VR C'' ret x':=⟨x,C2,rfl,h2,h3,h4,h9.trans h5,h6⟩
 rcases he with rfl|rfl
 ·exact⟨h7.defers,x,h1,h0⟩
 ·exact⟨h7.defers,x,h1,h0⟩
open Go.RowKit Go.Sort
def iF(l:List Int):List AV:=l.map fun n=>.v (.int .i64 n)
theorem xz{l:List Int}:(iF l).length=l.length:=by simp[iF]
theorem Bs{l l':List Int}{ret:AV}{rv:Nat->Nat->Nat->Value}(hpos:0<l.length)(hd:l'.length=l.length)
 (hh:(ret=.v (.tuple #[])/\∀b o c,rv b o c=.tuple #[])\/∃m,m<=l.length/\ret=.sl TOP v 0 m/\∀b o c,rv b o c=.slice (some ⟨b,o,none⟩) m c)
 (h:∀(blk off cap:Nat) (w:World),Holds (Value.int .i64) w blk off l.toArray->blk<w.heap.size->l.length<=cap->Calls P f #[.slice (some ⟨blk,off,none⟩) l.length cap] w (fun e w'=>e=.returned (rv blk off cap)/\∃q os,w'=grow ((w.drewN q).setCells blk off (l'.map (Value.int .i64))) os)):
 jy P f [.sl TOP v 0 l.length] [(TOP,⟨v,iF l,1,false⟩)] [(TOP,some ⟨v,iF l',1,false⟩)] ret:=by
 intro C vals hg hη hU ⟨hq,hv⟩
 have hb:C.η TOP=some ⟨v,iF l,1,false⟩:=by rw[hη];simp[hLz]
 have h0:=hv 0 (by simp) (by simp at hq;omega)
 simp only[List.getElem_cons_zero]at h0
 obtain⟨ad,cap,e1,c1,c2,c3,c4⟩:=h0.sl_inv hb rfl rfl
 have hw:ad=⟨(C.ρ TOP).1,(C.ρ TOP).2+0,none⟩/\(C.ρ TOP).2+0+cap*1<=C.sz TOP:=by rcases c4 with⟨h,_⟩|⟨h1,h2⟩;omega;exact⟨h1,h2⟩
 obtain⟨rfl,hx⟩:=hw
 have he:vals=#[.slice (some ⟨(C.ρ TOP).1,(C.ρ TOP).2+0,none⟩) l.length cap]:=by apply Array.ext;simpa using hq.symm;intro i hi hy;have:i=0:=(by simp at hy;omega);subst this;exact e1
 obtain⟨c,t,g1,g2,g3,g4⟩:=hg.blk hb rfl
 simp only[xz]at g3
 have hf:∀j,j<l.length->∃hj:(C.ρ TOP).2+j<c.size,c[(C.ρ TOP).2+j]=.int .i64 (l.getD j 0):=by intro j hj;refine⟨by omega,?_⟩;have:=g4 j (by simp[xz,hj]) (by omega);have e:(iF l)[j]'(by simp[xz,hj])=.v (.int .i64 l[j]):=(by simp[iF]);rw[e]at this;rw[this.v_inv];simp[List.getD,hj]
 have hH:Holds (Value.int .i64) C.w (C.ρ TOP).1 ((C.ρ TOP).2+0) l.toArray:=by intro j hj;have hc:j<l.length:=(by simpa using hj);obtain⟨k1,k2⟩:=hf j hc;refine⟨?_,by simp[World.frozen?,g1]⟩;have:C.w.cell? ⟨(C.ρ TOP).1,(C.ρ TOP).2+0+j,none⟩=c[(C.ρ TOP).2+j]?:=(by simp[World.cell?,g1]);rw[this,Array.getElem?_eq_getElem k1,k2];simp[List.getD,hc]
 have hr:(C.ρ TOP).1<C.w.heap.size:=(Array.getElem?_eq_some_iff.1 g1).1
 rw[he]
 refine Calls.mono (h _ _ cap C.w hH hr c1) ?_
 rintro e w' ⟨rfl,q,os,rfl⟩
 have k1:(C.w.drewN q).heap[(C.ρ TOP).1]? =some (.cells c t (0,0)):=g1
 have k2:=mh (l'.map (Value.int .i64)) (C.w.drewN q) (C.ρ TOP).1 ((C.ρ TOP).2+0) c t k1
 obtain⟨r1,r2,r3,r4⟩:=ek (l'.map (Value.int .i64)) (C.w.drewN q) (C.ρ TOP).1 ((C.ρ TOP).2+0)
 have r4':((C.w.drewN q).setCells (C.ρ TOP).1 ((C.ρ TOP).2+0) (l'.map (Value.int .i64))).heap.size=C.w.heap.size:=r4
 have h7:∀k,k<C.w.heap.size->(grow ((C.w.drewN q).setCells (C.ρ TOP).1 ((C.ρ TOP).2+0) (l'.map (Value.int .i64))) os).heap[k]? =((C.w.drewN q).setCells (C.ρ TOP).1 ((C.ρ TOP).2+0) (l'.map (Value.int .i64))).heap[k]?:=by intro k hk;unfold grow;rw[Array.getElem?_append_left (by rw[r4'];exact hk)]
 have h5:∀k,k<C.w.heap.size->k≠(C.ρ TOP).1->(grow ((C.w.drewN q).setCells (C.ρ TOP).1 ((C.ρ TOP).2+0) (l'.map (Value.int .i64))) os).heap[k]? =C.w.heap[k]?:=by intro k hk hz;rw[h7 k hk,fy _ _ _ _ _ hz];rfl
 generalize hs:grow ((C.w.drewN q).setCells (C.ρ TOP).1 ((C.ρ TOP).2+0) (l'.map (Value.int .i64))) os=w' at h7 h5
 have h9:C.w.heap.size<=w'.heap.size:=by rw[<-hs];show _<=(((C.w.drewN q).setCells (C.ρ TOP).1 ((C.ρ TOP).2+0) (l'.map (Value.int .i64))).heap++os).size;rw[Array.size_append,r4'];omega
 have h8:w'.os=C.w.os/\w'.tape=C.w.tape/\w'.output=C.w.output:=by rw[<-hs];exact⟨r1,r2,r3⟩
 have hl:w'.heap[(C.ρ TOP).1]? =some (.cells (setR c ((C.ρ TOP).2+0) (l'.map (Value.int .i64))) t (0,0)):=by rw[h7 _ hr];exact k2
 let C':Ctx:={C with η:=lp [(TOP,some ⟨v,iF l',1,false⟩)],w:=w'}
 have h4:∀{i b},C'.η i=some b->i=TOP/\b=⟨v,iF l',1,false⟩:=by intro i b h3;by_cases e:i=TOP;subst e;have:C'.η TOP=some ⟨v,iF l',1,false⟩:=(by simp[C',lp]);rw[this]at h3;cases h3;exact⟨rfl,rfl⟩;have:C'.η i=none:=(by simp[C',lp,kg e]);rw[this]at h3;cases h3
 have ha:∀{k},C'.mine k->k=(C.ρ TOP).1:=by rintro k ⟨i,⟨b,h3,_⟩,rfl⟩;obtain⟨rfl,_⟩:=h4 h3;rfl
 have h6:C.mine (C.ρ TOP).1:=⟨TOP,⟨_,hb,fh rfl⟩,rfl⟩
 refine⟨_,C',rfl,rfl,rfl,⟨?_,?_,?_,?_,?_,?_,?_⟩,⟨⟨h8.1,h8.2.1,h8.2.2,h9,fun k hk hn=>h5 k hk (fun e=>hn (by rw[e];exact h6)),fun k hk=>.inl (by rw[ha hk];exact h6),fun _ h=>h,fun _ h=>.inl h⟩,?_⟩,?_⟩
 ·intro i b h3
  obtain⟨rfl,_⟩:=h4 h3
  exact hg.used hb
 ·intro i b h3 hk
  obtain⟨rfl,rfl⟩:=h4 h3
  rw[fo rfl]at hk;cases hk
 ·intro i b h3 hn
  obtain⟨rfl,rfl⟩:=h4 h3
  refine⟨_,t,hl,by rw[ji];exact g2,by rw[ji,xz,hd];exact g3,fun j hj hc=>?_⟩
  have ho:j<l'.length:=by simpa[xz]using hj
  have e2:(iF l')[j]'(by simpa[xz]using ho)=.v (.int .i64 l'[j]):=by simp[iF]
  have e3:=Aa (l'.map (Value.int .i64)) c ((C.ρ TOP).2+0) j (by simp;omega) (by simpa using ho)
  have e4:(setR c ((C.ρ TOP).2+0) (l'.map (Value.int .i64)))[(C.ρ TOP).2+j]? =some (.int .i64 l'[j]):=by rw[Nat.add_zero]at e3 ⊢;rw[e3];simp[ho]
  have e5:(setR c ((C.ρ TOP).2+0) (l'.map (Value.int .i64)))[(C.ρ TOP).2+j]'hc=.int .i64 l'[j]:=by rw[Array.getElem?_eq_getElem hc]at e4;exact Option.some.inj e4
  show VR C' (iF l')[j] _
  rw[e2]
  have e6:(setR c ((C.ρ TOP).2+0) (l'.map (Value.int .i64)))[(C'.ρ TOP).2+j]'hc=.int .i64 l'[j]:=e5
  rw[e6]
  exact VR.v _ _
 ·rintro i j ⟨b,h3,_⟩ ⟨b',g0,_⟩ _
  rw[(h4 h3).1,(h4 g0).1]
 ·exact⟨fun k hk=>Nat.lt_of_lt_of_le (hg.tlt (k:=k) hk) h9,hg.tok.glob.mono (fun _ h=>h) (fun b hT=>h5 b (hg.tlt hT) (fun e=>hg.apart h6 (e▸hT)))⟩
 ·intro k hk hT
  rw[ha hk]at hT
  exact hg.apart h6 hT
 ·intro i b h3 g5 hn
  obtain⟨rfl,rfl⟩:=h4 h3
  have:=hg.tight hb g5 rfl
  show C.sz TOP=(C.ρ TOP).2+(iF l').length
  rw[this,xz,xz,hd]
 ·intro id ht hu
  refine⟨hu,fun b' h3=>?_⟩
  obtain⟨rfl,rfl⟩:=h4 h3
  exact⟨_,hb,azm _,fun _=>⟨rfl,rfl,by rw[fo rfl,fo rfl],rfl⟩⟩
 ·rcases hh with⟨rfl,hp⟩|⟨m,hm,rfl,hp⟩
  ·rw[hp];exact VR.v _ _
  ·rw[hp]
   have:=VR.sl (C:=C') (id:=TOP) (ver:=v) (off:=0) (len:=m) (cap:=cap) (b:=⟨v,iF l',1,false⟩) (by simp[C',lp]) rfl rfl (by omega) c2 (by omega) hx
   exact this
def mEs:Nat->List (Int×Int)->List (Value×AV×Nat)
 |_,[]=>[]
 |i,p::r=>(.int .i64 p.1,.v (.int .i64 p.2),i)::mEs (i+1) r
theorem qb:∀(i:Nat) (l:List (Int×Int)),(mEs i l).length=l.length
 |_,[]=>rfl
 |i,p::r=>by simp[mEs,qb (i+1) r]
theorem tr:∀(i:Nat) (l:List (Int×Int)) (j:Nat) (h:j<(mEs i l).length),(mEs i l)[j]=(.int .i64 (l[j]'(by rw[qb]at h;exact h)).1,.v (.int .i64 (l[j]'(by rw[qb]at h;exact h)).2),i+j)
 |_,[],_,h=>absurd h (by simp[mEs])
 |i,p::r,0,_=>rfl
 |i,p::r,j+1,h=>by have:=tr (i+1) r j (by simpa[mEs]using h);simp only[mEs,List.getElem_cons_succ,this];rw[show i+1+j=i+(j+1)by omega]
theorem D6{l:List (Int×Int)}{e:Value×AV×Nat}(h:e∈mEs i l):∃(j:Nat) (hj:j<l.length),e=(.int .i64 l[j].1,.v (.int .i64 l[j].2),i+j):=by grind[azs,qb,tr]
theorem ao5{l:List (Int×Int)}(hj:j<l.length):(.int .i64 l[j].1,.v (.int .i64 l[j].2),i+j)∈mEs i l:=by have h:j<(mEs i l).length:=(by rw[qb];exact hj);rw[<-tr i l j h];exact ay7 h
theorem Ti:∀(i:Nat) (l:List (Int×Int)) (p:Int×Int),mEs i l++[(.int .i64 p.1,.v (.int .i64 p.2),i+l.length)]=mEs i (l++[p])
 |i,[],p=>rfl
 |i,q::r,p=>by have:=Ti (i+1) r p;simp only[mEs,List.cons_append,azu];rw[show i+(r.length+1)=i+1+r.length by omega,this]
theorem Mi(D:List Nat):∀(i:Nat) (l:List (Int×Int)),inL D ((mEs i l).map fun e=>.agg [.v e.1,e.2.1,.v (.int .i64 (Int.ofNat e.2.2))])=true
 |_,[]=>rfl
 |i,p::r=>by have:=Mi D (i+1) r;simp only[mEs,azw,inL,AV.inB,this];rfl
theorem Th(u:Nat):∀(i:Nat) (l:List (Int×Int)),ss u ((mEs i l).map fun e=>.agg [.v e.1,e.2.1,.v (.int .i64 (Int.ofNat e.2.2))])=true
 |_,[]=>rfl
 |i,p::r=>by have:=Th u (i+1) r;simp only[mEs,azw,ss,AV.lowB,this];rfl
theorem Tg(g:Nat->Nat):∀(i:Nat) (l:List (Int×Int)),((mEs i l).map fun e=>(e.1,e.2.1.ren g,e.2.2))=mEs i l
 |_,[]=>rfl
 |i,p::r=>by simp[mEs,AV.ren,Tg g (i+1) r]
theorem Mg(D:List Nat)(c:Nat)(l:List (Int×Int)):inL D (mw c (mEs 0 l))=true:=by unfold mw;simp only[inL,AV.inB,Bool.true_and];exact Mi D 0 l
theorem j5(u:Nat)(c:Nat)(l:List (Int×Int)):ss u (mw c (mEs 0 l))=true:=by unfold mw;simp only[ss,AV.lowB,Bool.true_and];exact Th u 0 l
theorem Mh{z c:Nat}{l:List (Int×Int)}:(cj v z c (mEs 0 l)).ren g=cj v z c (mEs 0 l):=by unfold cj Blk.ren;simp only[Aq,Tg]
theorem Rf{z c:Nat}{l:List (Int×Int)}:some (cj v z c (mEs 0 l))=some ((cj v z c (mEs 0 l)).ren g):=by rw[Mh]
theorem ahp{z c:Nat}{l:List (Int×Int)}:Gm K (cj v z c (mEs 0 l)):=⟨Mg _ _ _,.inr (.inr (.inl ⟨c,_,rfl⟩))⟩
theorem O5{z c:Nat}{l:List (Int×Int)}(h:gOf m i=k):ju m [(i,some (cj v z c (mEs 0 l)))]=[(k,some (cj v z c (mEs 0 l)))]:=by simp only[ju,azw,List.map_nil,h,az5,Mh]
theorem Ao{z mid mver since last:Nat}(h:qo u mid=true):ss u (di ver z (.mp mid mver) since seen last).cs=true:=by show ss u (ii (.mp mid mver) since seen last)=true;unfold ii;simp only[ss,AV.lowB,Bool.true_and,h];rw[Zp];intro a ha;obtain⟨n,_,rfl⟩:=azy.1 ha;rfl
section
variable{P:Program}{τ:Nat->AV}{η:bm}{d:Option Tmp}{ty:TypeId}{pos:String}{af:Array Edge}{g:Option (Nat×Bool)}
theorem Pp(u:Nat){kt id z:Nat}(ht:P.underlying t=some (.map kt et))(hx:aev τ x=.mp id ver)(hb:η id=some (cj ver z clock es))(h0:Nat.beq id u=false):
 LOp P ⟨d,.range t x,ty,pos,af,g⟩ τ η [id] [(u,some (di 0 0 (.mp id ver) clock [] clock))] (.it u 0):=by
 refine Ry (u:=u) (r:=⟨[id],[(u,some (di 0 0 (.mp id ver) clock [] clock))],.it u 0,u+1⟩) ?_
 unfold Rz
 rw[ht]
 simp only[hx,rb hb,h0,cond_false]
theorem Px{id mid mver since z zm:Nat}{l:List (Int×Int)}(hx:aev τ x=.it id ver)(hb:η id=some (di ver z (.mp mid mver) since (seen++[j]) clock))(hm:η mid=some (cj mver zm clock (mEs 0 l)))(hj:j<l.length):
 LOp P ⟨d,.entry x,ty,pos,af,g⟩ τ η [id,mid] [] (.tup [.v (.int .i64 l[j].1),.v (.int .i64 l[j].2)]):=by
 have hf:(mEs 0 l).find? (fun e=>Nat.beq e.2.2 j)=some (.int .i64 l[j].1,.v (.int .i64 l[j].2),j):=by have h0:j<(mEs 0 l).length:=(by rw[qb];exact hj);have hg:=tr 0 l j h0;rw[Nat.zero_add]at hg;rw[List.find?_eq_some_iff_getElem];refine⟨by simp,j,h0,hg,fun i hi=>?_⟩;rw[tr];have:=kg (show 0+i≠j by omega);simp only[this];rfl
 refine U1 (u:=0) (r:=⟨[id,mid],[],.tup [.v (.int .i64 l[j].1),.v (.int .i64 l[j].2)],0⟩) ?_
 unfold U2
 rw[hx]
 have hl:(seen++[j]).getLast? =some j:=by simp
 simp only[Jo hb,rb hm]
 rw[Nat.beq_refl]
 simp only[cond_true,hl]
 rw[hf]
end
section
variable{P:Program}{N:Nat}{Q:Exit->St->Prop}{τ:Nat->AV}{η:bm}{u:Nat}
theorem bc(fp:List Nat)(t:Nat)(r:AV)(hf:FzP fp η (τ t) r){η':bm}(hη':(η.put (fp.map fun id=>(id,none)))=η')(hc:AWP P N c Q ⟨upd τ t r,η',u⟩):AWP P N c Q ⟨τ,η,u⟩:=by
 subst hη';intro C a hs;let C':Ctx:={C with η:=C.η.put (fp.map fun id=>(id,none)),T:=fun b=>C.T b\/C.mineOf fp b}
 have h5:∀{i b'},C'.η i=some b'->C.η i=some b'/\i∉fp:=by
  intro i b' h6;have:(C.η.put (fp.map fun id=>(id,none))) i=some b':=h6
  rw[Dy]at this;by_cases e:i∈fp;rw[azg e]at this;cases this;rw[azf e]at this;exact⟨this,e⟩
 have h7:∀{a:AV} {x:Value},VR C a x->VR C' a x:=fun hv=>VR.shift (C:=C) (C':=C') rfl rfl rfl rfl (fun b hb=>.inl hb) hs.good.used (fun id b' hb=>⟨b',(h5 hb).1,rfl,rfl,rfl,rfl⟩) hv;have h0:∀{i},C'.live i->C.live i/\i∉fp:=by rintro i ⟨b',h6,hk⟩;exact⟨⟨b',(h5 h6).1,hk⟩,(h5 h6).2⟩
 have hg:Good C':=by
  refine⟨fun h=>hs.good.used (h5 h).1,by intro i b' h6 hk;obtain⟨o,g1,g2⟩:=hs.good.obj (h5 h6).1 hk;exact⟨o,g1,ObjR.shift h7 g2⟩,by intro i b' h6 h8;obtain⟨c,t,g1,g2,g3,g4⟩:=hs.good.blk (h5 h6).1 h8;exact⟨c,t,g1,g2,g3,fun j hj h9=>h7 (g4 j hj h9)⟩,fun hi hj e=>hs.good.inj (h0 hi).1 (h0 hj).1 e,?_,?_,fun h hv hn=>hs.good.tight (h5 h).1 hv hn⟩;refine hs.good.tokT (fun _ h=>.inl h) ?_;rintro k (hk|hk);exact hs.good.tlt hk;exact fv hs.good (bt hk);rintro k ⟨i,hl',hk⟩ (hT|⟨i',ha,hl'',e⟩);exact hs.good.apart ⟨i,(h0 hl').1,hk⟩ hT;have:i'=i:=hs.good.inj hl'' (h0 hl').1 (e.trans hk.symm)
  subst this;exact(h0 hl').2 ha
 have hd:Fr C C':=⟨⟨rfl,rfl,rfl,azm _,fun _ _ _=>rfl,fun k ⟨i,q1,q2⟩=>.inl ⟨i,(h0 q1).1,q2⟩,fun k h=>.inl h,fun k h=>h.imp (fun h=>h) (fun h=>.inl (bt h))⟩,fun id _ hu=>⟨hu,fun b' h6=>⟨b',(h5 h6).1,azm _,fun _=>⟨rfl,rfl,rfl,rfl⟩⟩⟩⟩
 have he:SRel N C' ⟨upd τ t r,η.put (fp.map fun id=>(id,none)),u⟩ a:=by
  have e0:C.η=η:=hs.η;refine⟨hg,by simp only[C',e0],hs.u,hs.defers,hs.size,fun q=>?_⟩;by_cases e:q=t;subst e;have e1:upd τ q r q=r:=by simp[upd]
  show VR C' (upd τ q r q) _;rw[e1];exact .imm (hf C hs.good (fun id _=>by rw[e0]) _ (hs.τ q));have e1:upd τ t r q=τ q:=by simp[upd,kg e]
  show VR C' (upd τ t r q) _;rw[e1];exact h7 (hs.τ q)
 have:=hc C' a he;exact Code.wp_mono (fun e a' w' ⟨s',C'',h1,h2,h3,h4⟩=>⟨s',C'',h1,h2,h3,hd.trans h4⟩) this
end
structure RowF{α:Type}(f:α->List AV)(q:Nat):Prop where
 len:∀a,(f a).length=q
 one:∀a,(f a).all AV.one=true
 low:∀u a,ss u (f a)=true
 ins:∀D a,inL D (f a)=true
 ren:∀g a,wl g (f a)=f a
 pure:∀a,bz (f a)=true
def rF(f:α->List AV)(l:List α):List AV:=(l.map f).flatten
section
variable{α:Type}{f:α->List AV}{q:Nat}
theorem ly{a:α}{l:List α}:rF f (a::l)=f a++rF f l:=rfl
theorem Ch{l m:List α}:rF f (l++m)=rF f l++rF f m:=by simp[rF]
theorem R0{a:α}{l:List α}:rF f (l++[a])=rF f l++f a:=by simp[rF]
theorem mf(h:RowF f q):∀l:List α,(rF f l).length=l.length*q
 |[]=>by simp[rF]
 |a::l=>by rw[ly,azb,h.len,mf h l,azu,Nat.add_mul,Nat.one_mul,Nat.add_comm]
theorem Lu(h:RowF f q):∀l:List α,(rF f l).all AV.one=true
 |[]=>rfl
 |a::l=>by rw[ly,List.all_append,h.one,Lu h l];rfl
theorem Mk{u:Nat}:∀{l m:List AV},ss u (l++m)=(ss u l&&ss u m)
 |[],_=>rfl
 |a::l,m=>by rw[List.cons_append,ss,ss,Mk,Bool.and_assoc]
theorem T3{D:List Nat}:∀{l m:List AV},inL D (l++m)=(inL D l&&inL D m)
 |[],_=>rfl
 |a::l,m=>by rw[List.cons_append,inL,inL,T3,Bool.and_assoc]
theorem Ge:∀{l m:List AV},bz (l++m)=(bz l&&bz m)
 |[],_=>rfl
 |a::l,m=>by rw[List.cons_append,bz,bz,Ge,Bool.and_assoc]
theorem ab(h:RowF f q)(u:Nat):∀l:List α,ss u (rF f l)=true
 |[]=>rfl
 |a::l=>by rw[ly,Mk,h.low,ab h u l];rfl
theorem c9(h:RowF f q)(D:List Nat):∀l:List α,inL D (rF f l)=true
 |[]=>rfl
 |a::l=>by rw[ly,T3,h.ins,c9 h D l];rfl
theorem Aj(h:RowF f q):∀l:List α,bz (rF f l)=true
 |[]=>rfl
 |a::l=>by rw[ly,Ge,h.pure,Aj h l];rfl
theorem acv(h:RowF f q)(g:Nat->Nat):∀l:List α,wl g (rF f l)=rF f l
 |[]=>rfl
 |a::l=>by rw[ly,qy,azx,<-qy,<-qy,h.ren,acv h g l]
theorem n8(h:RowF f q){l:List α}{n:Bool}:(Blk.mk v (rF f l) q n).ren g=⟨v,rF f l,q,n⟩:=by simp only[Blk.ren,acv h]
theorem d5(h:RowF f q){l:List α}:Gm K ⟨v,rF f l,q,Nat.beq l.length 0⟩:=⟨c9 h K l,by
 cases l with
 |nil=>exact .inr (.inl rfl)
 |cons a r=>exact .inl rfl⟩
theorem fg(h:RowF f q){η:bm}{id:Nat}{l:List α}(h0:id∈fp)(hb:η id=some ⟨v,rF f l,q,false⟩):FzP fp η (.sl id v 0 l.length) (.tree q (l.map f)):=
 ba (f:=f) h0 hb rfl rfl rfl rfl rfl (fun a _=>⟨h.len a,h.pure a⟩)
theorem FzP.rows(h:RowF f q){η:bm}{id:Nat}{l:List α}(h0:id∈fp)(hb:η id=some ⟨v,rF f l,q,Nat.beq l.length 0⟩):FzP fp η (.sl id v 0 l.length) (.tree q (l.map f)):=by
 cases l with
 |nil=>
  intro C hg hη x hx
  obtain⟨e,_,_⟩:=hx.slnil_inv ((hη id h0).trans hb) rfl rfl
  subst e
  exact .tree0 (by unfold maxLen;omega)
 |cons a r=>exact fg h h0 hb
end
section
variable{P:Program}{τ:Nat->AV}{η:bm}{d:Option Tmp}{ty:TypeId}{pos:String}{af:Array Edge}{g:Option (Nat×Bool)}
theorem ah{f:α->List AV}(hf:RowF f q){by_:Nat}{s:Operand}{id:Nat}{l:List α}{a:α}{news:List AV}(ht:P.underlying t=some (.slice e))(hs:aj P e=some q)(hz:bp P e=some z)(h4:(P.info? e).map (·.bytes)=some by_)(h5:z.cells.size=q)
 (hx:aev τ s=.sl id ver 0 l.length)(hb:η id=some ⟨ver,rF f l,q,Nat.beq l.length 0⟩)(h2:Src η fp (aev τ x) 1 news)(h0:news=f a)(h3:(l.length+1)*by_<=140737488355328)(h1:l.length+1<=140737488355328)(h6:ver+1≠TV):
 LOp P ⟨d,.call {callee:=.builtin .append,args:=#[s,x],argTypes:=#[t,t]},ty,pos,af,g⟩ τ η (id::fp) [(id,some ⟨ver+1,rF f (l++[a]),q,Nat.beq (l++[a]).length 0⟩)] (.sl id (ver+1) 0 (l++[a]).length):=by
 subst h0
 have e1:Nat.beq (l++[a]).length 0=false:=kg (by simp)
 have e2:(l++[a]).length=l.length+1:=by simp
 rw[e1,e2,R0]
 exact Br (m:=1) ht hs hz h4 h5 hx hb rfl (mf hf l) h2 (by decide) (by rw[Nat.one_mul];exact hf.len a) (hf.one a) h3 h1 h6
end
open Go.RowKit Go.Sort Go.Shelf Go.Lib
open Go.RowKit Go.Shelf Go.Lib
theorem TR.tree_cells{x:Value}(h:TR T w (.tree q xs) x):
 (xs=[]/\∃a cap,cap<=maxLen/\x=.slice a 0 cap)\/∃b off cap,∃news:List Value,T b/\xs.length<=140737488355328/\xs.length<=cap/\cap<=maxLen/\(∀k (h:k<xs.length),xs[k].length=q)/\x=.slice (some ⟨b,off,none⟩) xs.length cap/\news.length=xs.length*q/\xs.flatten.length=xs.length*q/\
  (∀j u,news[j]? =some u->w.cell? ⟨b,off+j,none⟩=some u)/\∀j (h:j<xs.flatten.length) (h':j<news.length),TR T w xs.flatten[j] news[j]:=by
 cases h with
 |tree0 h=>exact .inl ⟨rfl,_,_,h,rfl⟩
 |tree cell hT h1 h2 h3 h4 h5 h6=>
  rename_i b off cap
  right
  refine⟨b,off,cap,(List.range (xs.length*q)).map fun i=>cell (i/q) (i%q),hT,h3,h1,h2,h4,rfl,by simp,lc xs h4,fun j u hj=>?_,fun j hj h7=>?_⟩
  ·simp only[List.getElem?_map]at hj
   cases hr:(List.range (xs.length*q))[j]? with
   |none=>rw[hr]at hj;cases hj
   |some p=>
    rw[hr]at hj
    obtain⟨h8,hq⟩:=az2.1 hr
    simp only[List.getElem_range]at hq
    subst hq
    simp only[az5,aza]at hj
    subst hj
    have h0:j<xs.length*q:=by simpa using h8
    obtain⟨g1,g2,_,_⟩:=js xs h4 j h0
    rw[h4 _ g1]at g2
    have:=h5 (j/q) (j%q) g1 g2
    rw[show off+j/q*q+j%q=off+j by have:=Nat.div_add_mod j q;rw[Nat.mul_comm]at this;omega]at this
    exact this
  ·simp only[aze,List.length_range]at h7
   obtain⟨g1,g2,g3,g4⟩:=js xs h4 j h7
   rw[g4]
   simp only[List.getElem_map,List.getElem_range]
   exact h6 _ g1 _ g2
theorem TR.one{x:Value}(h:TR T w a x)(h1:a.one=true):x.oneCell'=true:=
 VR.one (C:=⟨fun _=>(0,0),fun _=>0,fun _=>none,fun _=>False,T,w⟩) (.imm h) h1
theorem TRs.arg{vals:Array Value}(h:TRs T w [a] vals):∃x,vals=#[x]/\TR T w a x:=by obtain⟨h0,hv⟩:=h;have h1:0<vals.size:=(by simp at h0;omega);refine⟨vals[0],?_,hv 0 (by simp) h1⟩;apply Array.ext;simpa using h0.symm;intro i hi h2;have:i=0:=(by simp at h2;omega);subst this;rfl
theorem Owned.tree{w':World}{v:Value}{news:List Value}(hx:∀k (h:k<xs.length),xs[k].length=q)(hn:xs.length<=140737488355328)(hT:∀b,T b->b<w.heap.size)(h3:∀j (h:j<xs.flatten.length) (h':j<news.length),TR T w xs.flatten[j] news[j])
 (ho:w'.ownsRow w.heap.size et q v xs.length news)(hb:Below w.heap.size w w'):ak1 T w (.tree q xs) (.returned v) w':=by
 obtain⟨hl,⟨rfl,h0⟩|⟨g,cap,cur,rfl,hg,h2,h8,ha,hsz,h4⟩⟩:=ho
 ·have:xs=[]:=az1 h0
  subst this
  exact⟨_,T,rfl,.tree0 (by unfold maxLen;omega),fun _ h=>h,fun _ h=>.inl h,fun b h=>Nat.lt_of_lt_of_le (hT b h) hb.size,hb⟩
 ·have hgl:g<w'.heap.size:=(Array.getElem?_eq_some_iff.1 h2).1
  have hc:∀{a:AV} {x:Value},TR T w a x->TR (fun b=>T b\/b=g) w' a x:=fun h=>h.mono (fun b h=>.inl h) (fun b h=>hb.block b (hT b h))
  refine⟨_,fun b=>T b\/b=g,rfl,?_,fun b h=>.inl h,fun b h=>h.imp (fun h=>h) (fun e=>by omega),fun b h=>h.elim (fun h=>Nat.lt_of_lt_of_le (hT b h) hb.size) (fun e=>by omega),hb⟩
  have hfl:=lc xs hx
  have h9:∀k j,k<xs.length->j<q->k*q+j<news.length/\w'.cell? ⟨g,0+k*q+j,none⟩=some (news.getD (k*q+j) undef):=by intro k j hk hj;have h5:k*q+j<xs.length*q:=(by have:(k+1)*q<=xs.length*q:=Nat.mul_le_mul_right _ hk;rw[Nat.add_mul]at this;omega);refine⟨by omega,?_⟩;have h1:news.getD (k*q+j) undef=cur.toList.getD (k*q+j) undef:=(by rw[<-h4];simp only[List.getD];rw[List.getElem?_take_of_lt (by omega)]);have hd:k*q+j<cur.size:=(by have:xs.length*q<=cap*q:=Nat.mul_le_mul_right _ h8;omega);rw[h1,Nat.zero_add];simp[World.cell?,h2,List.getD,hd]
  refine TR.tree (fun k j=>news.getD (k*q+j) undef) (.inr rfl) h8 ha hn hx (fun k j hk hj=>(h9 k j hk hj).2) (fun k hk j hj=>?_)
  have h6:j<q:=by rw[<-hx k hk];exact hj
  have h5:=(h9 k j hk h6).1
  have h7:k*q+j<xs.length*q:=by have:(k+1)*q<=xs.length*q:=Nat.mul_le_mul_right _ hk;rw[Nat.add_mul]at this;omega
  obtain⟨g1,g2,g3,g4⟩:=js xs hx (k*q+j) h7
  have hq:0<q:=by omega
  have e1:(k*q+j)/q=k:=by rw[Nat.mul_comm,Nat.mul_add_div hq,Nat.div_eq_of_lt h6];rfl
  have e2:(k*q+j)%q=j:=by rw[Nat.mul_comm,Nat.mul_add_mod,Nat.mod_eq_of_lt h6]
  have:=h3 (k*q+j) g3 h5
  rw[g4]at this
  simp only[e1,e2]at this
  have e3:news.getD (k*q+j) undef=news[k*q+j]:=by simp[List.getD,h5]
  rw[e3]
  exact hc this
theorem Pe{ρ:Ren}(L:SlLaysE0.n41 P ρ)(i0:TypeInfo)(z:Value)(size bytes:Nat)(hi:P.info? (ρ.t 23)=some i0)(h3:i0.zero=some z)(h4:i0.size=size)(h5:i0.bytes=bytes)(h6:z.cells.size=size)(h7:0<size)
 (z23:∀w,(Go.sizeOf (ρ.t 23)).run P w=.ok size w)(ad:Addr)(c:Nat)(w:World):
 Calls P (ρ.f 41) #[.slice (some ad) 0 c] w fun e w'=>∃v',e=.returned v'/\w'.ownsRow w.heap.size (ρ.t 23) size v' 0 []/\v'≠.slice none 0 0/\Below w.heap.size w w':=by
 have mixed:=L.mixed;have t4:=L.t4;have a4:=L.a4;have z4:=L.z4;have v4:=L.v4;have t22:=L.t22;have a22:=L.a22;have z22:=L.z22;have v22:=L.v22
 have q22:∀(w:World) (a:Option Addr) (n c n' c':Nat),(binOp .eql (ρ.t 22) (.slice a n c) (.slice none n' c')).run P w=.ok (.bool a.isNone) w:=fun w a n c n' c'=>Lib.run_eql_slice_nil w _ _ a n c n' c' L.t22
 have u22:∀w,Sem.run P (underlying (ρ.t 22)) w=.ok (TypeDesc.slice (ρ.t 23)) w:=run_underlying t22
 obtain⟨_,_,FG⟩:=L.f41
 go_enter FG,SlBodyN.n41_ntmps ρ
 go_wp2_with (at_builtin;refine wpList_append_own _ rfl _ _ (ρ.t 22) rfl w.heap.size (ρ.t 23) i0 z size bytes t22 hi h3 h4 h5 h6 h7 _ _ _ rfl (World.ownsRow_made w #[] 0 (azm _) (azk _) (by simp)) ad 0 c [] rfl ?qc1 ?qc2 ?qc3 ?qc4 ?qc5 ?qc6 ?_)
 case qc1=>simp
 case qc2=>intro j u hj;simp at hj
 case qc3=>intro u hu;simp at hu
 case qc4=>simp
 case qc5=>simp
 case qc6=>simp
 intro v' w1 h1 h0 h2
 go_wp2
 go_ret
 refine⟨v',rfl,by simpa using h1,?_,?_⟩
 ·exact h2
 ·exact((Below.refl _ w).alloc (azm _) _).grown h0 (by simp) (by intro k hk;simp[Value.ownBlock]at hk;omega)
structure CloneL(P:Program)(F q:Nat):Prop where
 ex:∃(ρ:Ren) (i0:TypeInfo) (z:Value) (bytes:Nat),ρ.f 41=F/\SlLaysE0.n41 P ρ/\P.info? (ρ.t 23)=some i0/\i0.zero=some z/\i0.size=q/\i0.bytes=bytes/\z.cells.size=q/\(∀w,(Go.sizeOf (ρ.t 23)).run P w=.ok q w)/\bytes<=1000
 pos:0<q
theorem CloneL.full{F:Nat}(L:CloneL P F q)(b off n c:Nat)(news:List Value)(w:World)(hl:news.length=n*q)(hn:n<=1000000)(hc:∀j u,news[j]? =some u->w.cell? ⟨b,off+j,none⟩=some u)(h1:∀u∈news,u.oneCell'=true):
 Calls P F #[.slice (some ⟨b,off,none⟩) n c] w fun e w'=>∃v' et,e=.returned v'/\w'.ownsRow w.heap.size et q v' n news/\v'≠.slice none 0 0/\Below w.heap.size w w':=by
 obtain⟨⟨ρ,i0,z,bytes,rfl,LL,a1,a2,a3,a4,a5,a6,a7⟩,hp⟩:=L
 refine(AnyE.slices_Clone LL i0 z q bytes a1 a2 a3 a4 a5 hp a6 b off n c news w hl (by unfold maxLen;omega) ?_ hc h1).mono ?_
 ·have:n*bytes<=1000000*1000:=Nat.mul_le_mul hn a7
  omega
 ·rintro e w' ⟨v',h1,h2,h3,h4⟩
  exact⟨v',_,h1,h2,h3,h4⟩
theorem CloneL.empt{F:Nat}(L:CloneL P F q)(ad:Addr)(c:Nat)(w:World):
 Calls P F #[.slice (some ad) 0 c] w fun e w'=>∃v' et,e=.returned v'/\w'.ownsRow w.heap.size et q v' 0 []/\v'≠.slice none 0 0/\Below w.heap.size w w':=by
 obtain⟨⟨ρ,i0,z,bytes,rfl,LL,a1,a2,a3,a4,a5,a6,a7⟩,hp⟩:=L
 refine(Pe LL i0 z q bytes a1 a2 a3 a4 a5 hp a6 ad c w).mono ?_
 rintro e w' ⟨v',h1,h2,h3,h4⟩
 exact⟨v',_,h1,h2,h3,h4⟩
theorem CloneL.nilc{F:Nat}(L:CloneL P F q)(n c:Nat)(w:World):Calls P F #[.slice none n c] w fun e w'=>e=.returned (.slice none 0 0)/\w'=w:=by obtain⟨⟨ρ,i0,z,bytes,rfl,LL,_⟩,_⟩:=L;exact AnyE.slices_Clone_nil LL n c w
theorem CloneL.tree{F:Nat}(L:CloneL P F q){f:α->List AV}(hf:∀a,(f a).all AV.one=true)(l:List α)(hn:l.length<=1000000):qe P F [.tree q (l.map f)] (.tree q (l.map f)):=by
 intro T w vals hv hT;obtain⟨x,rfl,hx⟩:=hv.arg;rcases hx.tree_cells with⟨he,a,cap,hcap,rfl⟩|⟨b,off,cap,news,hTb,h1,h2,h3,h4,rfl,h5,h6,h7,h8⟩;have e0:l=[]:=by simpa using he
 subst e0;cases a with
 |none=>
  refine(L.nilc 0 cap w).mono ?_
  rintro e w' ⟨rfl,rfl⟩
  exact⟨_,T,rfl,.tree0 (by unfold maxLen;omega),fun _ h=>h,fun _ h=>.inl h,hT,Below.refl _ _⟩
 |some ad=>
  refine(L.empt ad cap w).mono ?_
  rintro e w' ⟨v',et,rfl,ho,_,hb⟩
  exact Owned.tree (xs:=[]) (news:=[]) (by simp) (by simp) hT (by simp) ho hb
 have h0:∀u∈news,u.oneCell'=true:=fun u hu=>by obtain⟨j,hj,rfl⟩:=azs hu;have h9:j<(l.map f).flatten.length:=(by omega);refine(h8 j h9 hj).one ?_;obtain⟨c,hc,ha⟩:=List.mem_flatten.1 (ay7 h9);obtain⟨a,_,rfl⟩:=azy.1 hc;exact List.all_eq_true.1 (hf a) _ ha
 have hd:(l.map f).length=l.length:=aze _;refine(L.full b off _ cap news w h5 (by rw[hd];exact hn) h7 h0).mono ?_;rintro e w' ⟨v',et,rfl,ho,_,hb⟩;exact Owned.tree h4 h1 hT h8 ho hb
theorem Fb(hcs:cs.length=n*q)(hpos:0<n)(hn:n<=140737488355328)(h5:∀a∈args,a.pureB=true)(hp:bz cs=true)
 (h:∀(T:Nat->Prop) (w:World) (vals:Array Value),TRs T w args vals->TOk T w->∃news:List Value,(∀j (h:j<cs.length) (h':j<news.length),TR T w cs[j] news[j])/\
  Calls P f vals w (fun e w'=>∃v' et,e=.returned v'/\w'.ownsRow w.heap.size et q v' n news/\Below w.heap.size w w')):
 jy P f args [] [(0,some ⟨0,cs,q,false⟩)] (.sl 0 0 0 n):=by
 intro C vals hg hη hU ⟨he,hv⟩
 have h6:TRs C.T C.w args vals:=⟨he,fun i hi hf=>(hv i hi hf).pure (h5 _ (ay7 hi))⟩
 obtain⟨news,h7,h8⟩:=h C.T C.w vals h6 hg.tok
 refine h8.mono ?_
 rintro e w' ⟨v',et,rfl,⟨hl,⟨rfl,h0⟩|⟨g,cap,cur,rfl,hh,h3,ha,hm,hsz,h9⟩⟩,hb⟩
 ·omega
 have hgl:g<w'.heap.size:=(Array.getElem?_eq_some_iff.1 h3).1
 have hη0:∀i,C.η i=none:=fun i=>by rw[hη];rfl
 let C':Ctx:=⟨fun _=>(g,0),fun _=>cur.size,lp [(0,some ⟨0,cs,q,false⟩)],fun i=>C.U i\/i=0,C.T,w'⟩
 have h2:∀{i b},C'.η i=some b->i=0/\b=⟨0,cs,q,false⟩:=by intro i b h1;by_cases e:i=0;subst e;have:C'.η 0=some ⟨0,cs,q,false⟩:=(by simp[C',lp]);rw[this]at h1;cases h1;exact⟨rfl,rfl⟩;have:C'.η i=none:=(by simp[C',lp,kg e]);rw[this]at h1;cases h1
 have h4:∀{k},C'.mine k->k=g:=by rintro k ⟨i,⟨b,h1,_⟩,rfl⟩;rfl
 have hmineC:∀{k},¬C.mine k:=by rintro k ⟨i,⟨b,h1,_⟩,_⟩;rw[hη0]at h1;cases h1
 have hle:n*q<=cap*q:=Nat.mul_le_mul_right _ ha
 refine⟨_,C',rfl,rfl,rfl,⟨?_,?_,?_,?_,?_,?_,?_⟩,⟨⟨hb.os,hb.tape,hb.output,hb.size,fun k hk _=>hb.block k hk,fun k hk=>.inr (by rw[h4 hk];exact hh),fun _ h=>h,fun _ h=>.inl h⟩,?_⟩,?_⟩
 ·intro i b h1
  exact .inr (h2 h1).1
 ·intro i b h1 hk
  obtain⟨rfl,rfl⟩:=h2 h1
  rw[fo rfl]at hk;cases hk
 ·intro i b h1 hn1
  obtain⟨rfl,rfl⟩:=h2 h1
  refine⟨cur,et,h3,rfl,by show 0+cs.length<=cur.size;omega,fun j hj ho=>?_⟩
  have hq:j<cs.length:=hj
  have hc:j<news.length:=by omega
  have hd:j<cur.size:=by omega
  have e5:cur[j]'hd=news[j]:=by have:cur.toList[j]? =news[j]?:=(by rw[<-h9,List.getElem?_take_of_lt (by omega)]);rw[ay8 hc,ay8 (by simpa using hd)]at this;simpa using this
  have e6:cur[(C'.ρ 0).2+j]'ho=news[j]:=by rw[<-e5];show cur[0+j]'(by omega)=_;congr 1;omega
  rw[e6]
  exact .imm ((h7 j hq hc).mono (fun _ h=>h) (fun b h=>hb.block b (hg.tlt h)))
 ·rintro i j ⟨b,h1,_⟩ ⟨b',hr,_⟩ _
  rw[(h2 h1).1,(h2 hr).1]
 ·exact⟨fun k hk=>Nat.lt_of_lt_of_le (hg.tlt (k:=k) hk) hb.size,hg.tok.glob.mono (fun _ h=>h) (fun b h=>hb.block b (hg.tlt h))⟩
 ·intro k hk hT
  rw[h4 hk]at hT
  have:=hg.tlt (k:=g) hT
  omega
 ·intro i b h1 hs hn'
  obtain⟨rfl,rfl⟩:=h2 h1
  exact absurd hs (by show¬(0:Nat)=TV;decide)
 ·intro id ht hu
  refine⟨.inl hu,fun b' h1=>?_⟩
  obtain⟨rfl,rfl⟩:=h2 h1
  exact absurd ht (by unfold TOP;omega)
 ·have hw:C'.η 0=some ⟨0,cs,q,false⟩:=by simp[C',lp]
  have:=VR.sl (C:=C') (id:=0) (ver:=0) (off:=0) (len:=n) (cap:=cap) (b:=⟨0,cs,q,false⟩) hw rfl rfl ha hm hn (by show 0+0+cap*q<=cur.size;omega)
  exact this
theorem Dg{F:Nat}(L:CloneL P F q){f:α->List AV}(hf:RowF f q)(l:List α)(h0:0<l.length)(hn:l.length<=1000000):jy P F [.tree q (l.map f)] [] [(0,some ⟨0,rF f l,q,false⟩)] (.sl 0 0 0 l.length):=by
 refine Fb (mf hf l) h0 (by omega) (by simp[AV.pureB]) (Aj hf l) fun T w vals hv hT=>?_;obtain⟨x,rfl,hx⟩:=hv.arg;rcases hx.tree_cells with⟨he,a,cap,hcap,rfl⟩|⟨b,off,cap,news,hTb,h1,h2,h3,h4,rfl,h5,h6,h7,h8⟩;have e0:l=[]:=by simpa using he
 subst e0;exact absurd h0 (by simp);have ha:(l.map f).length=l.length:=aze _
 have h9:∀u∈news,u.oneCell'=true:=fun u hu=>by obtain⟨j,hj,rfl⟩:=azs hu;have hd:j<(l.map f).flatten.length:=(by omega);refine(h8 j hd hj).one ?_;obtain⟨c,hc,hg⟩:=List.mem_flatten.1 (ay7 hd);obtain⟨a,_,rfl⟩:=azy.1 hc;exact List.all_eq_true.1 (hf.one a) _ hg
 refine⟨news,h8,(L.full b off _ cap news w h5 (by rw[ha];exact hn) h7 h9).mono ?_⟩;rintro e w' ⟨v',et,rfl,ho,_,hb⟩;rw[ha]at ho;exact⟨v',et,rfl,ho,hb⟩
theorem ang{f:α->List AV}{l:List α}(h:k<l.length):rF f l=rF f (l.take k)++(f l[k]++rF f (l.drop (k+1))):=by grind[List.getElem_cons_drop,List.take_append_drop,Ch,ly]
theorem acw{f:α->List AV}(hf:RowF f q){l:List α}(h:k<l.length):(rF f (l.take k)).length=k*q:=by rw[mf hf,List.length_take,Nat.min_eq_left (by omega)]
inductive FzLO(fp:List Nat)(η:bm):List AV->List AV->Prop where
 |same (l:List AV):FzLO fp η l l
 |keep {a:AV} {l r:List AV}:FzLO fp η l r->FzLO fp η (a :: l) (a :: r)
 |fz {a b:AV} {l r:List AV}:FzP fp η a b->FzLO fp η l r->FzLO fp η (a :: l) (b :: r)
theorem FzLO.at{η:bm}{l r:List AV}(h:FzLO fp η l r):l.length=r.length/\∀i (h:i<l.length) (h':i<r.length),l[i]=r[i]\/FzP fp η l[i] r[i]:=by
 induction h with
 |same l=>exact⟨rfl,fun i h h'=>.inl rfl⟩
 |keep h ih=>
  refine⟨by simp[ih.1],fun i h h'=>?_⟩
  cases i with
  |zero=>exact .inl rfl
  |succ i=>exact ih.2 i (by simpa using h) (by simpa using h')
 |fz h1 h ih=>
  refine⟨by simp[ih.1],fun i h h'=>?_⟩
  cases i with
  |zero=>exact .inr h1
  |succ i=>exact ih.2 i (by simpa using h) (by simpa using h')
section
variable{P:Program}{N:Nat}{Q:Exit->St->Prop}{τ:Nat->AV}{η:bm}{u:Nat}
theorem cz(fp:List Nat)(id ver z:Nat)(cs ds:List AV)(hb:η id=some ⟨ver,cs,z,false⟩)(hm:fp.contains id=false)(hf:FzLO fp η cs ds){η':bm}(hη':((η.put (fp.map fun id=>(id,none))).set id (some ⟨ver,ds,z,false⟩))=η')(hc:AWP P N c Q ⟨τ,η',u⟩):AWP P N c Q ⟨τ,η,u⟩:=by
 subst hη';intro C a hs;have e0:C.η=η:=hs.η
 have hd:id∉fp:=fun h=>by rw[List.contains_iff_mem.2 h]at hm;cases hm
 obtain⟨h9,hq⟩:=hf.at;let C':Ctx:={C with η:=(C.η.put (fp.map fun id=>(id,none))).set id (some ⟨ver,ds,z,false⟩),T:=fun b=>C.T b\/C.mineOf fp b}
 have he:C.η id=some ⟨ver,cs,z,false⟩:=by rw[e0];exact hb
 have h8:∀{i b'},C'.η i=some b'->i∉fp/\((i=id/\b'=⟨ver,ds,z,false⟩)\/(i≠id/\C.η i=some b')):=by
  intro i b' h0;have h0:((C.η.put (fp.map fun id=>(id,none))).set id (some ⟨ver,ds,z,false⟩)) i=some b':=h0
  by_cases ei:i=id;subst ei;rw[aw]at h0;cases h0;exact⟨hd,.inl ⟨rfl,rfl⟩⟩;rw[az _ _ ei,Dy]at h0;by_cases e:i∈fp;rw[azg e]at h0;cases h0;rw[azf e]at h0;exact⟨e,.inr ⟨ei,h0⟩⟩
 have h7:∀i b',C'.η i=some b'->∃b,C.η i=some b/\b'.ver=b.ver/\b'.nilp=b.nilp/\b'.kind=b.kind/\b'.esz=b.esz:=by
  intro i b' h0;obtain⟨_,⟨rfl,rfl⟩|⟨_,h⟩⟩:=h8 h0;exact⟨_,he,rfl,rfl,by rw[fo rfl,fo rfl],rfl⟩;exact⟨_,h,rfl,rfl,rfl,rfl⟩
 have ha:∀{a:AV} {x:Value},VR C a x->VR C' a x:=fun hv=>VR.shift (C:=C) (C':=C') rfl rfl rfl rfl (fun b hb=>.inl hb) hs.good.used h7 hv;have hh:∀{a b:AV} {x:Value},FzP fp η a b->VR C a x->VR C' b x:=fun hp hv=>.imm (hp C hs.good (fun id _=>by rw[e0]) _ hv)
 have h6:∀{i},C'.live i->C.live i/\i∉fp:=by rintro i ⟨b',h0,hk⟩;obtain⟨b,h1,_,_,h4,_⟩:=h7 _ _ h0;exact⟨⟨b,h1,by rw[<-h4];exact hk⟩,(h8 h0).1⟩
 have hg:Good C':=by
  refine⟨fun h=>?_,?_,?_,fun hi hj e=>hs.good.inj (h6 hi).1 (h6 hj).1 e,?_,?_,fun h hv hn=>?_⟩;obtain⟨b,h1,_⟩:=h7 _ _ h;exact hs.good.used h1;intro i b' h0 hk;obtain⟨_,⟨rfl,rfl⟩|⟨_,h⟩⟩:=h8 h0;rw[fo rfl]at hk;cases hk;obtain⟨o,g1,g2⟩:=hs.good.obj h hk;exact⟨o,g1,ObjR.shift ha g2⟩;intro i b' h0 hr;obtain⟨_,⟨rfl,rfl⟩|⟨_,h⟩⟩:=h8 h0;obtain⟨c,t,g1,g2,g3,g4⟩:=hs.good.blk he rfl;refine⟨c,t,g1,g2,by show(C.ρ i).2+ds.length<=c.size;rw[<-h9];exact g3,fun j hj hl=>?_⟩;have ht:j<ds.length:=hj
  have ho:j<cs.length:=by omega
  have h1:=g4 j ho hl;rcases hq j ho ht with e|e;show VR C' ds[j] _
  rw[<-e];exact ha h1;exact hh e h1;obtain⟨c,t,g1,g2,g3,g4⟩:=hs.good.blk h hr;exact⟨c,t,g1,g2,g3,fun j hj hl=>ha (g4 j hj hl)⟩;refine hs.good.tokT (fun _ h=>.inl h) ?_;rintro k (hk|hk);exact hs.good.tlt hk;exact fv hs.good (bt hk);rintro k ⟨i,hl',hk⟩ (hT|⟨i',hw,hl'',e⟩);exact hs.good.apart ⟨i,(h6 hl').1,hk⟩ hT;have:i'=i:=hs.good.inj hl'' (h6 hl').1 (e.trans hk.symm)
  subst this;exact(h6 hl').2 hw;obtain⟨_,⟨rfl,rfl⟩|⟨_,h1⟩⟩:=h8 h;have:=hs.good.tight he hv rfl
  show C.sz _=(C.ρ _).2+ds.length;rw[<-h9];exact this;exact hs.good.tight h1 hv hn
 have hx:Fr C C':=⟨⟨rfl,rfl,rfl,azm _,fun _ _ _=>rfl,fun k ⟨i,q1,q2⟩=>.inl ⟨i,(h6 q1).1,q2⟩,fun k h=>.inl h,fun k h=>h.imp (fun h=>h) (fun h=>.inl (bt h))⟩,fun i _ hu=>⟨hu,fun b' h0=>by obtain⟨b,h1,h2,_,h4,h5⟩:=h7 _ _ h0;exact⟨b,h1,by omega,fun _=>⟨rfl,rfl,h4,h5⟩⟩⟩⟩;have hy:SRel N C' ⟨τ,(η.put (fp.map fun id=>(id,none))).set id (some ⟨ver,ds,z,false⟩),u⟩ a:=by refine⟨hg,by simp only[C',e0],hs.u,hs.defers,hs.size,fun q=>ha (hs.τ q)⟩
 have:=hc C' a hy;exact Code.wp_mono (fun e a' w' ⟨s',C'',h1,h2,h3,h4⟩=>⟨s',C'',h1,h2,h3,hx.trans h4⟩) this
end
theorem bv{f:α->List AV}(h:RowF f q){r:List α}{n:Bool}(e:gOf m i=k):ju m [(i,some ⟨v,rF f r,q,n⟩)]=[(k,some ⟨v,rF f r,q,n⟩)]:=by simp only[ju,azw,List.map_nil,e,az5,n8 h]
section
variable{P:Program}{τ:Nat->AV}{η:bm}{d:Option Tmp}{ty:TypeId}{pos:String}{af:Array Edge}{g:Option (Nat×Bool)}
theorem Po{m:Nat}{k:IntKind}{v:Int}{f:α->List AV}{l:List α}(hu:P.underlying t=some (.slice e))(hs:aj P e=some m)(hx:aev τ x=.tree m (l.map f))(hi:aev τ y=.v (.int k v))(hv:v=((n:Nat):Int))(hn:n<=l.length):
 LOp P ⟨d,.slice t x none (some y) none,ty,pos,af,g⟩ τ η [] [] (.tree m ((l.take n).map f)):=by
 subst hv
 have h:s4 P τ η 0 t x none (some y)=some ⟨[],[],.tree m ((l.take n).map f),0⟩:=by have h0:Nat.ble 0 n=true:=Nat.ble_eq_true_of_le (azk _);have h1:Nat.ble n l.length=true:=Nat.ble_eq_true_of_le hn;have h3:aev τ y=.v (.int k (Int.ofNat n)):=hi;unfold s4;rw[hu];simp only[hs,hx,yj,h3,aze,h0,h1,Nat.beq_refl,Bool.and_true,cond_true];congr 3;simp[List.map_take]
 exact uz h
end
section
variable{P:Program}{τ:Nat->AV}{η:bm}{d:Option Tmp}{ty:TypeId}{pos:String}{af:Array Edge}{g:Option (Nat×Bool)}
theorem H6{v:AV}{id:Nat}{b:Option Blk}(h:LOp P o τ η fp [] v)(h6:id∈fp)(hb:η id=b)(h7:b.isSome=true):LOp P o τ η fp [(id,b)] v:=by
 intro C a hg h8 h0 _ K Q hK
 refine h C a hg h8 h0 (fun p hp=>absurd hp (by simp)) K Q fun x C' h1 h2 h3 h4 h5=>hK x C' ?_ (fun i=>?_) h3 h4 h5
 ·rw[h1]
  funext k
  have e:C.η id=b:=(h0 id h6).trans hb
  simp only[bm.put]
  by_cases hk:k=id
  ·subst hk;rw[aw];exact e
  ·rw[az _ _ hk]
 ·rw[h2]
  simp only[List.map_nil,List.not_mem_nil,or_false,azw,azc]
  refine⟨fun h=>.inl h,fun h=>?_⟩
  rcases h with h|h
  ·exact h
  ·subst h
   have e:C.η i=b:=(h0 i h6).trans hb
   cases b with
   |none=>cases h7
   |some b=>exact hg.used e
def vbX(ver n:Nat):Nat:=bif Nat.beq n 0 then ver else ver+1
variable{α:Type}{f:α->List AV}{q:Nat}
theorem mo(hf:RowF f q){by_:Nat}{s:Operand}{id:Nat}{l l':List α}(ht:P.underlying t=some (.slice e))(hs:aj P e=some q)(hz:bp P e=some z)(h2:(P.info? e).map (·.bytes)=some by_)(h3:z.cells.size=q)
 (hx:aev τ s=.sl id ver 0 l.length)(hb:η id=some ⟨ver,rF f l,q,false⟩)(hy:aev τ x=.tree q (l'.map f))(h1:(l.length+l'.length)*by_<=140737488355328)(h0:l.length+l'.length<=140737488355328)(h4:ver+1≠TV):
 LOp P ⟨d,.call {callee:=.builtin .append,args:=#[s,x],argTypes:=#[t,t]},ty,pos,af,g⟩ τ η [id] [(id,some ⟨ver+1,rF f (l++l'),q,false⟩)] (.sl id (ver+1) 0 (l++l').length):=by
 have:=LOp.append (d:=d) (ty:=ty) (pos:=pos) (af:=af) (g:=g) (m:=l'.length) (news:=rF f l') ht hs hz h2 h3 hx hb rfl rfl rfl (Nat.le_of_eq (mf hf l).symm) (by rw[hy];exact nk rfl) (mf hf l') (Lu hf l') h1 h0 h4
 rw[<-azb,<-mf hf l,List.take_length,<-Ch]at this
 exact this
theorem d4(hf:RowF f q){by_:Nat}{s:Operand}{id:Nat}{l l':List α}(ht:P.underlying t=some (.slice e))(hs:aj P e=some q)(hz:bp P e=some z)(h5:(P.info? e).map (·.bytes)=some by_)(h6:z.cells.size=q)
 (hx:aev τ s=.sl id ver 0 l.length)(hb:η id=some ⟨ver,rF f l,q,Nat.beq l.length 0⟩)(hy:aev τ x=.tree q (l'.map f))(h2:(l.length+l'.length)*by_<=140737488355328)(h1:l.length+l'.length<=140737488355328)(h7:ver+1≠TV):
 LOp P ⟨d,.call {callee:=.builtin .append,args:=#[s,x],argTypes:=#[t,t]},ty,pos,af,g⟩ τ η [id] [(id,some ⟨vbX ver (l++l').length,rF f (l++l'),q,Nat.beq (l++l').length 0⟩)] (.sl id (vbX ver (l++l').length) 0 (l++l').length):=by
 by_cases h0:(l++l').length=0
 ·have e0:=az1 h0
  obtain⟨rfl,rfl⟩:=List.append_eq_nil_iff.1 e0
  refine H6 (.look [id] fun C a hg h8 ha=>?_) (azc.2 rfl) hb rfl
  have h9:C.η id=some ⟨ver,[],q,true⟩:=(ha id (azc.2 rfl)).trans hb
  have e1:=h8 s (by simp[Op.operands,Call.operands])
  rw[hx]at e1
  obtain⟨e2,_,_⟩:=e1.slnil_inv h9 rfl rfl
  unfold aj at hs
  cases hi:P.info? e with
  |none=>rw[hi]at hs;cases hs
  |some inf=>
   have hv:VR C (.sl id (vbX ver 0) 0 0) (.slice none 0 0):=.slnil (b:=⟨ver,[],q,true⟩) h9 rfl rfl
   have h3:Src η [] (aev τ x) 0 []:=by rw[hy];exact nk (f:=f) (l:=([]:List α)) rfl
   rcases h3 C hg (fun i hi=>absurd hi (by simp)) _ (h8 x (by simp[Op.operands,Call.operands]))with⟨_,_,ad,c,h4⟩|⟨ad,c,vals,h4,_⟩
   ·refine⟨.slice none 0 0,ku C.w ?_,hv⟩
    rw[e2,h4]
    exact fd (P:=P) (ty:=ty) ht hi C.w none ad 0 0 c (azm _)
   ·refine⟨.slice none 0 0,ku C.w ?_,hv⟩
    rw[e2,h4]
    exact fd (P:=P) (ty:=ty) ht hi C.w none (some ad) 0 0 c (azm _)
 ·have e1:Nat.beq (l++l').length 0=false:=kg h0
  have e2:vbX ver (l++l').length=ver+1:=by unfold vbX;rw[e1];rfl
  rw[e1,e2]
  cases l with
  |cons a r=>exact mo hf ht hs hz h5 h6 hx hb hy h2 h1 h7
  |nil=>
   have hm:0<l'.length:=by simpa using Nat.pos_of_ne_zero h0
   have:=Br (d:=d) (ty:=ty) (pos:=pos) (af:=af) (g:=g) (m:=l'.length) (fp:=[]) (news:=rF f l') ht hs hz h5 h6 hx hb rfl (mf hf []) (by rw[hy];exact nk rfl) hm (mf hf l') (Lu hf l') h2 h1 h7
   rw[<-azb,<-Ch]at this
   exact this
end
theorem xp :ver<=vbX ver n/\vbX ver n<=ver+1:=by unfold vbX;cases Nat.beq n 0<;>simp
def EWP(P:Program)(N:Nat)(c:Code)(Q:Exit->St->Prop)(s:St):Prop:=∃e s',Q e s'/\AWP P N c (fun e1 s1=>e1=e/\s1=s') s
def PRet(P:Program)(f:FuncId)(args:List AV)(R:AV->Prop):Prop:=∃ret,R ret/\qe P f args ret
section
variable{P:Program}{N:Nat}{Q:Exit->St->Prop}{s:St}
theorem EWP.via(h:∀Q,AWP P N c Q s2->AWP P N c Q s)(hc:EWP P N c Q s2):EWP P N c Q s:=by obtain⟨e,s',h1,h2⟩:=hc;exact⟨e,s',h1,h _ h2⟩
theorem EWP.mono{Q':Exit->St->Prop}(h:EWP P N c Q s)(hq:∀e s',Q e s'->Q' e s'):EWP P N c Q' s:=by obtain⟨e,s',h1,h2⟩:=h;exact⟨e,s',hq _ _ h1,h2⟩
theorem EWP.skip(h:Q .normal s):EWP P N .skip Q s:=⟨_,_,h,wK ⟨rfl,rfl⟩⟩
theorem EWP.exit{id:Nat}(h:Q (.exit id) s):EWP P N (.exit id) Q s:=⟨_,_,h,AWP.exit ⟨rfl,rfl⟩⟩
theorem EWP.ret(h:Q .ret s):EWP P N .ret Q s:=⟨_,_,h,wT ⟨rfl,rfl⟩⟩
theorem EWP.region{id:Nat}{l:List Oper}(h:akv P N l.toArray l (fun _ s'=>Q .normal s') s):EWP P N (.region id l.toArray false) Q s:=by obtain⟨rs,s',h1,h2⟩:=h;exact⟨_,s',h2,wR (Ks h1 ⟨rfl,rfl⟩)⟩
theorem ab0{id:Nat}{l:List Oper}(hm:P.follows .mixedOrders=true)(h:akv P N l.toArray l (fun rs s'=>s7 l.toArray rs=true/\Q .normal s') s):EWP P N (.region id l.toArray true) Q s:=by obtain⟨rs,s',h1,h2,h3⟩:=h;exact⟨_,s',h3,Kr hm h1 h2 ⟨rfl,rfl⟩⟩
theorem EWP.seq{x y:Code}(h:EWP P N x (andThen (EWP P N y Q) Q) s):EWP P N (.seq x y) Q s:=by
 obtain⟨e,s',h1,h2⟩:=h;cases e with
 |normal=>
  obtain⟨e2,s2,h3,h4⟩:=h1
  refine⟨e2,s2,h3,wS (AWP.mono h2 ?_)⟩
  rintro e1 s1 ⟨rfl,rfl⟩
  exact h4
 |_=>
  refine⟨_,s',h1,wS (AWP.mono h2 ?_)⟩
  rintro e1 s1 ⟨rfl,rfl⟩
  exact⟨rfl,rfl⟩
theorem EWP.cond{c:Operand}{x y:Code}{t:Bool}(hc:aev s.τ c=.v (.bool t))(ht:t=true->EWP P N x Q s)(hf:t=false->EWP P N y Q s):EWP P N (.cond c x y) Q s:=by
 cases t with
 |true=>obtain⟨e,s',h1,h2⟩:=ht rfl;exact⟨e,s',h1,Ig hc h2⟩
 |false=>obtain⟨e,s',h1,h2⟩:=hf rfl;exact⟨e,s',h1,Ih hc h2⟩
theorem EWP.block{id:Nat}(h:EWP P N c (A3 id Q) s):EWP P N (.block id c) Q s:=by
 obtain⟨e,s',h1,h2⟩:=h;cases e with
 |exit id'=>
  by_cases hi:Nat.beq id' id=true
  ·simp only[A3,hi,cond_true]at h1
   refine⟨.normal,s',h1,wB (AWP.mono h2 ?_)⟩
   rintro e1 s1 ⟨rfl,rfl⟩
   simp only[A3,hi,cond_true]
   exact⟨trivial,trivial⟩
  ·simp only[Bool.not_eq_true]at hi
   simp only[A3,hi,cond_false]at h1
   refine⟨.exit id',s',h1,wB (AWP.mono h2 ?_)⟩
   rintro e1 s1 ⟨rfl,rfl⟩
   simp only[A3,hi,cond_false]
   exact⟨trivial,trivial⟩
 |_=>
  refine⟨_,s',h1,wB (AWP.mono h2 ?_)⟩
  rintro e1 s1 ⟨rfl,rfl⟩
  exact⟨rfl,rfl⟩
inductive Chain(P:Program)(N:Nat)(c:Code)(e2:Exit)(s2:St):Nat->St->Prop
 |done {n:Nat} {s:St}:AWP P N c (fun e1 s1=>e1=e2/\s1=s2) s->e2≠.normal->Chain P N c e2 s2 n s
 |step {n m:Nat} {s s' s1:St}:AWP P N c (fun e1 s1=>e1=.normal/\s1=s') s->(∀Q,AWP P N c Q s1->AWP P N c Q s')->m<n->Chain P N c e2 s2 m s1->Chain P N c e2 s2 n s
theorem Chain.loop{e2:Exit}{s:St}(h:Chain P N c e2 s2 n s):AWP P N (.loop c) (fun e1 s1=>e1=e2/\s1=s2) s:=by
 refine AWP.loop (fun n s=>∃s1,(∀Q,AWP P N c Q s1->AWP P N c Q s)/\Chain P N c e2 s2 n s1) (fun n s ⟨s1,h1,h2⟩=>h1 _ ?_) (n:=n) ⟨s,fun _ h=>h,h⟩;cases h2 with
 |done h3 h4=>
  refine AWP.mono h3 ?_
  rintro e1 s3 ⟨rfl,rfl⟩
  cases e1 with
  |normal=>exact absurd rfl h4
  |_=>exact⟨rfl,rfl⟩
 |step h3 h4 h5 h6=>
  refine AWP.mono h3 ?_
  rintro e1 s3 ⟨rfl,rfl⟩
  exact⟨_,h5,_,h4,h6⟩
theorem EWP.canon(h:Canon s s1)(hc:EWP P N c Q s1):EWP P N c Q s:=EWP.via (fun _=>AWP.canon h) hc
theorem Xy(I:Nat->St->Prop)(hI:∀n s,I n s->EWP P N c (andThen (fun s'=>∃m s1,m<n/\Canon s' s1/\I m s1) Q) s):∀n s,I n s->∃e2 s2,Q e2 s2/\Chain P N c e2 s2 n s:=by
 intro n;induction n using Nat.strongRecOn with
 |_ n ih=>
  intro s h0
  obtain⟨e,s',h1,h2⟩:=hI n s h0
  cases e with
  |normal=>
   obtain⟨m,s1,hm,hc,hi⟩:=h1
   obtain⟨e2,s2,h3,h4⟩:=ih m hm s1 hi
   exact⟨e2,s2,h3,.step h2 (fun _=>AWP.canon hc) hm h4⟩
  |_=>exact⟨_,s',h1,.done h2 (by simp)⟩
theorem Xx(I:Nat->St->Prop)(hc:Canon s s1)(h0:I n s1)(hI:∀n s,I n s->EWP P N c (andThen (fun s'=>∃m s1,m<n/\Canon s' s1/\I m s1) Q) s):EWP P N (.loop c) Q s:=by obtain⟨e2,s2,h1,h2⟩:=Xy I hI n s1 h0;exact EWP.canon hc ⟨e2,s2,h1,h2.loop⟩
theorem Ie(h:EWP P N c (andThen (fun _=>False) Q) s):EWP P N (.loop c) Q s:=by
 obtain⟨e,s',h1,h2⟩:=h
 cases e with
 |normal=>exact h1.elim
 |_=>exact⟨_,s',h1,(Chain.done (n:=0) h2 (by simp)).loop⟩
def ab1(P:Program)(N:Nat)(c:Code)(Q:Exit->St->Prop)(s:St):Prop:=∃e2 s2 n,Q e2 s2/\Chain P N c e2 s2 n s
theorem If(h:EWP P N c (andThen (ab1 P N c Q) Q) s):ab1 P N c Q s:=by
 obtain⟨e,s',h1,h2⟩:=h;cases e with
 |normal=>
  obtain⟨e2,s2,n,h3,h4⟩:=h1
  exact⟨e2,s2,n+1,h3,.step h2 (fun _ h=>h) (Nat.lt_succ_self n) h4⟩
 |_=>exact⟨_,s',0,h1,.done h2 (by simp)⟩
theorem Xw(h:ab1 P N c Q s):EWP P N (.loop c) Q s:=by obtain⟨e2,s2,n,h1,h2⟩:=h;exact⟨e2,s2,h1,h2.loop⟩
theorem PRet.of_body(hf:P.funcs[f]? =some fn)(hb:fn.body=some c)(hN:fn.ntmps=N)(hl:args.length<=N)
 (h:EWP P N c (fun e s'=>(e=.normal\/e=.ret)/\∃ret,P8 P N fn s' ret/\R ret) ⟨lz args,Co,0⟩):PRet P f args R:=by
 obtain⟨e,s',⟨he,ret,ho,hR⟩,h2⟩:=h
 refine⟨ret,hR,pB hf hb hN hl (AWP.mono h2 ?_)⟩
 rintro e1 s1 ⟨rfl,rfl⟩
 exact⟨he,ho⟩
theorem PRet.mono{R':AV->Prop}(h:PRet P f args R)(hR:∀r,R r->R' r):PRet P f args R':=by obtain⟨r,h1,h2⟩:=h;exact⟨r,hR r h1,h2⟩
end
section
variable{P:Program}{τ:Nat->AV}{η:bm}{d:Option Tmp}{ty:TypeId}{pos:String}{af:Array Edge}{g:Option (Nat×Bool)}
theorem H8{i j:Operand}{s:ByteArray}{m n:Int}(hu:P.underlying t=some .string)(hx:aev τ x=.v (.string s))(hi:aev τ i=.v (.int .i64 m))(hj:aev τ j=.v (.int .i64 n))(h0:0<=m)(h1:m<=n)(h2:n<=s.size):
 LOp P ⟨d,.slice t x (some i) (some j) none,ty,pos,af,g⟩ τ η [] [] (.v (.string (s.extract m.toNat n.toNat))):=
 .look [] fun C a hg h3 _=>by have e1:=h3 x (by simp[Op.operands]);have e2:=h3 i (by simp[Op.operands]);have e3:=h3 j (by simp[Op.operands]);rw[hx]at e1;rw[hi]at e2;rw[hj]at e3;refine⟨_,?_,VR.v C _⟩;simp only[execOp,e1.v_inv,az5,Option.map_none,e2.v_inv,e3.v_inv];rw[Sem.run_bind,Go.run_sliceAt_string C.w t _ _ _ _ hu,Go.run_slice_string C.w t s .i64 .i64 m n hu h0 h1 h2];rfl
theorem P1{t':Nat}{a b:ByteArray}(hx:aev τ x=.v (.string a))(hy:aev τ y=.v (.string b))(h:a.size+b.size<=9223372036854775807):
 LOp P ⟨d,.binOp .add t x y t',ty,pos,af,g⟩ τ η [] [] (.v (.string (a++b))):=
 .look [] fun C q hg h0 _=>by have e1:=h0 x (by simp[Op.operands]);have e2:=h0 y (by simp[Op.operands]);rw[hx]at e1;rw[hy]at e2;refine⟨_,?_,VR.v C _⟩;simp only[execOp,e1.v_inv,e2.v_inv];simp[eqGuard,Sem.run_bind,Go.binOp_string_add,Go.run_string_add_sum C.w a b h]
theorem Pw(ha:ats[0]? =some t)(he:P.underlying t=some (.slice e))(hx:aev τ x=.v (.slice none 0 0)):
 LOp P ⟨d,.call {callee:=.builtin .len,args:=#[x],argTypes:=ats},ty,pos,af,g⟩ τ η [] [] (.v (.int .i64 0)):=
 .look [] fun C a hg h0 _=>by have h1:=h0 x (by simp[Op.operands,Call.operands]);rw[hx]at h1;refine⟨_,?_,VR.v C _⟩;simp[execOp,h1.v_inv,resolve,invoke,builtin,Builtin.len_,ha,run_underlying he,goInt]
end
theorem ahk:(ByteArray.mk #[32]).size=1:=rfl
def aby(P:Program)(f:FuncId)(args:List AV)(hb:List (Nat×Blk))(hb':List (Nat×Option Blk))(R:AV->Prop):Prop:=∃ret,R ret/\jy P f args hb hb' ret
theorem aby.of_body(hf:P.funcs[f]? =some fn)(h0:fn.body=some c)(hN:fn.ntmps=N)(hl:args.length<=N)
 (h:EWP P N c (fun e s'=>(e=.normal\/e=.ret)/\∃ret,Pn P N fn s' hb' ret/\R ret) ⟨lz args,hLz hb,0⟩):aby P f args hb hb' R:=by
 obtain⟨e,s',⟨he,ret,ho,hR⟩,h2⟩:=h
 refine⟨ret,hR,jy.of_body hf h0 hN hl (AWP.mono h2 ?_)⟩
 rintro e1 s1 ⟨rfl,rfl⟩
 exact⟨he,ho⟩
def swp(i j n:Nat):Nat:=if n=i then j else if n=j then i else n
theorem zw(i j n:Nat):swp i j (swp i j n)=n:=by
 unfold swp;repeat' split
 all_goals omega
theorem age{a b:Nat}(h:swp i j a=swp i j b):a=b:=by rw[<-zw i j a,h,zw]
theorem agd(hi:i<u)(hj:j<u)(h:swp i j n<u\/TOP<=swp i j n):n<u\/TOP<=n:=by
 unfold swp at h
 repeat' split at h
 all_goals omega
theorem agc(hi:i<TOP)(hj:j<TOP)(h:TOP<=n):swp i j n=n:=by
 unfold swp;repeat' split
 all_goals omega
def awn(D:List Nat):List (Nat×AV)->Prop
 |[]=>True
 |p::r=>p.2.inB D=true/\awn D r
def awm(D:List Nat):List (Nat×Blk)->Prop
 |[]=>True
 |p::r=>inL D p.2.cs=true/\awm D r
theorem Cx{g:Nat->Nat}:∀(fl:List (Nat×AV)) (t:Nat),fL (fl.map fun p=>(p.1,p.2.ren g)) t=(fL fl t).ren g
 |[],t=>rfl
 |p::r,t=>by
  simp only[azw,fL]
  cases hb:Nat.beq t p.1 with
  |true=>rfl
  |false=>exact Cx r t
theorem Hf{D:List Nat}:∀{fl:List (Nat×AV)} (_:awn D fl) (t:Nat),(fL fl t).inB D=true
 |[],_,t=>rfl
 |p::r,⟨h1,h2⟩,t=>by
  simp only[fL]
  cases hb:Nat.beq t p.1 with
  |true=>exact h1
  |false=>exact Hf h2 t
theorem Hd{D:List Nat}:∀{hl:List (Nat×Blk)} (_:awm D hl) {n:Nat} {b:Blk},hLz hl n=some b->inL D b.cs=true
 |[],_,n,b,h=>by cases h
 |p::r,⟨h1,h2⟩,n,b,h=>by
  simp only[hLz]at h
  cases hb:Nat.beq n p.1 with
  |true=>rw[hb]at h;simp only[cond_true,aza]at h;subst h;exact h1
  |false=>rw[hb]at h;exact Hd h2 h
theorem Hc:∀{hl:List (Nat×Blk)} {n:Nat},n∈hl.map (·.1)->∃b,hLz hl n=some b
 |[],n,h=>by simp at h
 |p::r,n,h=>by
  simp only[hLz]
  cases hb:Nat.beq n p.1 with
  |true=>exact⟨p.2,rfl⟩
  |false=>
   simp only[azw,azz]at h
   rcases h with h|h
   ·subst h;simp at hb
   ·exact Hc h
theorem Ha{i j:Nat}:∀(hl:List (Nat×Blk)) (n:Nat),hLz (hl.map fun p=>(swp i j p.1,p.2.ren (swp i j))) n=(hLz hl (swp i j n)).map (Blk.ren (swp i j))
 |[],n=>rfl
 |p::r,n=>by
  simp only[azw,hLz]
  have e:Nat.beq n (swp i j p.1)=Nat.beq (swp i j n) p.1:=by
   by_cases h:n=swp i j p.1
   ·subst h;rw[zw];simp
   ·have h':¬swp i j n=p.1:=fun h'=>h (by rw[<-h',zw])
    rw[kg h,kg h']
  rw[e]
  cases hb:Nat.beq (swp i j n) p.1 with
  |true=>rfl
  |false=>exact Ha r n
section
variable{P:Program}{N:Nat}{Q:Exit->St->Prop}
theorem Nx(i j:Nat){fl fl':List (Nat×AV)}{hl hl':List (Nat×Blk)}(hs:Canon s ⟨fL fl,hLz hl,u⟩)(hF:awn (hl.map (·.1)) fl)(hH:awm (hl.map (·.1)) hl)(hi:i<u)(hj:j<u)(hu:u<=TOP)
 (ha:(fl.map fun p=>(p.1,p.2.ren (swp i j)))=fl')(hd:(hl.map fun p=>(swp i j p.1,p.2.ren (swp i j)))=hl')(hc:AWP P N c Q ⟨fL fl',hLz hl',u⟩):AWP P N c Q s:=by
 subst ha hd
 intro C a he
 obtain⟨C1,hw,hr,hf⟩:=hs.rel he
 have e1:C1.η=hLz hl:=hr.η
 let g:=swp i j
 have h7:∀n,g (g n)=n:=zw i j
 let C2:Ctx:={C1 with ρ:=fun n=>C1.ρ (g n),sz:=fun n=>C1.sz (g n),η:=hLz (hl.map fun p=>(swp i j p.1,p.2.ren (swp i j))),U:=fun n=>C1.U (g n)}
 have h2η:∀n,C2.η n=(C1.η (g n)).map (Blk.ren g):=fun n=>by rw[e1];exact Ha hl n
 have h4:∀{n b},C2.η n=some b->∃b0,C1.η (g n)=some b0/\b=b0.ren g:=by
  intro n b hb
  rw[h2η]at hb
  cases h:C1.η (g n)with
  |none=>rw[h]at hb;cases hb
  |some b0=>rw[h]at hb;simp only[az5,aza]at hb;exact⟨b0,rfl,hb.symm⟩
 have hR:Rens (hl.map (·.1)) g C1 C2:=by
  refine⟨fun n _=>?_,fun n _=>?_,fun n _=>?_,fun n hn=>?_,rfl,rfl⟩
  ·show C1.ρ (g (g n))=_;rw[h7]
  ·show C1.sz (g (g n))=_;rw[h7]
  ·rw[h2η,h7]
  ·show C1.U (g (g n));rw[h7]
   obtain⟨b,hb⟩:=Hc hn
   exact hr.good.used (by rw[e1];exact hb)
 have h8:∀{n b},C1.η n=some b->inL (hl.map (·.1)) b.cs=true:=fun hb=>Hd hH (by rw[e1]at hb;exact hb)
 have h5:∀{n},C2.live n->C1.live (g n):=by
  rintro n ⟨b,hb,hk⟩
  obtain⟨b0,h0,rfl⟩:=h4 hb
  exact⟨b0,h0,by rw[br]at hk;exact hk⟩
 have h6:∀{k},C2.mine k->C1.mine k:=fun⟨n,h1,h2⟩=>⟨g n,h5 h1,h2⟩
 have hg:Good C2:=by
  refine⟨fun hb=>?_,fun hb hk=>?_,fun hb hn=>?_,fun h1 h2 h3=>age (hr.good.inj (h5 h1) (h5 h2) h3),hr.good.tok,fun hk hT=>hr.good.apart (h6 hk) hT,fun hb hv hn=>?_⟩
  ·obtain⟨b0,h0,rfl⟩:=h4 hb
   exact hr.good.used h0
  ·obtain⟨b0,h0,rfl⟩:=h4 hb
   obtain⟨o,h1,h2⟩:=hr.good.obj h0 (by rw[br]at hk;exact hk)
   exact⟨o,h1,ObjR.ren hR h2 (h8 h0)⟩
  ·obtain⟨b0,h0,rfl⟩:=h4 hb
   obtain⟨c,t,g1,g2,g3,g4⟩:=hr.good.blk h0 hn
   refine⟨c,t,g1,g2,by show _+(wl g b0.cs).length<=_;rw[cx];exact g3,fun k hk hh=>?_⟩
   have h9:k<b0.cs.length:=by have hk:k<(wl g b0.cs).length:=hk;rw[cx]at hk;exact hk
   have e:(b0.ren g).cs[k]=(b0.cs[k]).ren g:=i8 hk
   rw[e]
   exact VR.ren hR (g4 k h9 hh) (pe (h8 h0) k h9)
  ·obtain⟨b0,h0,rfl⟩:=h4 hb
   have:=hr.good.tight h0 hv hn
   show C1.sz _=_+(wl g b0.cs).length
   rw[cx];exact this
 have hm:Fr C1 C2:=⟨⟨rfl,rfl,rfl,azm _,fun _ _ _=>rfl,fun k hk=>.inl (h6 hk),fun _ h=>h,fun _ h=>.inl h⟩,fun id ht hU=>by
  have e:g id=id:=agc (by omega) (by omega) ht
  refine⟨by show C1.U (g id);rw[e];exact hU,fun b' hb=>?_⟩
  obtain⟨b0,h0,rfl⟩:=h4 hb
  rw[e]at h0
  exact⟨b0,h0,azm _,fun _=>⟨by show C1.ρ (g id)=_;rw[e],by show C1.sz (g id)=_;rw[e],br,rfl⟩⟩⟩
 have ho:SRel N C2 ⟨fL (fl.map fun p=>(p.1,p.2.ren (swp i j))),hLz (hl.map fun p=>(swp i j p.1,p.2.ren (swp i j))),u⟩ a:=
  ⟨hg,rfl,fun id hU=>agd hi hj (hr.u _ hU),hr.defers,hr.size,fun t=>by
   show VR C2 (fL _ t) _
   rw[Cx]
   exact VR.ren hR (hr.τ t) (Hf hF t)⟩
 have:=hc C2 a ho
 have hp:C2.w=C.w:=hw
 rw[hp]at this
 refine Code.wp_mono ?_ this
 rintro e a' w' ⟨s',C'',hq,hx,hr'',hy⟩
 exact⟨s',C'',hq,hx,hr'',(hf.trans hm).trans hy⟩
end
def lh(n:Nat)(F:Nat->Bool):List AV:=(List.range n).map fun i=>AV.v (.bool (F i))
section
variable{n:Nat}{F G:Nat->Bool}
theorem Dw:(lh n F).length=n:=by simp[lh]
theorem Y0(h:i<n):(lh n F)[i]? =some (.v (.bool (F i))):=by simp[lh,h]
theorem Y1(h:∀i,i<n->F i=G i):lh n F=lh n G:=by simp_all [lh]
theorem bo(u:Nat):ss u (lh n F)=true:=by
 unfold lh
 induction List.range n with
 |nil=>rfl
 |cons a l ih=>simp only[azw,ss];rw[ih];rfl
theorem Ai(D:List Nat):inL D (lh n F)=true:=by
 unfold lh
 induction List.range n with
 |nil=>rfl
 |cons a l ih=>simp only[azw,inL];rw[ih];rfl
theorem y3(g:Nat->Nat):wl g (lh n F)=lh n F:=by
 unfold lh
 induction List.range n with
 |nil=>rfl
 |cons a l ih=>simp only[azw,wl];rw[ih];rfl
theorem Yz(h:i<n):bn (lh n F) i [.v (.bool b)]=lh n (fun k=>if k=i then b else F k):=by apply List.ext_getElem;simp[bn,lh];omega;intro k h1 h2;have hk:k<n:=(by rw[Dw]at h2;exact h2);have hl:(lh n F).length=n:=Dw;simp only[bn];by_cases e:k<i;rw[List.getElem_append_left (by simp[hl];omega)];rw[List.getElem_append_left (by simp[hl];omega)];simp[lh,Nat.ne_of_lt e];by_cases e2:k=i;subst e2;rw[List.getElem_append_left (by simp[hl];omega)];rw[List.getElem_append_right (by simp[hl];omega)];simp[lh,hl];rw[List.getElem_append_right (by simp[hl];omega)];simp only[List.getElem_drop,lh,List.getElem_map,List.getElem_range,azb,List.length_take,aze,List.length_range,List.length_singleton];rw[azf (by omega)];congr 3;omega
end
section
variable{P:Program}{τ:Nat->AV}{η:bm}{d:Option Tmp}{ty:TypeId}{pos:String}{af:Array Edge}{g:Option (Nat×Bool)}
theorem nt{id:Nat}(ht:ey P t=some none)(hx:aev τ x=.ptr id ver i)(hb:η id=some ⟨ver,lh n F,1,false⟩)(hi:i<n):
 LOp P ⟨d,.load t x,ty,pos,af,g⟩ τ η [id] [] (.v (.bool (F i))):=lD ht hx hb rfl rfl (Y0 hi)
theorem eh{id:Nat}(hs:aj P t=some 1)(hx:aev τ x=.ptr id ver i)(hb:η id=some ⟨ver,lh n F,1,false⟩)(hy:aev τ y=.v (.bool b))(hi:i<n):
 LOp P ⟨d,.store t x y,ty,pos,af,g⟩ τ η [id] [(id,some ⟨ver,lh n (fun k=>if k=i then b else F k),1,false⟩)] (.v undef):=by
 have:=LOp.store (P:=P) (τ:=τ) (η:=η) (d:=d) (ty:=ty) (pos:=pos) (af:=af) (g:=g) (b:=⟨ver,lh n F,1,false⟩) (y:=y) hs hx hb rfl rfl (by rw[hy];rfl) (by rw[hy];rfl) (by rw[hy];rfl) (by rw[Dw];exact hi)
 have e:bn (lh n F) i (aev τ y).cells=lh n (fun k=>if k=i then b else F k):=by rw[hy];exact Yz hi
 simp only[e]at this
 exact this
theorem c7{id:Nat}{v:Int}(he:P.underlying t=some (.slice e))(hs:aj P e=some 1)(hx:aev τ x=.sl id ver 0 n)(hi:aev τ y=.v (.int .i64 v))(hv:v=((i:Nat):Int))(hj:i<n)(hb:η id=some ⟨ver,lh n F,1,false⟩):
 LOp P ⟨d,.indexAddr t x y,ty,pos,af,g⟩ τ η [id] [] (.ptr id ver i):=by
 subst hv
 have:=xm (P:=P) (τ:=τ) (η:=η) (d:=d) (ty:=ty) (pos:=pos) (af:=af) (g:=g) (j:=i) he hs hx hi hj hb rfl rfl rfl
 rwa [Nat.zero_add,Nat.mul_one]at this
theorem N0 :dk (.bool false) (n*1)=lh n (fun _=>false):=by
 unfold dk lh;rw[Nat.mul_one];refine List.map_congr_left fun i _=>have h0:(Value.bool false).cells=#[.bool false]:=rfl;have e:i%(Value.bool false).cells.size=0:=(by rw[h0];exact Nat.mod_one i);?_
 rw[e,h0];rfl
theorem wd(u:Nat){len:Nat}{v:Int}(he:P.underlying t=some (.slice e))(hs:aj P e=some 1)(hz:bp P e=some (.bool false))(h1:(P.info? e).map (·.bytes)=some 1)
 (hx:aev τ x=.v (.int .i64 v))(hy:aev τ y=.v (.int .i64 v))(hv:v=((len:Nat):Int))(hl:len<=140737488355328)(h0:len≠0):
 LOp P ⟨d,.makeSlice t x y,ty,pos,af,g⟩ τ η [] [(u,some ⟨0,lh len (fun _=>false),1,false⟩)] (.sl u 0 0 len):=by
 rw[<-N0]
 subst hv
 intro C a hg h6 _ h2 K Q hK
 have hu:¬C.U u:=h2 (u,some ⟨0,dk (.bool false) (len*1),1,false⟩) (by simp) (by simp)
 have e1:=h6 x (by simp[Op.operands])
 have e2:=h6 y (by simp[Op.operands])
 rw[hx]at e1
 rw[hy]at e2
 unfold aj at hs
 unfold bp at hz
 cases hi:P.info? e with
 |none=>rw[hi]at hz;cases hz
 |some inf=>
  rw[hi]at hz hs h1
  simp only[az6]at hz
  simp only[az5,aza]at hs h1
  let es:Array Value:=(Array.range (len*inf.size)).map fun i=>(Value.bool false).cells[i%(Value.bool false).cells.size]!
  have z1:(dk (.bool false) (len*inf.size)).length=es.size:=by simp[dk,es]
  have z2:∀i (h:i<(dk (.bool false) (len*inf.size)).length) (h':i<es.size),VR C (dk (.bool false) (len*inf.size))[i] es[i]:=fun i h h'=>by simp only[dk,List.getElem_map,List.getElem_range,es,Array.getElem_map,Array.getElem_range];exact VR.v C _
  have gsz:es.size=len*inf.size:=by simp[es]
  have h5:(execOp a.eval ⟨d,.makeSlice t x y,ty,pos,af,g⟩).run P C.w=.ok (.value (.slice (some ⟨C.w.heap.size,0,none⟩) len len)) (C.w.alloc (.cells es e)):=by
   have h0:¬(len*inf.size=0):=by rw[hs,Nat.mul_one];exact h0
   have hw:IntKind.i64.wrap (Int.ofNat len)=Int.ofNat len:=IntWalk.i64_in _ (by constructor<;>simp<;>omega);have c1:¬(((inf.bytes:Int)*Int.ofNat len>2^48)):=by have:(inf.bytes:Int)*Int.ofNat len=((inf.bytes*len:Nat):Int):=(by simp);rw[this,h1];omega
   have c2:¬((Int.ofNat len:Int)<0):=by simp
   have e1':a.eval x=.int .i64 (Int.ofNat len):=e1.v_inv;have e2':a.eval y=.int .i64 (Int.ofNat len):=e2.v_inv
   simp only[execOp,e1',e2',Instr.makeSlice,Sem.run_bind,run_underlying he,azq,asInt,typeInfo,run_program,hi,azr];have a1:∀w:World,(asIntOf (Value.int IntKind.i64 (Int.ofNat len))).run P w=.ok (IntKind.i64,Int.ofNat len) w:=fun w=>rfl
   simp only[a1,azq,hw];have cc:(decide ((Int.ofNat len:Int)<0)||decide ((inf.bytes:Int)*Int.ofNat len>2^48)||decide ((Int.ofNat len:Int)<0)||decide ((Int.ofNat len:Int)>Int.ofNat len))=false:=by simp only[Bool.or_eq_false_iff,decide_eq_false_iff_not];exact⟨⟨⟨c2,c1⟩,c2⟩,Int.lt_irrefl _⟩
   rw[azf (by rw[cc];exact az7)];have tn:(Int.ofNat len).toNat=len:=rfl
   simp only[tn,Sem.run_bind];have ar:∀w:World,(askRoom (len*inf.bytes)).run P w=.ok () w:=fun w=>by unfold askRoom;split<;>rfl
   simp only[ar,azq,sizeOf,typeInfo,Sem.run_bind,run_program,hi,azr];rw[azf h0];simp only[Sem.run_bind,zeroValue,typeInfo,run_program,hi,azr,azq,hz];rfl
  have h7:(1:Nat)=inf.size:=hs.symm
  rw[h7]at hK
  unfold Oper.wp
  rw[h5]
  refine hK _ (C.alloc u es e ⟨0,dk (.bool false) (len*inf.size),inf.size,false⟩) rfl (fun i=>by simp[Ctx.alloc]) (jl hg hu rfl (Nat.le_of_eq z1) z2) (jx hg hu rfl) ?_
  have h3:(C.alloc u es e ⟨0,dk (.bool false) (len*inf.size),inf.size,false⟩).ρ u=(C.w.heap.size,0):=by simp[Ctx.alloc]
  have h4:(C.alloc u es e ⟨0,dk (.bool false) (len*inf.size),inf.size,false⟩).sz u=es.size:=by simp[Ctx.alloc]
  have:=VR.sl (C:=C.alloc u es e ⟨0,dk (.bool false) (len*inf.size),inf.size,false⟩) (id:=u) (ver:=0) (off:=0) (len:=len) (cap:=len) (b:=⟨0,dk (.bool false) (len*inf.size),inf.size,false⟩) (aw _ _ _) rfl rfl (azm _) (by unfold maxLen;omega) (by omega)
   (by rw[h3,h4,gsz];simp)
  rw[h3]at this
  exact this
end
end Go.Proofs.YtfpfdfhlljjckaaGreatDoor
