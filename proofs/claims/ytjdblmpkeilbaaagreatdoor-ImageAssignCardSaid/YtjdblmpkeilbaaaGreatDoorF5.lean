/- Texts of the claim. -/
import Derived.Shelf.SlicesE.Clone
import Derived.Test.YtjdblmpkeilbaaaGreatDoorF4
import Derived.Test.YtjdblmpkeilbaaaGreatDoorQ2
namespace Go.Proofs.YtjdblmpkeilbaaaGreatDoor
set_option linter.unusedVariables false
set_option linter.unusedSimpArgs false
open Go.RowKit
def w64 (x:Int):Int:=IntKind.i64.wrap x
theorem w64_wr (x:Int):wr 1 x=w64 x:=by simp [wr,w64]
theorem w64_in {x:Int} (h:-9223372036854775808≤x∧x≤9223372036854775807):w64 x=x:=by unfold w64; rw [IntKind.wrap_i64]; omega
theorem w64_rng (x:Int):-9223372036854775808≤w64 x∧w64 x≤9223372036854775807:=by unfold w64; rw [IntKind.wrap_i64]; omega
theorem w64_ex (x:Int):∃ k,w64 x=x+k * 18446744073709551616:=by
 unfold w64; rw [IntKind.wrap_i64]
 refine ⟨-((x+9223372036854775808) / 18446744073709551616),?_⟩
 omega
theorem w64_add (x k:Int):w64 (x+k * 18446744073709551616)=w64 x:=by unfold w64; rw [IntKind.wrap_i64,IntKind.wrap_i64]; omega
theorem w64_cg {x y k:Int} (h:x=y+k * 18446744073709551616):w64 x=w64 y:=by rw [h,w64_add]
theorem w64_eq {x y:Int} (h:w64 x=w64 y):∃ k,x=y+k * 18446744073709551616:=by
 obtain ⟨k,hk⟩:=w64_ex x
 obtain ⟨m,hm⟩:=w64_ex y
 exact ⟨m - k,by omega⟩
def arithW (op a b:Int):Int:=if op=4 then w64 (a+b) else if op=5 then w64 (a - b) else if op=6 then w64 (a * b) else if op=7 then a.fdiv b else w64 (a - w64 (b * a.fdiv b))
def opW (op:Int):List GVal→GVal
 | []=>zV
 | a :: rest=>if a.kind_=0 then zV else if op=3 then iV (w64 (-a.int_)) else if op=9 then iV ((a.text_.size:Nat):Int) else
  match rest with
  | []=>zV
  | b :: _=>if b.kind_=0 then zV else iV (arithW op a.int_ b.int_)
mutual
/-- The wrapped value of an expression. -/
def vW (R:Int→GVal):List AV→GVal
 | [.v (.int _ op),.v _,.v _,.v (.int _ ix),.v (.int _ k),.v (.int _ i),.v (.string s),.tree _ es]=>if op=1 then ⟨k,i,s⟩ else if op=2 then R ix else opW op (vsW R es)
 | _=>zV
def vsW (R:Int→GVal):List (List AV)→List GVal
 | []=>[]
 | r :: rs=>vW R r :: vsW R rs
end
theorem vW_ex (R:Int→GVal) (x:GEx):vW R (exA x)=if x.op_=1 then x.value_ else if x.op_=2 then R x.index_ else opW x.op_ (vsW R x.args_):=by
 simp only [exA,vW,map_rw]
def I64 (n:Int):Prop:=-9223372036854775808≤n∧n≤9223372036854775807
/-- An expression that can be evaluated on any row of this length. -/
inductive EvW (r:List GVal):List AV→Prop
 | val (x:GEx) (h:x.op_=1):EvW r (exA x)
 | col (x:GEx) (h:x.op_=2) (j:Nat) (hj:j < r.length) (e:x.index_=((j:Nat):Int)):EvW r (exA x)
 | len (x:GEx) (a:List AV) (h:x.op_=9) (ha:x.args_=[a]) (he:EvW r a):EvW r (exA x)
 | neg (x:GEx) (a:List AV) (h:x.op_=3) (ha:x.args_=[a]) (he:EvW r a):EvW r (exA x)
 | bin (x:GEx) (a b:List AV) (h:4≤x.op_∧x.op_≤8) (ha:x.args_=[a,b]) (he:EvW r a) (hf:EvW r b) (hv:(vW (rowF r) a).kind_≠0→(vW (rowF r) b).kind_≠0→7≤x.op_→I64 (vW (rowF r) a).int_∧1≤(vW (rowF r) b).int_∧(vW (rowF r) b).int_≤1000):EvW r (exA x)
/-- A row of any values. -/
def RowW (l:List PVar) (r:List GVal):Prop:=r.length=l.length∧∀ v∈r,I64 v.int_∧v.text_.size≤140737488355328
def rhoW (r:List GVal) (k v:Int):Int:=if k=0 then (rowF r v).int_ else if k=1 then ((rowF r v).text_.size:Nat) else 1
def NVW (v:GVal) (n:Int):Prop:=v.kind_=0∨v.int_=w64 n
theorem b60_c {t:GTm} (h:B60 t) (hp:t.parts_=[]):I64 t.const_:=by
 have:=h (fun _ _=>0) (fun v=>⟨fun k=>⟨by simp,by simp⟩,by simp,by simp,rfl⟩)
 rw [tvL_tm,hp] at this
 simp only [sumP] at this
 unfold I64; omega
theorem fdiv_64 {a b:Int} (ha:I64 a) (hb:1≤b):I64 (a.fdiv b):=by
 have:=fdiv_rng (m:=9223372036854775808) hb (by decide) (a:=a) (by unfold I64 at ha; omega)
 have h2:a.fdiv b≤9223372036854775807:=by
  rw [Int.fdiv_eq_ediv_of_nonneg _ (by omega)]
  by_cases h:0≤a
  ·have:=Int.ediv_le_self b h; unfold I64 at ha; omega
  ·have:a / b < 0:=Int.ediv_neg_of_neg_of_pos (by omega) (by omega)
   omega
 unfold I64; omega
theorem nvw_neg {a:GVal} {n:Int} (h:NVW a n):NVW (opW 3 [a]) (-1 * n):=by
 rcases h with h | e
 ·exact .inl (by simp [opW,h,zV])
 ·by_cases h0:a.kind_=0
  ·exact .inl (by simp [opW,h0,zV])
  ·right
   simp only [opW,if_neg h0,if_true,iV,e]
   obtain ⟨k,hk⟩:=w64_ex n
   exact w64_cg (k:=-k) (by rw [hk]; omega)
theorem w_mul {a b m n:Int} (ha:a=w64 m) (hb:b=w64 n):w64 (a * b)=w64 (m * n):=by
 obtain ⟨k,hk⟩:=w64_ex m
 obtain ⟨q,hq⟩:=w64_ex n
 refine w64_cg (k:=k * n+m * q+k * q * 18446744073709551616) ?_
 rw [ha,hb,hk,hq]
 grind
theorem nvw_bin {op:Int} {a b:GVal} {s t u:GTm} {ρ:Int→Int→Int} (hm:ρ 2 0=1) (h1:4≤op∧op≤8) (hu:BinOk op s t u) (ha:NVW a (tvL ρ (tmA s))) (hb:NVW b (tvL ρ (tmA t))):NVW (opW op [a,b]) (tvL ρ (tmA u))∧(a.kind_≠0→b.kind_≠0→7≤op→I64 a.int_∧1≤b.int_∧b.int_≤1000):=by
 by_cases ha0:a.kind_=0
 ·exact ⟨.inl (by simp [opW,ha0,zV]),fun h=>absurd ha0 h⟩
 by_cases hb0:b.kind_=0
 ·exact ⟨.inl (by simp only [opW]; rw [if_neg ha0,if_neg (by omega),if_neg (by omega),if_pos hb0]; rfl),fun _ h=>absurd hb0 h⟩
 have ea:a.int_=w64 (tvL ρ (tmA s)):=ha.resolve_left ha0
 have eb:b.int_=w64 (tvL ρ (tmA t)):=hb.resolve_left hb0
 have hd:7≤op→I64 a.int_∧1≤b.int_∧b.int_≤1000∧b.int_=t.const_:=fun h7=>by
  have hd:=hu.dv (by omega)
  have hc:tvL ρ (tmA t)=t.const_:=tv_const (by rw [hd.1]; simp) _
  rw [hc,w64_in (by omega)] at eb
  exact ⟨by rw [ea]; exact w64_rng _,by omega,by omega,eb⟩
 refine ⟨.inr ?_,fun _ _ h7=>⟨(hd h7).1,(hd h7).2.1,(hd h7).2.2.1⟩⟩
 simp only [opW]
 rw [if_neg ha0,if_neg (by omega),if_neg (by omega),if_neg hb0]
 show arithW op a.int_ b.int_=_
 have hwr:∀ z,wr (ρ 2 0) z=w64 z:=fun z=>by rw [hm,w64_wr]
 obtain ⟨i,hi⟩:=w64_ex (tvL ρ (tmA s))
 obtain ⟨j,hj⟩:=w64_ex (tvL ρ (tmA t))
 unfold arithW
 split
 ·rename_i o; rw [hu.add o,ea,eb]; exact w64_cg (k:=i+j) (by rw [hi,hj]; omega)
 ·split
  ·rename_i o; rw [hu.sub o,ea,eb]; exact w64_cg (k:=i - j) (by rw [hi,hj]; omega)
  ·split
   ·rename_i o; rw [hu.mul o]; exact w_mul ea eb
   ·obtain ⟨h1a,h1b,h1c,h1d⟩:=hd (by omega)
    split
    ·rename_i o
     have:=hu.quo o ρ
     rw [hwr,hwr,hwr] at this
     rw [this,← ea,← h1d,w64_in (fdiv_64 h1a h1b)]
    ·obtain ⟨q,hq,he⟩:=hu.md (by omega) ρ
     rw [hwr,hwr,hwr,← ea,← h1d] at hq
     rw [he,← h1d]
     obtain ⟨k,hk⟩:=w64_eq hq
     obtain ⟨p,hp⟩:=w64_ex (b.int_ * a.int_.fdiv b.int_)
     refine w64_cg (k:=i - p+b.int_ * k) ?_
     rw [hp,hk]
     have e1:a.int_=tvL ρ (tmA s)+i * 18446744073709551616:=ea.trans hi
     generalize a.int_.fdiv b.int_=F at *
     rw [e1]
     grind
/-- The wrapped value of an expression is that of its term; and the expression can be evaluated. -/
theorem semW {l:List PVar} {r:List GVal} (hr:RowW l r) {e:List AV} {t:GTm} (h:OfR e t) (hi:IntE l e):NVW (vW (rowF r) e) (tvL (rhoW r) (tmA t))∧EvW r e:=by
 induction h with
 | len x t h h6=>
  have h6':=b60_c h6
  obtain ⟨h9,a,ha,haa,h⟩:=h
  have e1:vW (rowF r) (exA x)=opW 9 [vW (rowF r) (exA a)]:=by
   rw [vW_ex,if_neg (by omega),if_neg (by omega),h9,ha]; simp only [vsW]
  rw [e1]
  rcases h with ⟨h1,h2,h3⟩ | ⟨h1,h2,h3⟩
  ·refine ⟨.inr ?_,.len x _ h9 ha (.val a h1)⟩
   rw [vW_ex,if_pos h1,h3,tvL_tm]
   have:=h6' (by rw [h3])
   rw [h3] at this
   simp [opW,h2,iV,sumP]
   exact (w64_in this).symm
  ·rcases intE_open hi with g | g | ⟨_,a',g1,g2,g⟩ | g | g
   ·omega
   ·omega
   ·rw [ha] at g1
    have ea:a'=a:=(exA_inj (by simpa using g1)).symm
    subst ea
    rcases g with g | g
    ·obtain ⟨_,⟨_,j,hj,e2,e3⟩ | g⟩:=textE_open g
     ·have hjr:j < r.length:=by have:=hr.1; omega
      refine ⟨?_,.len x _ h9 ha (.col a' h1 j hjr e2)⟩
      have hv:vW (rowF r) (exA a')=r[j]:=by rw [vW_ex,if_neg (by omega),if_pos h1,e2,rowF_at hjr]
      rw [hv,h3,tvL_tm]
      by_cases hk:r[j].kind_=0
      ·exact .inl (by simp [opW,hk,zV])
      ·right
       have:=(hr.2 _ (List.getElem_mem hjr)).2
       simp [opW,hk,iV,colT,sumP,valP,keyV,rhoW,e2,rowF_at hjr]
       exact (w64_in (by omega)).symm
     ·omega
    ·omega
   ·omega
   ·omega
 | lit x h ha hk h6=>
  refine ⟨.inr ?_,.val x h⟩
  rw [vW_ex,if_pos h,tvL_tm]
  have:=b60_c h6 rfl
  simp only [sumP,Int.add_zero]
  exact (w64_in this).symm
 | col x h ha hi' h6=>
  rcases intE_open hi with g | ⟨_,_,j,hj,e2,e3⟩ | g | g | g
  ·omega
  ·have hjr:j < r.length:=by have:=hr.1; omega
   refine ⟨?_,.col x h j hjr e2⟩
   rw [vW_ex,if_neg (by omega),if_pos h,e2,rowF_at hjr,tvL_tm]
   right
   have:=(hr.2 _ (List.getElem_mem hjr)).1
   simp [colT,sumP,valP,keyV,rhoW,rowF_at hjr]
   exact (w64_in this).symm
  ·omega
  ·omega
  ·omega
 | neg x r' s t h ha hr' ht h6 ih=>
  rcases intE_open hi with g | g | g | ⟨_,_,g⟩ | g
  ·omega
  ·omega
  ·omega
  ·have:=ih (g r' (by rw [ha]; simp))
   refine ⟨?_,.neg x r' h ha this.2⟩
   rw [vW_ex,if_neg (by omega),if_neg (by omega),h,ha,ht]
   simp only [vsW]
   exact nvw_neg this.1
  ·omega
 | bin x r' q a b t h ha hr' hq ht iha ihb=>
  rcases intE_open hi with g | g | g | g | ⟨_,_,g⟩
  ·omega
  ·omega
  ·omega
  ·omega
  ·have g1:=iha (g r' (by rw [ha]; simp))
   have g2:=ihb (g q (by rw [ha]; simp))
   have e:=nvw_bin (ρ:=rhoW r) rfl h ht g1.1 g2.1
   refine ⟨?_,.bin x r' q h ha g1.2 g2.2 e.2⟩
   rw [vW_ex,if_neg (by omega),if_neg (by omega),ha]
   simp only [vsW]
   exact e.1
section
variable {l:List PVar} {r:List GVal}
theorem evW_text (hr:RowW l r) {x:GEx} (h:TextE l (exA x)):EvW r (exA x):=by
 obtain ⟨_,⟨h1,j,hj,e,_⟩ | ⟨h1,_⟩⟩:=textE_open h
 ·exact .col x h1 j (by have:=hr.1; omega) e
 ·exact .val x h1
theorem evW_len (hr:RowW l r) {x a:GEx} (h9:x.op_=9) (ha:x.args_=[exA a]) (h:TextE l (exA a)∨(a.op_=1∧a.value_.kind_=0)):EvW r (exA x):=by
 refine .len x _ h9 ha ?_
 rcases h with h | h
 ·exact evW_text hr h
 ·exact .val a h.1
theorem opW_null {op:Int} {a:GVal} {L:List GVal} (h:a.kind_=0):(opW op (a :: L)).kind_=0:=by simp [opW,h,zV]
theorem opW_null2 {op:Int} {a b:GVal} {L:List GVal} (ho:4≤op∧op≤8) (h:b.kind_=0):(opW op (a :: b :: L)).kind_=0:=by
 simp only [opW]
 by_cases ha:a.kind_=0
 ·rw [if_pos ha]; rfl
 ·rw [if_neg ha,if_neg (by omega),if_neg (by omega),if_pos h]; rfl
theorem null_intW {e:List AV} (h:IntE l e) (hn:HasN e):(vW (rowF r) e).kind_=0:=by
 induction h with
 | lit x h ha hk _=>
  rw [vW_ex,if_pos h]
  rcases hasN_open.1 hn with g | ⟨q,hq,_⟩
  ·exact g.2
  ·rw [ha] at hq; exact absurd hq (by simp)
 | col x h ha hj=>
  rcases hasN_open.1 hn with g | ⟨q,hq,_⟩
  ·omega
  ·rw [ha] at hq; exact absurd hq (by simp)
 | len x a h ha haa ht=>
  rcases hasN_open.1 hn with g | ⟨q,hq,hq2⟩
  ·omega
  ·rw [ha,List.mem_singleton] at hq
   subst hq
   rcases hasN_open.1 hq2 with g | ⟨q,hq,_⟩
   ·have e:vW (rowF r) (exA a)=a.value_:=by rw [vW_ex,if_pos g.1]
    rw [vW_ex,if_neg (by omega),if_neg (by omega),ha]
    simp only [vsW]
    exact opW_null (by rw [e]; exact g.2)
   ·rw [haa] at hq; exact absurd hq (by simp)
 | neg x h ha hs ih=>
  rcases hasN_open.1 hn with g | ⟨q,hq,hq2⟩
  ·omega
  ·obtain ⟨c,hc⟩:∃ c,x.args_=[c]:=List.length_eq_one_iff.1 ha
   rw [hc,List.mem_singleton] at hq; subst hq
   have e:=ih _ (by rw [hc]; simp) hq2
   rw [vW_ex,if_neg (by omega),if_neg (by omega),hc]
   simp only [vsW]
   exact opW_null e
 | bin x h ha hs ih=>
  rcases hasN_open.1 hn with g | ⟨q,hq,hq2⟩
  ·omega
  ·obtain ⟨a,b,hc⟩:∃ a b,x.args_=[a,b]:=⟨_,_,two_list ha⟩
   have e:=ih _ hq hq2
   rw [hc] at hq
   rw [vW_ex,if_neg (by omega),if_neg (by omega),hc]
   simp only [vsW]
   rcases List.mem_cons.1 hq with rfl | hq
   ·exact opW_null e
   ·rw [List.mem_singleton] at hq; subst hq
    exact opW_null2 h e
theorem evW_of (hr:RowW l r) {e:List AV} (hi:IntE l e):∀ d,FitE d e→EvW r e:=by
 induction hi with
 | lit x h ha hk _=>intro d _; exact .val x h
 | col x h ha hj=>intro d _; obtain ⟨j,hj,e,_⟩:=hj; exact .col x h j (by have:=hr.1; omega) e
 | len x a h ha haa ht=>intro d _; exact evW_len hr h ha ht
 | neg x h ha hs ih=>
  intro d hf
  generalize e:exA x=q at hf
  cases hf with
  | tm d q t hn ho=>subst e; exact (semW hr ho.1 (.neg x h ha hs)).2
  | nul d y hn h' hc=>
   have:=exA_inj e; subst this
   obtain ⟨c,hc1⟩:∃ c,x.args_=[c]:=List.length_eq_one_iff.1 ha
   have hm:c∈x.args_:=by rw [hc1]; simp
   exact .neg x c h hc1 (ih c hm d (hc (by omega) c hm))
 | bin x h ha hs ih=>
  intro d hf
  generalize e:exA x=q at hf
  cases hf with
  | tm d q t hn ho=>subst e; exact (semW hr ho.1 (.bin x h ha hs)).2
  | nul d y hn h' hc=>
   have:=exA_inj e; subst this
   obtain ⟨a,b,hc1⟩:∃ a b,x.args_=[a,b]:=⟨_,_,two_list ha⟩
   have hm:a∈x.args_:=by rw [hc1]; simp
   have hm2:b∈x.args_:=by rw [hc1]; simp
   refine .bin x a b h hc1 (ih a hm d (hc (by omega) a hm)) (ih b hm2 d (hc (by omega) b hm2)) (fun hk hk2=>?_)
   exfalso
   rcases hasN_open.1 hn with g | ⟨q,hq,hq2⟩
   ·omega
   ·rw [hc1] at hq
    rcases List.mem_cons.1 hq with rfl | hq
    ·exact hk (null_intW (hs _ hm) hq2)
    ·rw [List.mem_singleton] at hq; subst hq; exact hk2 (null_intW (hs _ hm2) hq2)
/-- A valid operand can be evaluated on any row. -/
theorem evW_op (hr:RowW l r) {e:List AV} {d:Nat} (h:OpE l d e) (he:IsEx e):EvW r e:=by
 rcases h with ⟨x,rfl,h1,_⟩ | h | ⟨h1,h2⟩
 ·exact .val x h1
 ·obtain ⟨x,rfl,_⟩:=he.open_
  exact evW_text hr h.1
 ·exact evW_of hr h1 d h2
theorem arithW_eq {op a b:Int} (ho:4≤op∧op≤8) (ha:Rg a) (hb:Rg b) (h:Rg (arith op a b)):arithW op a b=arith op a b:=by
 unfold Rg at ha hb h
 unfold arith at h ⊢
 unfold arithW
 split
 ·rename_i o; rw [if_pos o] at h; exact w64_in (by omega)
 ·rename_i o; rw [if_neg o] at h
  split
  ·rename_i o; rw [if_pos o] at h; exact w64_in (by omega)
  ·rename_i o; rw [if_neg o] at h
   split
   ·rename_i o; rw [if_pos o] at h; exact w64_in (by omega)
   ·rename_i o; rw [if_neg o] at h
    split
    ·rfl
    ·rename_i o; rw [if_neg o] at h
     rw [w64_in (x:=b * a.fdiv b) (by omega),w64_in (by omega)]
/-- Where nothing leaves the range, wrapping changes nothing. -/
theorem vW_vS {e:List AV} (h:EvR r e):vW (rowF r) e=vS (rowF r) e:=by
 induction h with
 | val x h=>rw [vW_ex,vS_ex,if_pos h,if_pos h]
 | col x h j hj e=>
  have n1:¬ x.op_=1:=by omega
  rw [vW_ex,vS_ex,if_neg n1,if_neg n1,if_pos h,if_pos h]
 | len x a h ha he ih=>
  have n1:¬ x.op_=1:=by omega
  have n2:¬ x.op_=2:=by omega
  have n3:¬ x.op_=3:=by omega
  rw [vW_ex,vS_ex,if_neg n1,if_neg n1,if_neg n2,if_neg n2,ha]
  simp only [vsW,vsS,ih,opW,opS,if_neg n3,if_pos h]
 | neg x a h ha he hv ih=>
  have n1:¬ x.op_=1:=by omega
  have n2:¬ x.op_=2:=by omega
  rw [vW_ex,vS_ex,if_neg n1,if_neg n1,if_neg n2,if_neg n2,ha]
  simp only [vsW,vsS,ih,opW,opS,if_pos h]
  by_cases h0:(vS (rowF r) a).kind_=0
  ·rw [if_pos h0,if_pos h0]
  ·have:=hv h0
   unfold Rg at this
   rw [if_neg h0,if_neg h0,w64_in (by omega)]
 | bin x a b h ha he hf hv iha ihb=>
  have n1:¬ x.op_=1:=by omega
  have n2:¬ x.op_=2:=by omega
  have n3:¬ x.op_=3:=by omega
  have n9:¬ x.op_=9:=by omega
  rw [vW_ex,vS_ex,if_neg n1,if_neg n1,if_neg n2,if_neg n2,ha]
  simp only [vsW,vsS,iha,ihb,opW,opS,if_neg n3,if_neg n9]
  by_cases h0:(vS (rowF r) a).kind_=0
  ·rw [if_pos h0,if_pos h0]
  ·by_cases h1:(vS (rowF r) b).kind_=0
   ·rw [if_pos h1,if_pos h1]
   ·obtain ⟨g1,g2,g3,_⟩:=hv h0 h1
    rw [if_neg h1,if_neg h1,arithW_eq h g1 g2 g3]
end
end Go.Proofs.YtjdblmpkeilbaaaGreatDoor
namespace Go.Proofs.YtjdblmpkeilbaaaGreatDoor
set_option linter.unusedVariables false
set_option linter.unusedSimpArgs false
open Go.RowKit
theorem flE {a b:Int} (hb:1≤b):(a.tmod b < 0→a.tdiv b - 1=a.fdiv b)∧(¬ a.tmod b < 0→a.tdiv b=a.fdiv b):=by
 have hf:=tdiv_fdiv (a:=a) hb
 have h1:=Int.tmod_add_mul_tdiv a b
 have h4:b * a.tdiv b=a.tdiv b * b:=Int.mul_comm _ _
 refine ⟨fun h=>?_,fun h=>?_⟩
 ·rw [← hf,if_pos (by omega)]
 rw [← hf,if_neg (by omega)]
section
variable {P:Program} {τ:Nat→AV} {η:Heap} {d:Option Tmp} {ty:TypeId} {pos:String} {af:Array Edge} {g:Option (Nat×Bool)}
theorem LOp.addW {t t':Nat} {x y:Operand} {m n:Int} (hx:aev τ x=.v (.int .i64 m)) (hy:aev τ y=.v (.int .i64 n)) :
  LOp P ⟨d,.binOp .add t x y t',ty,pos,af,g⟩ τ η [] [] (.v (.int .i64 (w64 (m+n)))) :=
 .look [] fun C a _ hxs _=>by
  have e1:=hxs x (by simp [Op.operands])
  have e2:=hxs y (by simp [Op.operands])
  rw [hx] at e1
  rw [hy] at e2
  refine ⟨.int .i64 (IntKind.i64.wrap (m+n)),?_,VR.v C _⟩
  simp only [execOp,e1.v_inv,e2.v_inv]
  rfl
theorem LOp.subW {t t':Nat} {x y:Operand} {m n:Int} (hx:aev τ x=.v (.int .i64 m)) (hy:aev τ y=.v (.int .i64 n)) :
  LOp P ⟨d,.binOp .sub t x y t',ty,pos,af,g⟩ τ η [] [] (.v (.int .i64 (w64 (m - n)))) :=
 .look [] fun C a _ hxs _=>by
  have e1:=hxs x (by simp [Op.operands])
  have e2:=hxs y (by simp [Op.operands])
  rw [hx] at e1
  rw [hy] at e2
  refine ⟨.int .i64 (IntKind.i64.wrap (m - n)),?_,VR.v C _⟩
  simp only [execOp,e1.v_inv,e2.v_inv]
  rfl
theorem LOp.mulW {t t':Nat} {x y:Operand} {m n:Int} (hx:aev τ x=.v (.int .i64 m)) (hy:aev τ y=.v (.int .i64 n)) :
  LOp P ⟨d,.binOp .mul t x y t',ty,pos,af,g⟩ τ η [] [] (.v (.int .i64 (w64 (m * n)))) :=
 .look [] fun C a _ hxs _=>by
  have e1:=hxs x (by simp [Op.operands])
  have e2:=hxs y (by simp [Op.operands])
  rw [hx] at e1
  rw [hy] at e2
  refine ⟨.int .i64 (IntKind.i64.wrap (m * n)),?_,VR.v C _⟩
  simp only [execOp,e1.v_inv,e2.v_inv]
  rfl
theorem LOp.negW {t:Nat} {x:Operand} {m:Int} (hx:aev τ x=.v (.int .i64 m)) :
  LOp P ⟨d,.unOp .neg t x,ty,pos,af,g⟩ τ η [] [] (.v (.int .i64 (w64 (-m)))) :=
 .look [] fun C a _ hxs _=>by
  have e1:=hxs x (by simp [Op.operands])
  rw [hx] at e1
  refine ⟨.int .i64 (IntKind.i64.wrap (-m)),?_,VR.v C _⟩
  simp only [execOp,e1.v_inv]
  simp [Op.unary,Op.intArith]
end
/-- What compute gives. -/
def CompR (op:Int) (v:List GVal) (n:Int):Prop:=(∀ h:0 < v.length,op=3→n=w64 (-v[0].int_))∧(∀ h:0 < v.length,op=9→n=((v[0].text_.size:Nat):Int))∧(∀ h:1 < v.length,4≤op∧op≤8→n=arithW op (v[0]'(by omega)).int_ v[1].int_)
/-- What compute can be asked. -/
structure CompOk (op:Int) (v:List GVal):Prop where
 h0:0 < v.length
 two:¬ op=3→¬ op=9→(4≤op∧op≤8)∧v.length=2
 dv:∀ (h:0 < v.length) (h1:1 < v.length),7≤op→op≤8→I64 v[0].int_∧1≤v[1].int_∧v[1].int_≤1000
theorem comp_at {op:Int} {v:List GVal} {n:Int} (h:CompR op v n) (ha:(op=3∨op=9)∧v.length=1∨(4≤op∧op≤8)∧v.length=2) (hk:∀ y∈v,y.kind_≠0):iV n=opW op v:=by
 rcases ha with ⟨ho,hl⟩ | ⟨ho,hl⟩
 ·match v,hl with
  | [a],_=>
   have hka:¬ a.kind_=0:=hk a (by simp)
   rcases ho with e | e
   ·have:=h.1 (by simp) e; simp only [opW]; rw [if_neg hka,if_pos e,this]; rfl
   ·have:=h.2.1 (by simp) e; simp only [opW]; rw [if_neg hka,if_neg (by omega),if_pos e,this]; rfl
 match v,hl with
 | [a,b],_=>
  have hka:¬ a.kind_=0:=hk a (by simp)
  have hkb:¬ b.kind_=0:=hk b (by simp)
  have:=h.2.2 (by simp) ho
  simp only [opW]; rw [if_neg hka,if_neg (by omega),if_neg (by omega),if_neg hkb,this]; rfl
theorem vsW_len (R:Int→GVal):∀ l:List (List AV),(vsW R l).length=l.length
 | []=>by simp [vsW]
 | r :: rs=>by simp only [vsW,List.length_cons,vsW_len R rs]
theorem vsW_get (R:Int→GVal):∀ (l:List (List AV)) (k:Nat) (h:k < l.length),(vsW R l)[k]'(by rw [vsW_len]; exact h)=vW R l[k]
 | r :: rs,0,_=>by simp only [vsW,List.getElem_cons_zero]
 | r :: rs,k+1,h=>by simp only [vsW,List.getElem_cons_succ]; exact vsW_get R rs k (by simpa using h)
theorem vsW_next {R:Int→GVal} {l:List (List AV)} {k:Nat} (h:k < l.length) {L:List GVal} (hL:L=(vsW R l).take k):L++[vW R l[k]]=(vsW R l).take (k+1):=by
 have h2:k < (vsW R l).length:=by rw [vsW_len]; exact h
 rw [hL,List.take_add_one,List.getElem?_eq_getElem h2,vsW_get R l k h]; rfl
theorem evW_col {r:List GVal} {x:GEx} (h:EvW r (exA x)) (h2:x.op_=2):∃ j:Nat,x.index_=((j:Nat):Int)∧j < r.length:=by
 generalize e:exA x=q at h
 cases h with
 | val y h=>rw [← exA_inj e] at h; omega
 | col y h j hj e'=>rw [← exA_inj e] at e'; exact ⟨j,e',hj⟩
 | len y a h=>rw [← exA_inj e] at h; omega
 | neg y a h=>rw [← exA_inj e] at h; omega
 | bin y a b h=>rw [← exA_inj e] at h; omega
/-- The shape of an operator's expression. -/
theorem evW_shape {r:List GVal} {x:GEx} (h:EvW r (exA x)) (h1:¬ x.op_=1) (h2:¬ x.op_=2):(((x.op_=3∨x.op_=9)∧x.args_.length=1)∨((4≤x.op_∧x.op_≤8)∧x.args_.length=2))∧(∀ a∈x.args_,EvW r a)∧∀ (h0:0 < x.args_.length) (h1:1 < x.args_.length),(vW (rowF r) x.args_[0]).kind_≠0→(vW (rowF r) x.args_[1]).kind_≠0→7≤x.op_→I64 (vW (rowF r) x.args_[0]).int_∧1≤(vW (rowF r) x.args_[1]).int_∧(vW (rowF r) x.args_[1]).int_≤1000:=by
 generalize e:exA x=q at h
 cases h with
 | val y h=>rw [← exA_inj e] at h; omega
 | col y h j hj e'=>rw [← exA_inj e] at h; omega
 | len y a h ha he=>have:=exA_inj e; subst this; refine ⟨.inl ⟨.inr h,by rw [ha]; rfl⟩,fun b hb=>?_,fun _ h1=>by rw [ha] at h1; simp at h1⟩; rw [ha,List.mem_singleton] at hb; subst hb; exact he
 | neg y a h ha he=>have:=exA_inj e; subst this; refine ⟨.inl ⟨.inl h,by rw [ha]; rfl⟩,fun b hb=>?_,fun _ h1=>by rw [ha] at h1; simp at h1⟩; rw [ha,List.mem_singleton] at hb; subst hb; exact he
 | bin y a b h ha he hf hv=>
  have:=exA_inj e; subst this
  refine ⟨.inr ⟨h,by rw [ha]; rfl⟩,fun c hc=>?_,fun _ _=>by simp only [ha]; exact hv⟩
  rw [ha] at hc
  rcases List.mem_cons.1 hc with rfl | hc
  ·exact he
  ·rw [List.mem_singleton] at hc; subst hc; exact hf
theorem vW_nullk {r:List GVal} {x:GEx} (h:EvW r (exA x)) (h1:¬ x.op_=1) (h2:¬ x.op_=2) {k:Nat} (hk:k < x.args_.length) (hz:(vW (rowF r) x.args_[k]).kind_=0):zV=vW (rowF r) (exA x):=by
 rw [vW_ex,if_neg h1,if_neg h2]
 rcases (evW_shape h h1 h2).1 with ⟨_,hl⟩ | ⟨ho,hl⟩
 ·obtain ⟨c,hc⟩:∃ c,x.args_=[c]:=List.length_eq_one_iff.1 hl
  have:k=0:=by omega
  subst this
  simp only [hc,List.getElem_cons_zero] at hz
  rw [hc]; simp only [vsW,opW]; rw [if_pos hz]
 obtain ⟨a,b,hc⟩:∃ a b,x.args_=[a,b]:=⟨_,_,two_list hl⟩
 simp only [hc] at hz
 rw [hc]; simp only [vsW,opW]
 by_cases h0:(vW (rowF r) a).kind_=0
 ·rw [if_pos h0]
 have:k=0∨k=1:=by omega
 rcases this with rfl | rfl
 ·exact absurd hz h0
 rw [if_neg h0,if_neg (by omega),if_neg (by omega),if_pos (show (vW (rowF r) b).kind_=0 from hz)]
theorem compW_ok {r:List GVal} {x:GEx} (h:EvW r (exA x)) (h1:¬ x.op_=1) (h2:¬ x.op_=2) (hn:∀ y∈vsW (rowF r) x.args_,y.kind_≠0):CompOk x.op_ (vsW (rowF r) x.args_):=by
 obtain ⟨hs,_,hd⟩:=evW_shape h h1 h2
 refine ⟨by rw [vsW_len]; rcases hs with g | g <;> omega,fun h3 h9=>?_,fun g0 g1 h7 _=>?_⟩
 ·rw [vsW_len]; rcases hs with g | g
  ·omega
  exact g
 rw [vsW_len] at g0 g1
 have e0:=vsW_get (rowF r) x.args_ 0 g0
 have e1:=vsW_get (rowF r) x.args_ 1 g1
 rw [e0,e1]
 exact hd g0 g1 (by rw [← e0]; exact hn _ (List.getElem_mem _)) (by rw [← e1]; exact hn _ (List.getElem_mem _)) h7
theorem row_gvA:RowF gvA 3:=⟨fun _=>rfl,fun _=>rfl,fun _ _=>rfl,fun _ _=>rfl,fun _ _=>rfl,fun _=>rfl⟩
theorem aw4 {a b:Int}:arithW 4 a b=w64 (a+b):=rfl
theorem aw5 {a b:Int}:arithW 5 a b=w64 (a - b):=rfl
theorem aw6 {a b:Int}:arithW 6 a b=w64 (a * b):=rfl
theorem aw7 {a b:Int}:arithW 7 a b=a.fdiv b:=rfl
theorem aw8 {a b:Int}:arithW 8 a b=w64 (a - w64 (b * a.fdiv b)):=rfl
theorem by30:(Tryz.prog.info? 30).map (·.bytes)=some 32:=by kernel_rfl
theorem zr30:zeroOf Tryz.prog 30=some (.agg #[.int .i64 0,.int .i64 0,.string ⟨#[]⟩]):=by kernel_rfl
set_option maxRecDepth 100000 in
set_option maxHeartbeats 4000000 in
theorem floorE_p (a:Int) (b:Int) (ha:I64 a) (hb:1≤b∧b≤1000):PRet Tryz.prog 96 [.v (.int .i64 a),.v (.int .i64 b)] (fun r=>∃ v:Int,r=.v (.int .i64 v)∧v=a.fdiv b):=by
 have hf:=flE (a:=a) hb.1
 have hz:a.tmod b < 0→-9223372036854775808≤a.tdiv b - 1∧a.tdiv b - 1≤9223372036854775807:=fun h=>by rw [hf.1 h]; exact fdiv_64 ha hb.1
 unfold I64 at ha
 refine PRet.of_vc infOk [8,11,14] [] Tryz.func96 rfl Tryz.ntmps96 rfl (by kernel_rfl) (OpG.lk (LOp.quoT rfl rfl (by omega) (by omega) (by omega)) ?_)
 refine OpG.lk (LOp.remT rfl rfl (by omega)) (cD (fun hq12=>?_) (fun hq12=>?_))
 ·exact OpG.lk (LOp.subI rfl rfl (by have:=hz (by omega); omega) (by have:=hz (by omega); omega)) (rV Tryz.results96 rfl ⟨_,rfl,hf.1 (by omega)⟩)
 exact rV Tryz.results96 rfl ⟨_,rfl,hf.2 (by omega)⟩
set_option maxRecDepth 100000 in
set_option maxHeartbeats 4000000 in
theorem computeE_p (op:Int) (v:List GVal) (hv:FitL v (fun y=>FitVal y)) (hc:CompOk op v):PRet Tryz.prog 59 [.v (.int .i64 op),.tree 3 (v.map gvA)] (fun r=>∃ n:Int,r=.v (.int .i64 n)∧CompR op v n):=by
 have h0:=hc.h0
 refine PRet.of_vc infOk [15,32,37,42,53,54] [] Tryz.func59 rfl Tryz.ntmps59 rfl (by kernel_rfl) (IdxG.of (j:=0) (by assumption) ?_)
 refine cE (fun hq12=>?_) (fun hq12=>?_)
 exact OpG.lk (LOp.negW rfl) (rV Tryz.results59 rfl ⟨_,rfl,fun _ _=>rfl,fun _ e=>by omega,fun _ e=>by omega⟩)
 refine cE (fun hq16=>?_) (fun hq16=>?_)
 ·exact IdxG.of (j:=0) (by assumption) (rV Tryz.results59 rfl ⟨_,rfl,fun _ e=>by omega,fun _ _=>rfl,fun _ e=>by omega⟩)
 obtain ⟨hop,hl2⟩:=hc.two (by assumption) (by assumption)
 have h1:1 < v.length:=by omega
 refine IdxG.of (j:=1) (by assumption) (cE (fun hq28=>?_) (fun hq28=>?_))
 exact OpG.lk (LOp.addW rfl rfl) (rV Tryz.results59 rfl ⟨_,rfl,fun _ e=>by omega,fun _ e=>by omega,fun _ _=>by rw [hq28,aw4]⟩)
 refine cE (fun hq33=>?_) (fun hq33=>?_)
 exact OpG.lk (LOp.subW rfl rfl) (rV Tryz.results59 rfl ⟨_,rfl,fun _ e=>by omega,fun _ e=>by omega,fun _ _=>by rw [hq33,aw5]⟩)
 refine cE (fun hq38=>?_) (fun hq38=>?_)
 exact OpG.lk (LOp.mulW rfl rfl) (rV Tryz.results59 rfl ⟨_,rfl,fun _ e=>by omega,fun _ e=>by omega,fun _ _=>by rw [hq38,aw6]⟩)
 refine cE (fun hq43=>?_) (fun hq43=>?_)
 ·have hd:=hc.dv h0 h1 (by omega) hop.2
  refine ArgG.mk (floorE_p v[0].int_ v[1].int_ hd.1 hd.2) rfl ?_
  rintro _ ⟨f0,rfl,hf0⟩
  exact rV Tryz.results59 rfl ⟨_,rfl,fun _ e=>by omega,fun _ e=>by omega,fun _ _=>by rw [hq43,aw7]; assumption⟩
 have hd:=hc.dv h0 h1 (by omega) hop.2
 refine ArgG.mk (floorE_p v[0].int_ v[1].int_ hd.1 hd.2) rfl ?_
 rintro _ ⟨f1,rfl,hf1⟩
 refine OpG.lk (LOp.mulW rfl rfl) (OpG.lk (LOp.subW rfl rfl) ?_)
 exact rV Tryz.results59 rfl ⟨_,rfl,fun _ e=>by omega,fun _ e=>by omega,fun _ _=>by rw [show op=8 by omega,aw8]; simp_all⟩
set_option maxRecDepth 100000 in
set_option maxHeartbeats 4000000 in
theorem valueE_w (x:GEx) (hx:FitEx x) (r:List GVal) (hr:FitL r (fun y=>FitVal y)) (hev:EvW r (exA x)) (ih:∀ e∈x.args_,EvW r e→PRet Tryz.prog 23 [.agg (rwA e),.tree 3 (r.map gvA)] (fun q=>∃ v,q=.agg (gvA v)∧v=vW (rowF r) e∧FitVal v)):PRet Tryz.prog 23 [.agg (exA x),.tree 3 (r.map gvA)] (fun q=>∃ v,q=.agg (gvA v)∧v=vW (rowF r) (exA x)∧FitVal v):=by
 refine PRet.of_vc infOk [20] [15] Tryz.func23 rfl Tryz.ntmps23 rfl (by kernel_rfl) ?_
 refine cE (fun hq11=>?_) (fun hq11=>?_)
 refine ⟨.inr rfl,_,Outs.cell Tryz.results23 row30 rfl rfl rfl rfl rfl ⟨[],FzP.pure rfl⟩,?_⟩
 exact ⟨x.value_,rfl,by rw [vW_ex,if_pos hq11],hx.value_⟩
 refine cE (fun hq15=>?_) (fun hq15=>?_)
 ·obtain ⟨j1,hje1,hjl1⟩:=evW_col hev hq15
  refine OpG.lk (LOp.indexI Tryz.underlying36 sz30 rfl rfl hje1 hjl1) ?_
  refine ⟨.inr rfl,_,Outs.cell Tryz.results23 row30 rfl rfl rfl rfl rfl ⟨[],FzP.pure rfl⟩,?_⟩
  exact ⟨_,rfl,by rw [vW_ex,if_neg hq11,if_pos hq15,hje1,rowF_at hjl1],hr.2 _ (List.getElem_mem _)⟩
 have hl2:x.args_.length≤2:=by rcases (evW_shape hev hq11 hq15).1 with h | h <;> omega
 refine LenG.of (LpG.via (fun _ h=>AWP.lazyT 5 3 rfl 3 rfl h) ?_)
 refine LpG.on (fun k1:KL GVal=>(⟨fL [(1,.tree 3 (r.map gvA)),(2,.ptr 0 0 0),(4,.ptr 1 0 0),(5,.sl 2 k1.L.length 0 k1.L.length),(23,.tree 8 (x.args_.map rwA)),(24,.v (.int .i64 ((x.args_.length:Nat):Int))),(25,.v (.int .i64 ((k1.k:Nat):Int)))],hLz [(0,⟨0,exA x,0,false⟩),(1,⟨0,[.v (.int .i64 0),.v (.int .i64 0),.v (.string ⟨#[]⟩)],0,false⟩),(2,⟨k1.L.length,rF gvA k1.L,3,Nat.beq k1.L.length 0⟩)],3⟩:St)) (fun k1=>(x.args_.length - k1.k)) (fun k1=>(k1.k≤x.args_.length∧k1.L.length=k1.k∧(∀ x∈k1.L,FitVal x)∧(k1.L=(vsW (rowF r) x.args_).take k1.k∧∀ y∈k1.L,y.kind_≠0))) (⟨0,[]⟩:KL GVal) (cO (.cons rfl rfl (.cons rfl rfl (.cons rfl rfl (.cons (by rfl) rfl (.cons rfl rfl (.cons rfl rfl (.cons rfl rfl .nil))))))) (.cons rfl rfl rfl (.cons rfl rfl rfl (.cons (by rfl) rfl (rF_low row_gvA _ _) .nil)))) ⟨Nat.zero_le _,rfl,by simp,⟨rfl,fun _ h=>absurd h (by simp)⟩⟩ ?_
 rintro k1 hinv
 have hgr_k1:x.args_.length≤140737488355328:=hx.args_.1
 obtain ⟨hle_k1,hL_k1,hf_k1,hi_k1⟩:=hinv
 refine cL (fun hlt26=>?_) (fun hge26=>?_)
 ·obtain ⟨a,he_a,ha⟩:=openAt hx k1.k (by omega)
  refine IdxG.as (j:=k1.k) (by omega) he_a (ArgG.mk (ih (exA a) (he_a ▸ List.getElem_mem _) (he_a ▸ (evW_shape hev hq11 hq15).2.1 _ (List.getElem_mem _))) rfl ?_)
  rintro _ ⟨v0,rfl,hv0,hvf0⟩
  refine cE (fun hq34=>?_) (fun hq34=>?_)
  ·refine ⟨.inr rfl,_,Outs.cell Tryz.results23 row30 rfl rfl rfl rfl rfl ⟨[],FzP.pure rfl⟩,?_⟩
   exact ⟨zV,rfl,vW_nullk hev hq11 hq15 hlt26 (by rw [he_a,← hv0]; assumption),⟨by decide⟩⟩
  refine OpG.mk _ _ _ 6 (LOp.appRow row_gvA (a:=v0) Tryz.underlying35 sz30 zr30 by30 rfl rfl rfl (Src.slB rfl rfl rfl rfl) rfl (by omega) (by omega) (by unfold TV; omega)) rfl rfl ?_
  refine ⟨by omega,?_⟩
  refine ⟨(⟨k1.k+1,k1.L++[v0]⟩:KL GVal),(by show x.args_.length - (k1.k+1) < x.args_.length - k1.k; omega),(cO (.cons rfl rfl (.cons rfl rfl (.cons rfl rfl (.cons (by (rw [List.length_append]; rfl)) rfl (.cons rfl rfl (.cons rfl rfl (.cons rfl rfl .nil))))))) (.cons rfl rfl rfl (.cons rfl rfl rfl (.cons (by (rw [List.length_append]; rfl)) rfl (rF_low row_gvA _ _) .nil)))),?_⟩
  refine ⟨by show k1.k+1≤_; omega,by show (_++[_]).length=k1.k+1; rw [List.length_append,hL_k1]; rfl,fun y_ hy_=>(List.mem_append.1 hy_).elim (hf_k1 y_) (fun hy_=>by rw [List.mem_singleton.1 hy_]; exact by assumption),?_⟩
  exact ⟨by show _++[_]=_; rw [hv0,← he_a]; exact vsW_next hlt26 hi_k1.1,fun y hy=>(List.mem_append.1 hy).elim (hi_k1.2 y) (fun hy=>by rw [List.mem_singleton.1 hy]; assumption)⟩
 have hL:k1.L=vsW (rowF r) x.args_:=by rw [hi_k1.1,List.take_of_length_le (by rw [vsW_len]; omega)]
 refine RegG.via (fun _ h=>AWP.freeze [2] 5 (.tree 3 (k1.L.map gvA)) (FzP.rows row_gvA (List.mem_singleton.2 rfl) rfl) rfl h) ?_
 refine RegG.go ?_
 refine ArgG.mk (computeE_p x.op_ k1.L ⟨by omega,hf_k1⟩ (hL ▸ compW_ok hev hq11 hq15 (hL ▸ hi_k1.2))) rfl ?_
 rintro _ ⟨n1,rfl,hn1⟩
 refine ⟨.inr rfl,_,Outs.cell Tryz.results23 row30 rfl rfl rfl rfl rfl ⟨[],FzP.pure rfl⟩,?_⟩
 exact ⟨iV _,rfl,(comp_at (hL ▸ hn1) ((evW_shape hev hq11 hq15).1.imp (fun h=>⟨h.1,by rw [vsW_len]; exact h.2⟩) (fun h=>⟨h.1,by rw [vsW_len]; exact h.2⟩)) (hL ▸ hi_k1.2)).trans (by rw [vW_ex,if_neg hq11,if_neg hq15]),⟨by show (ByteArray.mk #[]).size≤_; decide⟩⟩
theorem valueE_p (r:List GVal) (hr:FitL r (fun y=>FitVal y)) (e:List AV) (he:IsEx e):EvW r e→PRet Tryz.prog 23 [.agg (rwA e),.tree 3 (r.map gvA)] (fun q=>∃ v,q=.agg (gvA v)∧v=vW (rowF r) e∧FitVal v):=IsEx.ind (M:=fun e=>EvW r e→PRet Tryz.prog 23 [.agg (rwA e),.tree 3 (r.map gvA)] (fun q=>∃ v,q=.agg (gvA v)∧v=vW (rowF r) e∧FitVal v)) (fun x hx ih hev=>valueE_w x hx r hr hev ih) he
end Go.Proofs.YtjdblmpkeilbaaaGreatDoor
namespace Go.Proofs
open Go.Shelf
def Tryz.cloR_ren:Go.Shelf.Ren:=⟨fun | 41=>22 | n=>n,fun | 22=>36 | 23=>30 | 4=>4 | n=>n,fun | n=>n⟩
theorem Tryz.cloR:Go.Proofs.SlLaysE0.n41 Tryz.prog Tryz.cloR_ren:={
 mixed:=by kernel_rfl
 f41:=⟨Tryz.f22.name,by decide,Tryz.func22.trans (congrArg some (by kernel_rfl))⟩
 t4:=Tryz.underlying4
 a4:=Tryz.isAgg4
 z4:=Tryz.sizeOf4
 v4:=Tryz.zeroValue4
 t22:=Tryz.underlying36
 a22:=Tryz.isAgg36
 z22:=Tryz.sizeOf36
 v22:=Tryz.zeroValue36 }
end Go.Proofs
namespace Go.Proofs.YtjdblmpkeilbaaaGreatDoor
open Go.Shelf in
theorem cl_R:CloneL Tryz.prog 22 3:=⟨⟨Tryz.cloR_ren,Tryz.t30,_,_,rfl,Tryz.cloR,by kernel_rfl,rfl,rfl,rfl,rfl,Tryz.sizeOf30,by decide⟩,by decide⟩
end Go.Proofs.YtjdblmpkeilbaaaGreatDoor
namespace Go.Proofs.YtjdblmpkeilbaaaGreatDoor
set_option linter.unusedVariables false
set_option linter.unusedSimpArgs false
open Go.RowKit
structure GAsn where
 column_:ByteArray
 index_:Int
 expr_:GEx
abbrev asnA (x:GAsn):List AV:=[.v (.string x.column_),.v (.int .i64 x.index_),.v (.int .i64 x.expr_.op_),.v (.string x.expr_.table_),.v (.string x.expr_.name_),.v (.int .i64 x.expr_.index_),.v (.int .i64 x.expr_.value_.kind_),.v (.int .i64 x.expr_.value_.int_),.v (.string x.expr_.value_.text_),.tree 8 (x.expr_.args_.map rwA)]
structure FitAsn (x:GAsn):Prop where
 column_:FitS x.column_
 expr_:FitEx x.expr_
theorem setRange_row {α:Type} {f:α→List AV} {q:Nat} (hf:RowF f q) {l:List α} {k:Nat} (h:k < l.length) (v:α):setRange (rF f l) (k * q) (f v)=rF f (l.set k v):=by
 have e:l.set k v=l.take k++(v :: l.drop (k+1)):=List.set_eq_take_append_cons_drop.trans (if_pos h)
 have h1:(rF f (l.take k)).length=k * q:=rF_pre hf h
 have h2:(f v).length=q:=hf.len v
 have h3:(f l[k]).length=q:=hf.len _
 rw [e,rF_app,rF_cons,rF_at (f:=f) h]
 unfold setRange
 rw [List.take_append_of_le_length (by omega),List.take_of_length_le (by omega),← h1,List.append_assoc,List.drop_append,List.drop_append]
 have e2:(rF f (l.take k)).length+(f v).length - (rF f (l.take k)).length=q:=by omega
 simp [e2,h2,h3,List.drop_of_length_le]
theorem LOp.storeRow {P:Program} {τ:Nat→AV} {η:Heap} {d:Option Tmp} {ty:TypeId} {pos:String} {af:Array Edge} {g:Option (Nat×Bool)} {α:Type} {f:α→List AV} {q:Nat} (hf:RowF f q) {t:Nat} {x y:Operand} {id ver i:Nat} {L:List α} {v:α} (hs:sizeInfo P t=some q) (hx:aev τ x=.ptr id ver (i * q)) (hb:η id=some ⟨ver,rF f L,q,false⟩) (hy:aev τ y=.agg (f v)) (hi:i < L.length) :
  LOp P ⟨d,.store t x y,ty,pos,af,g⟩ τ η [id] [(id,some ⟨ver,rF f (L.set i v),q,false⟩)] (.v undef):=by
 have hl:=rF_len hf L
 have hm:i * q+q≤L.length * q:=by rw [← Nat.succ_mul]; exact Nat.mul_le_mul_right _ hi
 have:=LOp.store (P:=P) (τ:=τ) (η:=η) (d:=d) (ty:=ty) (pos:=pos) (af:=af) (g:=g) (b:=⟨ver,rF f L,q,false⟩) (y:=y) hs hx hb rfl rfl (by rw [hy]; rfl) (by rw [hy]; exact hf.len v) (by rw [hy]; exact hf.one v) (by show i * q+q≤(rF f L).length; rw [hl]; exact hm)
 have e:setRange (rF f L) (i * q) (aev τ y).cells=rF f (L.set i v):=by rw [hy]; exact setRange_row hf hi v
 simp only [e] at this
 exact this
theorem LOp.indexRow {P:Program} {τ:Nat→AV} {η:Heap} {d:Option Tmp} {ty:TypeId} {pos:String} {af:Array Edge} {g:Option (Nat×Bool)} {α:Type} {f:α→List AV} {q:Nat} {t e:Nat} {x y:Operand} {id ver i n:Nat} {v:Int} {L:List α} (he:P.underlying t=some (.slice e)) (hs:sizeInfo P e=some q) (hx:aev τ x=.sl id ver 0 n) (hi:aev τ y=.v (.int .i64 v)) (hv:v=((i:Nat):Int)) (hj:i < n) (hb:η id=some ⟨ver,rF f L,q,false⟩) :
  LOp P ⟨d,.indexAddr t x y,ty,pos,af,g⟩ τ η [id] [] (.ptr id ver (i * q)):=by
 subst hv
 have:=LOp.indexS (P:=P) (τ:=τ) (η:=η) (d:=d) (ty:=ty) (pos:=pos) (af:=af) (g:=g) (j:=i) he hs hx hi hj hb rfl rfl rfl
 rwa [Nat.zero_add] at this
/-- The assigned row. -/
def asgS (F:List AV→GVal) (l:List GAsn) (r:List GVal):List GVal:=l.foldl (fun q a=>q.set a.index_.toNat (F (exA a.expr_))) r
theorem asg_next {F:List AV→GVal} {l:List GAsn} {r:List GVal} {k:Nat} (h:k < l.length) {L:List GVal} (hL:L=asgS F (l.take k) r) {i:Nat} (hi:l[k].index_=((i:Nat):Int)) {v:GVal} (hv:v=F (exA l[k].expr_)):L.set i v=asgS F (l.take (k+1)) r:=by
 unfold asgS at hL ⊢
 rw [List.take_succ_eq_append_getElem h,List.foldl_append,← hL,hv,List.foldl_cons,List.foldl_nil,hi,Int.toNat_natCast]
theorem asg_end {F:List AV→GVal} {l:List GAsn} {r:List GVal} {k:Nat} (h:¬ k < l.length):asgS F (l.take k) r=asgS F l r:=by rw [List.take_of_length_le (by omega)]
theorem asg_len {F:List AV→GVal}:∀ {l:List GAsn} {r:List GVal},(asgS F l r).length=r.length
 | [],r=>rfl
 | a :: l,r=>by show (asgS F l _).length=_; rw [asg_len,List.length_set]
theorem asg_cong {F G:List AV→GVal}:∀ {l:List GAsn} {r:List GVal},(∀ a∈l,F (exA a.expr_)=G (exA a.expr_))→asgS F l r=asgS G l r
 | [],r,_=>rfl
 | a :: l,r,h=>by show asgS F l (r.set _ (F (exA a.expr_)))=asgS G l (r.set _ (G (exA a.expr_))); rw [h a (by simp)]; exact asg_cong fun b hb=>h b (by simp [hb])
theorem bod22:bodied Tryz.prog 22=true:=by kernel_rfl
set_option maxRecDepth 100000 in
set_option maxHeartbeats 4000000 in
theorem fits16_w (x:GEx) (hx:FitEx x) (l:List PVar) (hl:FitL l (fun y=>True)) (ty:Int):PRet Tryz.prog 21 [.agg (exA x),.tree 5 (l.map vA),.v (.int .i64 ty)] (fun r=>∃ b:Bool,r=.v (.bool b)∧(b=true→OpE l 10 (exA x))):=by
 refine PRet.of_vc infOk [] [] Tryz.func21 rfl Tryz.ntmps21 rfl (by kernel_rfl) (ArgG.mk (short_p (exA x) (isEx hx) 10 (by omega)) rfl ?_)
 rintro _ ⟨b0,rfl,hb0⟩
 refine cB (fun hg10=>?_) (fun hg10=>?_)
 ·exact cT (rV Tryz.results21 rfl bF)
 have hsh:IsSh 10 (exA x):=hb0 (by simpa using hg10)
 refine ArgG.mk (operand_p (exA x) (isEx hx) l hl 10 (by omega) hsh) rfl ?_
 rintro _ ⟨b1,rfl,hb1⟩
 refine cB (fun hc15=>?_) (fun hc15=>?_)
 ·exact rV Tryz.results21 rfl bF
 refine cE (fun hq19=>?_) (fun hq19=>?_)
 ·refine ArgG.mk (null_p (exA x) (isEx hx)) rfl ?_
  rintro _ ⟨b2,rfl,hb2⟩
  refine cB (fun hc22=>?_) (fun hc22=>?_)
  ·exact rV Tryz.results21 rfl ⟨_,rfl,fun _=>hb1 (by simp_all)⟩
  refine ArgG.mk (text_p (exA x) (isEx hx) l hl) rfl ?_
  rintro _ ⟨b3,rfl,hb3,hbn3⟩
  exact rV Tryz.results21 rfl ⟨_,rfl,fun _=>hb1 (by simp_all)⟩
 refine cF (ArgG.mk (text_p (exA x) (isEx hx) l hl) rfl ?_)
 rintro _ ⟨b4,rfl,hb4,hbn4⟩
 exact rV Tryz.results21 rfl ⟨_,rfl,fun _=>hb1 (by simp_all)⟩
set_option maxRecDepth 100000 in
set_option maxHeartbeats 4000000 in
theorem assign28_p (sets:List GAsn) (hsets:FitL sets (fun y=>FitAsn y)) (r:List GVal) (hr:FitL r (fun y=>FitVal y)) (h0:0 < r.length) (hr1:r.length≤1000) (hs:∀ a∈sets,EvR r (exA a.expr_)∧∃ j:Nat,a.index_=((j:Nat):Int)∧j < r.length):PRet Tryz.prog 9 [.tree 10 (sets.map asnA),.tree 3 (r.map gvA)] (fun q=>q=.tree 3 ((asgS (vS (rowF r)) sets r).map gvA)):=by
 refine PRet.of_vc infOk [9,29,100029] [] Tryz.func9 rfl Tryz.ntmps9 rfl (by kernel_rfl) (OpG.nw (LOp.buildSlice0 0 Tryz.underlying36 sz30) rfl ?_)
 refine OpG.wr (LOp.appRowsBX row_gvA (l:=[]) (l':=r) Tryz.underlying36 sz30 zr30 by30 rfl rfl rfl rfl (by simp; omega) (by simp; omega) (by decide)) rfl (LpG.on (fun k0:KL GVal=>(⟨fL [(0,.tree 10 (sets.map asnA)),(1,.tree 3 (r.map gvA)),(5,.sl 0 1 0 k0.L.length),(6,.v (.int .i64 ((k0.k:Nat):Int)))],hLz [(0,⟨1,rF gvA k0.L,3,false⟩)],1⟩:St)) (fun k0=>(sets.length - k0.k)) (fun k0=>(k0.k≤sets.length∧(k0.L.length=r.length∧k0.L=asgS (vS (rowF r)) (sets.take k0.k) r))) (⟨0,r⟩:KL GVal) (cO (.cons rfl rfl (.cons rfl rfl (.cons (by rfl) rfl (.cons rfl rfl .nil)))) (.cons rfl rfl (rF_low row_gvA _ _) .nil)) ⟨Nat.zero_le _,⟨rfl,rfl⟩⟩ ?_)
 rintro k0 hinv
 have hgr_k0:sets.length≤140737488355328:=hsets.1
 obtain ⟨hle_k0,hi_k0⟩:=hinv
 refine LenG.of (cL (fun hlt13=>?_) (fun hge13=>?_))
 ·obtain ⟨hev,j0,hje,hjl⟩:=hs _ (List.getElem_mem hlt13)
  have hll:=hi_k0.1
  refine IdxG.of (by assumption) (IdxG.of (by assumption) ?_)
  refine ArgG.mk (value14_p r hr (exA sets[k0.k].expr_) (isEx (hsets.2 _ (List.getElem_mem _)).expr_) hev) rfl ?_
  rintro _ rfl
  refine OpG.lk (LOp.indexRow (i:=j0) Tryz.underlying36 sz30 rfl rfl (by assumption) (by omega) rfl) (OpG.wr (LOp.storeRow row_gvA sz30 rfl rfl rfl (by omega)) rfl ?_)
  refine ⟨by kernel_rfl,⟨by omega,?_⟩⟩
  refine ⟨(⟨k0.k+1,k0.L.set j0 (vS (rowF r) (exA sets[k0.k].expr_))⟩:KL GVal),(by show sets.length - (k0.k+1) < sets.length - k0.k; omega),(cO (.cons rfl rfl (.cons rfl rfl (.cons (by (rw [List.length_set]; rfl)) rfl (.cons rfl rfl .nil)))) (.cons rfl rfl (rF_low row_gvA _ _) .nil)),⟨by show k0.k+1≤_; omega,?_⟩⟩
  exact ⟨by show (k0.L.set _ _).length=_; rw [List.length_set,hi_k0.1],asg_next hlt13 hi_k0.2 hje rfl⟩
 refine ⟨.inr rfl,_,Outs.tmp Tryz.results9 ⟨[0],FzP.rowsF row_gvA (List.mem_singleton.2 rfl) rfl⟩,?_⟩
 show AV.tree 3 (k0.L.map gvA)=_; rw [hi_k0.2,asg_end hge13]
set_option maxRecDepth 100000 in
set_option maxHeartbeats 4000000 in
theorem imgAssign_p (t:GTab) (ht:FitTab t) (sets:List GAsn) (hsets:FitL sets (fun y=>FitAsn y)) (r:List GVal) (hr:FitL r (fun y=>FitVal y)) (h0:1≤t.columns_.length∧t.columns_.length≤5) (hs:∀ a∈sets,(r.length=t.columns_.length→EvW r (exA a.expr_))∧∃ j:Nat,a.index_=((j:Nat):Int)∧j < t.columns_.length):PRet Tryz.prog 6 [.agg (tabA t),.tree 10 (sets.map asnA),.tree 3 (r.map gvA)] (fun q=>∃ (o:List GVal) (e:Int),q=.tup [.tree 3 (o.map gvA),.v (.int .i64 e)]∧(r.length=t.columns_.length→o=asgS (vW (rowF r)) sets r∧e=0)∧(¬ r.length=t.columns_.length→o=[]∧e=1)∧∀ y∈o,FitVal y):=by
 refine PRet.of_vc infOk [18,32,100032] [] Tryz.func6 rfl Tryz.ntmps6 rfl (by kernel_rfl) (LenG.of ?_)
 refine LenG.of (cB (fun hc16=>?_) (fun hc16=>?_))
 ·have hq16:¬ (((r.length:Nat):Int)=((t.columns_.length:Nat):Int)):=by simpa using hc16
  have hlr:¬ r.length=t.columns_.length:=by have h:=hc16; simp at h; omega
  exact ⟨.inr rfl,_,Outs.two Tryz.results6 (OutR.tmp (ret:=.tree 3 []) ⟨([]:List Nat),FzP.nil⟩) (OutR.tmp ⟨([]:List Nat),FzP.pure rfl⟩),⟨[],1,rfl,fun h=>absurd h hlr,fun _=>⟨rfl,rfl⟩,fun y hy=>absurd hy (by simp)⟩⟩
 have hq16:((r.length:Nat):Int)=((t.columns_.length:Nat):Int):=by simpa using hc16
 have hlr:r.length=t.columns_.length:=by have h:=hc16; simp at h; omega
 refine OpG.mk _ _ _ 2 (LOp.callH [(0,1)] bod22 (CloneL.own cl_R row_gvA r (by omega) (by omega)) rfl rfl rfl rfl trivial trivial ⟨rF_in row_gvA _ _,trivial⟩ rfl rfl rfl rfl (delta_own row_gvA rfl) rfl) rfl rfl (LenG.of ?_)
 refine LpG.on (fun k0:KL GVal=>(⟨fL [(2,.tree 3 (r.map gvA)),(8,.sl 1 0 0 k0.L.length),(19,.tree 10 (sets.map asnA)),(20,.v (.int .i64 ((sets.length:Nat):Int))),(21,.v (.int .i64 ((k0.k:Nat):Int)))],hLz [(1,⟨0,rF gvA k0.L,3,false⟩)],2⟩:St)) (fun k0=>(sets.length - k0.k)) (fun k0=>(k0.k≤sets.length∧(k0.L.length=r.length∧k0.L=asgS (vW (rowF r)) (sets.take k0.k) r∧∀ y∈k0.L,FitVal y))) (⟨0,r⟩:KL GVal) (cO (.cons rfl rfl (.cons (by rfl) rfl (.cons rfl rfl (.cons rfl rfl (.cons rfl rfl .nil))))) (.cons rfl rfl (rF_low row_gvA _ _) .nil)) ⟨Nat.zero_le _,⟨rfl,rfl,hr.2⟩⟩ ?_
 rintro k0 hinv
 have hgr_k0:sets.length≤140737488355328:=hsets.1
 obtain ⟨hle_k0,hi_k0⟩:=hinv
 refine cL (fun hlt22=>?_) (fun hge22=>?_)
 ·obtain ⟨hev,j0,hje,hjl⟩:=hs _ (List.getElem_mem hlt22)
  have hev:=hev hlr
  have hll:=hi_k0.1
  refine IdxG.of (by assumption) (ArgG.mk (valueE_p r hr (exA sets[k0.k].expr_) (isEx (hsets.2 _ (List.getElem_mem _)).expr_) hev) rfl ?_)
  rintro _ ⟨v0,rfl,hv0,hvf0⟩
  refine OpG.lk (LOp.indexRow (i:=j0) Tryz.underlying36 sz30 rfl rfl (by assumption) (by omega) rfl) (OpG.wr (LOp.storeRow row_gvA sz30 rfl rfl rfl (by omega)) rfl ?_)
  refine ⟨by kernel_rfl,⟨by omega,?_⟩⟩
  refine ⟨(⟨k0.k+1,k0.L.set j0 v0⟩:KL GVal),(by show sets.length - (k0.k+1) < sets.length - k0.k; omega),(cO (.cons rfl rfl (.cons (by (rw [List.length_set]; rfl)) rfl (.cons rfl rfl (.cons rfl rfl (.cons rfl rfl .nil))))) (.cons rfl rfl (rF_low row_gvA _ _) .nil)),⟨by show k0.k+1≤_; omega,?_⟩⟩
  exact ⟨by show (k0.L.set _ _).length=_; rw [List.length_set,hi_k0.1],asg_next hlt22 hi_k0.2.1 hje hv0,fun y hy=>(List.mem_or_eq_of_mem_set hy).elim (hi_k0.2.2 y) (fun h=>h ▸ hvf0)⟩
 exact ⟨.inr rfl,_,Outs.two Tryz.results6 (OutR.tmp ⟨[1],FzP.rowsF row_gvA (List.mem_singleton.2 rfl) rfl⟩) (OutR.tmp ⟨([]:List Nat),FzP.pure rfl⟩),⟨k0.L,0,rfl,fun _=>⟨by rw [hi_k0.2.1,asg_end hge22],rfl⟩,fun h=>absurd hlr h,hi_k0.2.2⟩⟩
end Go.Proofs.YtjdblmpkeilbaaaGreatDoor
namespace Go.Proofs.YtjdblmpkeilbaaaGreatDoor
set_option linter.unusedVariables false
set_option linter.unusedSimpArgs false
open Go.RowKit
structure GCase where
 t_:GTab
 sets_:List GAsn
 where_:GEx
abbrev casA (x:GCase):List AV:=[.v (.string x.t_.name_),.tree 6 (x.t_.columns_.map colA),.tree 1 (x.t_.keys_.map (fun l=>[.tree 1 (l.map iA)])),.tree 3 (x.t_.foreign_.map forA),.tree 8 (x.t_.checks_.map rwA),.tree 10 (x.sets_.map asnA),.v (.int .i64 x.where_.op_),.v (.string x.where_.table_),.v (.string x.where_.name_),.v (.int .i64 x.where_.index_),.v (.int .i64 x.where_.value_.kind_),.v (.int .i64 x.where_.value_.int_),.v (.string x.where_.value_.text_),.tree 8 (x.where_.args_.map rwA)]
structure FitCase (x:GCase):Prop where
 t_:FitTab x.t_
 sets_:FitL x.sets_ (fun y=>FitAsn y)
 where_:FitEx x.where_
theorem vars_fit {t:GTab} (h:t.columns_.length≤1000):FitL (varsOf t) (fun _=>True):=⟨by unfold varsOf; rw [List.length_map]; omega,fun _ _=>trivial⟩
theorem vars_len {t:GTab}:(varsOf t).length=t.columns_.length:=by simp [varsOf]
/-- A valid assignment. -/
def AsgS (t:GTab) (a:GAsn):Prop:=∃ j:Nat,a.index_=((j:Nat):Int)∧j < t.columns_.length∧OpE (varsOf t) 10 (exA a.expr_)
/-- A valid case. -/
structure RightS (c:GCase):Prop where
 c1:1≤c.t_.columns_.length
 c5:c.t_.columns_.length≤5
 col:∀ x∈c.t_.columns_,ColOk x
 sets:∀ a∈c.sets_,AsgS c.t_ a
theorem RightS.lk {c:GCase} (h:RightS c):LOk (varsOf c.t_):=fun x hx h1=>by
 obtain ⟨y,hy,rfl⟩:=List.mem_map.1 hx
 have hk:=h.col y hy
 unfold ColOk at hk
 have h1:y.type_=1:=h1
 show -2147483648≤y.low_∧y.high_≤2147483647
 omega
theorem rowW_of {t:GTab} {r:List GVal} (h:r.length=t.columns_.length) (hr:FitL r (fun y=>FitVal y)) (hw:∀ v∈r,I64 v.int_):RowW (varsOf t) r:=⟨by rw [vars_len,h],fun v hv=>⟨hw v hv,by have:=(hr.2 v hv).text_; omega⟩⟩
set_option maxRecDepth 100000 in
set_option maxHeartbeats 4000000 in
theorem right_p (c:GCase) (hc:FitCase c) (hcb:c.t_.columns_.length≤3518437208883):PRet Tryz.prog 5 [.agg (casA c)] (fun r=>∃ b:Bool,r=.v (.bool b)∧(b=true→RightS c)):=by
 have hs1:FitL [c.t_] (fun y=>FitTab y):=⟨by show 1≤_; decide,fun y hy=>by rw [List.mem_singleton.1 hy]; exact hc.t_⟩
 have hvl:=vars_len (t:=c.t_)
 refine PRet.of_vc infOk [13,19,97] [] Tryz.func5 rfl Tryz.ntmps5 rfl (by kernel_rfl) ?_
 refine ArgG.mk (variables12_p c.t_ hc.t_ (by omega)) rfl ?_
 rintro _ rfl
 refine OpG.nw (LOp.fzN (LOp.bs Tryz.underlying48 sz27 zr27 rfl rfl rfl rfl) (fun η' h=>FzP.slMap (f:=tabA) (l:=[c.t_]) (List.mem_singleton.2 rfl) h rfl rfl rfl rfl rfl (fun a _=>⟨rfl,rfl⟩))) rfl ?_
 refine ArgG.mk (smallSchema_p [c.t_] hs1) rfl ?_
 rintro _ ⟨b1,rfl,hb1⟩
 refine cB (fun hg16=>?_) (fun hg16=>?_)
 ·refine cT (cT ?_)
  refine cT (cT ?_)
  exact rV Tryz.results5 rfl bF
 have hsm:=hb1 (by simpa using hg16)
 refine OpG.nw (LOp.fzN (LOp.bs Tryz.underlying48 sz27 zr27 rfl rfl rfl rfl) (fun η' h=>FzP.slMap (f:=tabA) (l:=[c.t_]) (List.mem_singleton.2 rfl) h rfl rfl rfl rfl rfl (fun a _=>⟨rfl,rfl⟩))) rfl ?_
 refine ArgG.mk (valid12_p [c.t_] hs1 hsm.2 (by simp)) rfl ?_
 rintro _ ⟨b2,rfl,hb2⟩
 refine cB (fun hg23=>?_) (fun hg23=>?_)
 ·refine cT (cT ?_)
  exact cT (rV Tryz.results5 rfl bF)
 have hv0:=hb2 (by simpa using hg23)
 have hc1:=hv0.2.2.col c.t_ (by simp)
 refine LenG.of (cD (fun hq28=>?_) (fun hq28=>?_))
 ·refine cT (cT ?_)
  exact rV Tryz.results5 rfl bF
 refine ArgG.mk (condition29_w c.where_ hc.where_ (varsOf c.t_) (vars_fit (by omega))) rfl ?_
 rintro _ ⟨b3,rfl,hb3⟩
 refine cB (fun hg35=>?_) (fun hg35=>?_)
 ·exact cT (rV Tryz.results5 rfl bF)
 refine LenG.of (cD (fun hq40=>?_) (fun hq40=>?_))
 ·exact rV Tryz.results5 rfl bF
 refine LpG.on (fun k0:Nat=>(⟨fL [(1,.ptr 0 0 0),(3,.tree 5 (((varsOf c.t_)).map vA)),(4,.v (.int .i64 ((k0:Nat):Int)))],hLz [(0,⟨0,casA c,0,false⟩)],3⟩:St)) (fun k0=>(c.t_.checks_.length - k0)) (fun k0=>(k0≤c.t_.checks_.length)) 0 (cO (.cons rfl rfl (.cons rfl rfl (.cons rfl rfl .nil))) (.cons rfl rfl rfl .nil)) (Nat.zero_le _) ?_
 rintro k0 hinv
 have hgr_k0:c.t_.checks_.length≤140737488355328:=hc.t_.checks_.1
 have hle_k0:=hinv
 refine LenG.of (cL (fun hlt46=>?_) (fun hge46=>?_))
 ·obtain ⟨a2,he_a2,ha2⟩:=(hc.t_.checks_.2 _ (List.getElem_mem hlt46)).open_
  refine IdxG.as (j:=k0) (by assumption) he_a2 (cE (fun hq57=>?_) (fun hq57=>?_))
  ·exact cT (rV Tryz.results5 rfl bF)
  refine IdxG.as (j:=k0) (by assumption) he_a2 (ArgG.mk (condition29_w a2 ha2 (varsOf c.t_) (vars_fit (by omega))) rfl ?_)
  rintro _ ⟨b4,rfl,hb4⟩
  refine cB (fun hc67=>?_) (fun hc67=>?_)
  ·exact rV Tryz.results5 rfl bF
  refine ⟨by omega,?_⟩
  refine ⟨(k0+1),by omega,(cO (.cons rfl rfl (.cons rfl rfl (.cons rfl rfl .nil))) (.cons rfl rfl rfl .nil)),?_⟩
  omega
 refine LpG.on (fun k2:Nat=>(⟨fL [(1,.ptr 0 0 0),(3,.tree 5 (((varsOf c.t_)).map vA)),(5,.v (.int .i64 ((k2:Nat):Int)))],hLz [(0,⟨0,casA c,0,false⟩)],3⟩:St)) (fun k2=>(c.sets_.length - k2)) (fun k2=>(k2≤c.sets_.length∧∀ j (hl:j < c.sets_.length),j < k2→AsgS c.t_ c.sets_[j])) 0 (cO (.cons rfl rfl (.cons rfl rfl (.cons rfl rfl .nil))) (.cons rfl rfl rfl .nil)) ⟨Nat.zero_le _,fun j _ h=>absurd h (Nat.not_lt_zero j)⟩ ?_
 rintro k2 hinv
 have hgr_k2:c.sets_.length≤140737488355328:=hc.sets_.1
 obtain ⟨hle_k2,hj_k2⟩:=hinv
 refine LenG.of (cL (fun hlt72=>?_) (fun hge72=>?_))
 ·refine IdxG.of (by assumption) (cD (fun hq83=>?_) (fun hq83=>?_))
  ·refine cT ⟨by kernel_rfl,cT ?_⟩
   exact rV Tryz.results5 rfl bF
  refine LenG.of (cD (fun hq90=>?_) (fun hq90=>?_))
  ·refine ⟨by kernel_rfl,?_⟩
   exact cT (rV Tryz.results5 rfl bF)
  obtain ⟨j1,hj1⟩:∃ j:Nat,c.sets_[k2].index_=((j:Nat):Int):=⟨c.sets_[k2].index_.toNat,by omega⟩
  have hjl1:j1 < (varsOf c.t_).length:=by omega
  refine OpG.lk (LOp.indexI Tryz.underlying60 sz96 rfl rfl hj1 hjl1) ?_
  refine ArgG.mk (fits16_w c.sets_[k2].expr_ (hc.sets_.2 _ (List.getElem_mem _)).expr_ (varsOf c.t_) (vars_fit (by omega)) _) rfl ?_
  rintro _ ⟨b5,rfl,hb5⟩
  refine ⟨by kernel_rfl,?_⟩
  refine cB (fun hc102=>?_) (fun hc102=>?_)
  ·exact rV Tryz.results5 rfl bF
  have hasg:AsgS c.t_ c.sets_[k2]:=⟨j1,hj1,by omega,hb5 (by simpa using hc102)⟩
  refine LpG.on (fun k4:Nat=>(⟨fL [(1,.ptr 0 0 0),(3,.tree 5 (((varsOf c.t_)).map vA)),(5,.v (.int .i64 ((k2:Nat):Int))),(6,.ptr 3 0 0),(7,.v (.int .i64 ((k4:Nat):Int)))],hLz [(0,⟨0,casA c,0,false⟩),(3,⟨0,asnA c.sets_[k2],0,false⟩)],4⟩:St)) (fun k4=>(k2 - k4)) (fun k4=>(k4≤k2)) 0 (cO (.cons rfl rfl (.cons rfl rfl (.cons rfl rfl (.cons rfl rfl (.cons rfl rfl .nil))))) (.cons rfl rfl rfl (.cons rfl rfl rfl .nil))) (Nat.zero_le _) ?_
  rintro k4 hinv
  have hle_k4:=hinv
  refine cL (fun hlt105=>?_) (fun hge105=>?_)
  ·refine IdxG.of (by omega) ⟨by kernel_rfl,cE (fun hq116=>?_) (fun hq116=>?_)⟩
   ·exact rV Tryz.results5 rfl bF
   refine ⟨by omega,?_⟩
   refine ⟨(k4+1),by omega,(cO (.cons rfl rfl (.cons rfl rfl (.cons rfl rfl (.cons rfl rfl (.cons rfl rfl .nil))))) (.cons rfl rfl rfl (.cons rfl rfl rfl .nil))),?_⟩
   omega
  refine ⟨by omega,?_⟩
  refine ⟨(k2+1),by omega,(cO (.cons rfl rfl (.cons rfl rfl (.cons rfl rfl .nil))) (.cons rfl rfl rfl .nil)),?_⟩
  refine ⟨by omega,fun j hl h=>?_⟩
  rcases Nat.lt_succ_iff_lt_or_eq.1 h with h | rfl
  ·exact hj_k2 j hl h
  exact hasg
 exact rV Tryz.results5 rfl ⟨_,rfl,fun _=>⟨by omega,by omega,hv0.2.1 _ (by simp),fun a ha=>by obtain ⟨j,hj,rfl⟩:=List.getElem_of_mem ha; exact hj_k2 j hj (by omega)⟩⟩
set_option maxRecDepth 100000 in
set_option maxHeartbeats 4000000 in
theorem fitsL_p (t:GTab) (ht:FitTab t) (w:List GVal) (hw:FitL w (fun y=>FitVal y)) (hcl:t.columns_.length≤1000):PRet Tryz.prog 7 [.agg (tabA t),.tree 3 (w.map gvA)] (fun r=>∃ b:Bool,r=.v (.bool b)∧(b=true↔RowFit t w)):=by
 refine PRet.of_vc infOk [] [] Tryz.func7 rfl Tryz.ntmps7 rfl (by kernel_rfl) (ArgG.mk (fits12_p t ht w hw hcl) rfl ?_)
 rintro _ ⟨e0,rfl,he0⟩
 exact rV Tryz.results7 rfl ⟨_,rfl,by rw [← he0]; simp⟩
set_option maxRecDepth 100000 in
set_option maxHeartbeats 4000000 in
theorem lawAsg_p (c:GCase) (hc:FitCase c) (r:List GVal) (hr:FitL r (fun y=>FitVal y)) (haw:PRet Tryz.prog 4 [] (fun q=>q=.v (.bool true))) (hcb:c.t_.columns_.length≤3518437208883) (hrw:∀ v∈r,I64 v.int_):PRet Tryz.prog 3 [.agg (casA c),.tree 3 (r.map gvA)] (fun q=>q=.v (.bool true)):=by
 refine PRet.of_vc infOk [] [] Tryz.func3 rfl Tryz.ntmps3 rfl (by kernel_rfl) (ArgG.mk (haw) rfl ?_)
 rintro _ rfl
 refine cF (ArgG.mk (right_p c hc hcb) rfl ?_)
 rintro _ ⟨b1,rfl,hb1⟩
 refine cB (fun hc13=>?_) (fun hc13=>?_)
 ·refine ArgG.mk (haw) rfl ?_
  rintro _ rfl
  exact rV Tryz.results3 rfl rfl
 have hrt:=hb1 (by simpa using hc13)
 have hasn:∀ a∈c.sets_,(r.length=c.t_.columns_.length→EvW r (exA a.expr_))∧∃ j:Nat,a.index_=((j:Nat):Int)∧j < c.t_.columns_.length:=fun a ha=>by obtain ⟨j,h1,h2,h3⟩:=hrt.sets a ha; exact ⟨fun hl=>evW_op (rowW_of hl hr hrw) h3 (isEx (hc.sets_.2 _ ha).expr_),j,h1,h2⟩
 refine ArgG.mk (imgAssign_p c.t_ hc.t_ c.sets_ hc.sets_ r hr ⟨hrt.c1,hrt.c5⟩ hasn) rfl ?_
 rintro _ ⟨o3,e3,rfl,ho3,hn3,hf3⟩
 refine LenG.of (LenG.of ?_)
 refine cB (fun hc30=>?_) (fun hc30=>?_)
 ·have hq30:¬ (((r.length:Nat):Int)=((c.t_.columns_.length:Nat):Int)):=by simpa using hc30
  have hlr:¬ r.length=c.t_.columns_.length:=by have h:=hc30; simp at h; omega
  obtain ⟨ho,he⟩:=hn3 hlr
  refine LenG.of (cE (fun hq34=>?_) (fun hq34=>?_))
  ·refine rV Tryz.results3 rfl ?_
   rw [he]; rfl
  refine rV Tryz.results3 rfl ?_
  exfalso; rw [ho] at hq34; simp at hq34
 have hq30:((r.length:Nat):Int)=((c.t_.columns_.length:Nat):Int):=by simpa using hc30
 have hlr:r.length=c.t_.columns_.length:=by have h:=hc30; simp at h; omega
 obtain ⟨ho,he⟩:=ho3 hlr
 refine ArgG.mk (fitsL_p c.t_ hc.t_ r hr (by have:=hrt.c5; omega)) rfl ?_
 rintro _ ⟨b4,rfl,hb4⟩
 refine cB (fun hg43=>?_) (fun hg43=>?_)
 ·exact rV Tryz.results3 rfl rfl
 have hrf:=hb4.1 (by simpa using hg43)
 have hsev:∀ a∈c.sets_,EvR r (exA a.expr_)∧∃ j:Nat,a.index_=((j:Nat):Int)∧j < r.length:=fun a ha=>by obtain ⟨j,h1,h2,h3⟩:=hrt.sets a ha; exact ⟨ev_op (rowL_of hrf) hrt.lk h3 (isEx (hc.sets_.2 _ ha).expr_),j,h1,by omega⟩
 have hao:o3=(asgS (vS (rowF r)) c.sets_ r):=ho.trans (asg_cong fun a ha=>vW_vS (hsev a ha).1)
 have hfo:FitL o3 (fun y=>FitVal y):=⟨by rw [ho,asg_len]; exact hr.1,hf3⟩
 have hfa:FitL (asgS (vS (rowF r)) c.sets_ r) (fun y=>FitVal y):=hao ▸ hfo
 refine cE (fun hq46=>?_) (fun hq46=>?_)
 ·refine ArgG.mk (assign28_p c.sets_ hc.sets_ r hr (by have:=hrt.c1; omega) (by have:=hrt.c5; omega) hsev) rfl ?_
  rintro _ rfl
  refine ArgG.mk (same28_p o3 hfo (asgS (vS (rowF r)) c.sets_ r) hfa) rfl ?_
  rintro _ ⟨b6,rfl,hb6⟩
  refine rV Tryz.results3 rfl ?_
  show AV.v (.bool b6)=_; rw [hb6.2 hao]
 exact rV Tryz.results3 rfl (absurd he hq46)
end Go.Proofs.YtjdblmpkeilbaaaGreatDoor
