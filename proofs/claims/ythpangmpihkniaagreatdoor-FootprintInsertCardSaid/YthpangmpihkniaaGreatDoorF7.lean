/- Texts of the claim. -/
import Derived.Deep.Slices
import Derived.Deep.Fields
import Derived.ChangeSame
import Derived.ChangeArms
import Derived.SizedLaws
import Derived.OpenShut
import Derived.Test.YthpangmpihkniaaGreatDoorF6
import Derived.Test.YthpangmpihkniaaGreatDoorQ2
import Derived.Test.YthpangmpihkniaaGreatDoorF5
namespace Go.Proofs.YthpangmpihkniaaGreatDoor
set_option linter.unusedVariables false
set_option linter.unusedSimpArgs false
open Go.RowKit
theorem emp_toList:(⟨#[]⟩:ByteArray).toList=[]:=by rw [ByteArray.toList,ByteArray.toList.loop]; rfl
theorem can_z:CanV zV:=⟨fun _=>⟨rfl,emp_toList⟩,fun h=>absurd h (by decide),fun h=>absurd h (by decide)⟩
theorem can_i (n:Int):CanV (iV n):=⟨fun h=>absurd h (by show ¬ (1:Int)=0; decide),fun _=>emp_toList,fun h=>absurd h (by show ¬ (1:Int)=2; decide)⟩
theorem opS_can (op:Int) (l:List GVal):CanV (opS op l)∧((opS op l).kind_=0∨(opS op l).kind_=1):=by
 cases l with
 | nil=>exact ⟨can_z,.inl rfl⟩
 | cons a t=>
  simp only [opS]
  split
  ·exact ⟨can_z,.inl rfl⟩
  ·split
   ·exact ⟨can_i _,.inr rfl⟩
   ·split
    ·exact ⟨can_i _,.inr rfl⟩
    ·cases t with
     | nil=>exact ⟨can_z,.inl rfl⟩
     | cons b t=>
      simp only
      split
      ·exact ⟨can_z,.inl rfl⟩
      ·exact ⟨can_i _,.inr rfl⟩
section
variable {l:List PVar} {r:List GVal}
theorem int_val (hr:RowL l r) (hcn:∀ v∈r,CanV v) {e:List AV} (h:IntE l e):CanV (vS (rowF r) e)∧((vS (rowF r) e).kind_=0∨(vS (rowF r) e).kind_=1):=by
 cases h with
 | lit x h ha hk hc=>rw [vS_ex,if_pos h]; exact ⟨hc,hk.symm⟩
 | col x h ha hj=>
  obtain ⟨j,hj,e,ht⟩:=hj
  have hjr:j < r.length:=by have:=hr.1; omega
  rw [vS_ex,if_neg (by omega),if_pos h,e,rowF_at hjr]
  refine ⟨hcn _ (List.getElem_mem _),?_⟩
  rcases hr.2 j hjr hj with f | f | f
  ·exact .inl f.1
  ·exact .inr f.1
  ·omega
 | len x a h ha haa ht=>rw [vS_ex,if_neg (by omega),if_neg (by omega)]; exact opS_can _ _
 | neg x h ha hs=>rw [vS_ex,if_neg (by omega),if_neg (by omega)]; exact opS_can _ _
 | bin x h ha hs=>rw [vS_ex,if_neg (by omega),if_neg (by omega)]; exact opS_can _ _
theorem int_not_text {x:GEx} (h:IntE l (exA x)):¬ TextE l (exA x):=by
 intro ht
 obtain ⟨ha,ht⟩:=textE_open ht
 rcases intE_open h with g | ⟨g1,_,j,hj,e,g⟩ | ⟨g1,a,g,_⟩ | ⟨g1,g,_⟩ | ⟨g1,g,_⟩
 ·rcases ht with ⟨h2,_⟩ | ⟨_,h2⟩ <;> omega
 ·rcases ht with ⟨h2,j',hj',e',h3⟩ | ⟨h2,_⟩
  ·have:j=j':=by omega
   subst this; omega
  omega
 ·rw [ha] at g; cases g
 ·rw [ha] at g; cases g
 rw [ha] at g; cases g
theorem op_val (hr:RowL l r) (hcn:∀ v∈r,CanV v) {x:GEx} {d:Nat} (h:OpE l d (exA x)):CanV (vS (rowF r) (exA x))∧((vS (rowF r) (exA x)).kind_=0∨(TextE l (exA x)∧(vS (rowF r) (exA x)).kind_=2)∨(¬ TextE l (exA x)∧(vS (rowF r) (exA x)).kind_=1))∨(vS (rowF r) (exA x)).kind_=0:=by
 rcases h with ⟨y,hy,h1,h0,_⟩ | ⟨ht,hc⟩ | ⟨hi,_⟩
 ·obtain rfl:=exA_inj hy
  right; rw [vS_ex,if_pos h1]; exact h0
 ·left
  obtain ⟨ha,⟨h2,j,hj,e,hk⟩ | ⟨h1,hk⟩⟩:=textE_open ht
  ·have hjr:j < r.length:=by have:=hr.1; omega
   rw [vS_ex,if_neg (by omega),if_pos h2,e,rowF_at hjr]
   refine ⟨hcn _ (List.getElem_mem _),?_⟩
   rcases hr.2 j hjr hj with f | f | f
   ·exact .inl f.1
   ·omega
   exact .inr (.inl ⟨ht,f.1⟩)
  rw [vS_ex,if_pos h1]
  exact ⟨hc x rfl h1,.inr (.inl ⟨ht,hk⟩)⟩
 left
 obtain ⟨h1,h2⟩:=int_val hr hcn hi
 exact ⟨h1,h2.imp (fun h=>h) (fun h=>.inr ⟨int_not_text hi,h⟩)⟩
end
/-- Values that are compared as the machine compares them. -/
def VPair (a b:GVal):Prop:=a.kind_≠0→b.kind_≠0→orL [cmI a.int_ b.int_,cmT a.text_ b.text_]=ordS a b
theorem cmp_less:∀ x y:List UInt8,Lib.compareBytes x y=if Op.bytesLess x y=true then -1 else if ¬ x=y then 1 else 0
 | [],[]=>by simp [Lib.compareBytes,Op.bytesLess]
 | [],_ :: _=>by simp [Lib.compareBytes,Op.bytesLess]
 | _ :: _,[]=>by simp [Lib.compareBytes,Op.bytesLess]
 | a :: x,b :: y=>by
  have ih:=cmp_less x y
  simp only [Lib.compareBytes,Op.bytesLess,ih,Bool.or_eq_true,decide_eq_true_eq,Bool.and_eq_true,beq_iff_eq,List.cons.injEq]
  by_cases h1:a < b
  ·simp [h1]
  ·by_cases h2:b < a
   ·have h3:¬ a=b:=fun e=>by subst e; exact h1 h2
    simp [h1,h2,h3]
   ·have h3:a=b:=by
     have:=UInt8.le_antisymm (UInt8.not_lt.1 h2) (UInt8.not_lt.1 h1)
     exact this
    simp [h1,h2,h3]
theorem cmT_eq (a b:ByteArray):cmT a b=if lessS a b=true then -1 else if ¬ a.toList=b.toList then 1 else 0:=by
 unfold cmT lessS
 rw [cmp_less,Lib.toList_data,Lib.toList_data]
theorem orL_two (a b:Int):orL [a,b]=if a=0 then b else a:=by
 simp only [orL]
 by_cases h:a=0
 ·simp [h]
  intro h2; exact h2.symm
 simp [h]
theorem vpair {a b:GVal} (ha:CanV a) (hb:CanV b) (h:(a.kind_=1∧b.kind_=1)∨(a.kind_=2∧b.kind_=2)):orL [cmI a.int_ b.int_,cmT a.text_ b.text_]=ordS a b:=by
 rw [orL_two]
 rcases h with ⟨h1,h2⟩ | ⟨h1,h2⟩
 ·have e1:=ha.2.1 h1
  have e2:=hb.2.1 h2
  have e3:lessS a.text_ b.text_=false:=by unfold lessS; rw [e1,e2]; rfl
  have e4:cmT a.text_ b.text_=0:=by rw [cmT_eq,e3,e1,e2]; simp
  rw [e4]
  unfold ordS cmI
  rw [e3,e1,e2]
  by_cases c1:a.int_ < b.int_
  ·simp [c1]
  by_cases c2:a.int_ > b.int_ <;> simp [c1,c2]
 have e1:=ha.2.2 h1
 have e2:=hb.2.2 h2
 have e3:cmI a.int_ b.int_=0:=by rw [e1,e2]; rfl
 rw [e3,if_pos rfl,cmT_eq]
 unfold ordS
 rw [e1,e2]
 by_cases c1:lessS a.text_ b.text_=true
 ·simp [c1]
 simp only [Bool.not_eq_true] at c1
 simp [c1]
theorem cmp_hold {op:Int} {a b:GVal} (ho:10≤op∧op≤15) (h:orL [cmI a.int_ b.int_,cmT a.text_ b.text_]=ordS a b) (ha:¬ a.kind_=0) (hb:¬ b.kind_=0):ofS (holdsB op (orL [cmI a.int_ b.int_,cmT a.text_ b.text_]))=cmpS op a b:=by
 rw [h]
 have hn:¬ (a.kind_=0∨b.kind_=0):=by omega
 unfold cmpS holdsB
 rw [if_neg hn]
 by_cases h10:op=10
 ·simp [h10]
 by_cases h11:op=11
 ·simp [h11]
 by_cases h12:op=12
 ·simp [h12]
 by_cases h13:op=13
 ·simp [h13]
 by_cases h14:op=14
 ·simp [h14]
 have h15:op=15:=by omega
 simp [h15]
theorem cmp_like {a b:GVal} {op:Int} (ho:op=16) (ha:¬ a.kind_=0) (hb:¬ b.kind_=0):ofS (likeS a.text_ b.text_)=cmpS op a b:=by
 have hn:¬ (a.kind_=0∨b.kind_=0):=by omega
 unfold cmpS
 rw [if_neg hn,ho]; rfl
theorem cmp_null {a b:GVal} {op:Int} (h:a.kind_=0∨b.kind_=0):2=cmpS op a b:=by
 unfold cmpS
 rw [if_pos h]
/-- A valid condition, opened. -/
theorem cond_ok {l:List PVar} {r:List GVal} (hr:RowL l r) (hl:LOk l) (hcn:∀ v∈r,CanV v) {x:GEx} (hx:FitEx x) (h:CondE l (exA x)):((x.op_=18∨x.op_=19)∧x.args_.length=2∧∀ e∈x.args_,CondE l e)∨(x.op_=20∧x.args_.length=1∧∀ e∈x.args_,CondE l e)∨(x.op_=17∧x.args_.length=1∧∀ e∈x.args_,EvR r e) ∨
  ((10≤x.op_∧x.op_≤16)∧x.args_.length=2∧(∀ e∈x.args_,EvR r e)∧∀ (h:1 < x.args_.length),x.op_≤15→VPair (vS (rowF r) (x.args_[0]'(by omega))) (vS (rowF r) x.args_[1])):=by
 have hev:CdR r (exA x):=cd_of hr hl h (isEx hx)
 have hco:=cd_open hev
 generalize e:exA x=q at h
 cases h with
 | bin y h hl' ha=>obtain rfl:=exA_inj e; exact .inl ⟨h,hl',ha⟩
 | not y h hl' ha=>obtain rfl:=exA_inj e; exact .inr (.inl ⟨h,hl',ha⟩)
 | isn y h hl' ha=>
  obtain rfl:=exA_inj e
  refine .inr (.inr (.inl ⟨h,hl',?_⟩))
  rcases hco with g | g | g | g
  ·omega
  ·omega
  ·exact g.2.2
  ·omega
 | like y a b h ha hb ho=>
  obtain rfl:=exA_inj e
  refine .inr (.inr (.inr ?_))
  rcases hco with g | g | g | g
  ·omega
  ·omega
  ·omega
  ·exact ⟨g.1,g.2.1,g.2.2,fun _ h15=>by omega⟩
 | cmp y a b h ha h0 h1 hs=>
  obtain rfl:=exA_inj e
  refine .inr (.inr (.inr ?_))
  rcases hco with g | g | g | g
  ·omega
  ·omega
  ·omega
  ·refine ⟨g.1,g.2.1,g.2.2,fun hl2 _=>?_⟩
   have e0:x.args_[0]'(by omega)=exA a:=by simp [ha]
   have e1:x.args_[1]=exA b:=by simp [ha]
   rw [e0,e1]
   intro ka kb
   have va:=op_val hr hcn h0
   have vb:=op_val hr hcn h1
   rcases va with ⟨ca,va⟩ | va
   ·rcases vb with ⟨cb,vb⟩ | vb
    ·refine vpair ca cb ?_
     have ta:∀ {c:GEx},c.op_=1∧HasN (exA c)→OpE l 11 (exA c)→(vS (rowF r) (exA c)).kind_=0:=by
      intro c ⟨hc1,hn⟩ ho
      rw [vS_ex,if_pos hc1]
      rcases hasN_open.1 hn with g | ⟨q,hq,_⟩
      ·exact g.2
      ·have hem:c.args_=[]:=by
        rcases ho with ⟨y,hy,_,_,hz⟩ | ⟨ht,_⟩ | ⟨hi,_⟩
        ·obtain rfl:=exA_inj hy; exact hz
        ·exact (textE_open ht).1
        ·rcases intE_open hi with g | g | g | g | g
         ·exact g.2.1
         ·exact g.2.1
         ·omega
         ·omega
         ·omega
       rw [hem] at hq; exact absurd hq (by simp)
     rcases hs with ⟨s1,s2⟩ | ⟨s1,s2⟩ | s1 | s1
     ·rcases va with va | va | va
      ·exact absurd va ka
      ·exact absurd va.1 s1
      ·rcases vb with vb | vb | vb
       ·exact absurd vb kb
       ·exact absurd vb.1 s2
       ·exact .inl ⟨va.2,vb.2⟩
     ·rcases va with va | va | va
      ·exact absurd va ka
      ·rcases vb with vb | vb | vb
       ·exact absurd vb kb
       ·exact .inr ⟨va.2,vb.2⟩
       ·exact absurd s2 vb.1
      ·exact absurd s1 va.1
     ·exact absurd (ta s1 h0) ka
     ·exact absurd (ta s1 h1) kb
    ·exact absurd vb kb
   ·exact absurd va ka
set_option maxRecDepth 100000 in
set_option maxHeartbeats 4000000 in
theorem condE_w (x:GEx) (hx:FitEx x) (r:List GVal) (hr:FitL r (fun y=>FitVal y)) (l:List PVar) (hrl:RowL l r) (hlk:LOk l) (hcn:∀ v∈r,CanV v) (hcd:CondE l (exA x)) (ih:∀ e∈x.args_,CondE l e→PRet Tryz.prog 54 [.agg (rwA e),.tree 3 (r.map gvA)] (fun q=>q=.v (.int .i64 (cS (rowF r) e)))):PRet Tryz.prog 54 [.agg (exA x),.tree 3 (r.map gvA)] (fun q=>q=.v (.int .i64 (cS (rowF r) (exA x)))):=by
 have hco:=cond_ok hrl hlk hcn hx hcd
 have hvf:∀ e∈x.args_,FitVal (vS (rowF r) e):=fun e he=>vS_fit (rowF_fit hr) (hx.args_.2 e he)
 refine PRet.of_vc infOk [16,22,31,37,46,53,66,98] [] Tryz.func54 rfl Tryz.ntmps54 rfl (by kernel_rfl) ?_
 refine cE (fun hq9=>?_) (fun hq9=>?_)
 exact rV Tryz.results54 rfl (congrArg (fun z=>AV.v (.int .i64 z)) (c_one (by assumption)))
 refine cE (fun hq11=>?_) (fun hq11=>?_)
 have hB:x.op_=18∧x.args_.length=2∧∀ e∈x.args_,CondE l e:=by rcases hco with g | g | g | g <;> first | exact ⟨by omega,g.2⟩ | omega
 refine IdxG.of (j:=0) (by omega) (OpG.lk (LOp.ldTN row47 rfl (exTake (hx.args_.2 _ (List.getElem_mem _)))) ?_)
 refine ArgG.mk (ih x.args_[0] (List.getElem_mem _) (hB.2.2 _ (List.getElem_mem _))) (show pureL [.agg (rwA x.args_[0]),.tree 3 (r.map gvA)]=true by simp [pureL,AV.pureB,exPure (hx.args_.2 _ (List.getElem_mem _))]) ?_
 rintro _ rfl
 refine IdxG.of (j:=1) (by omega) (OpG.lk (LOp.ldTN row47 rfl (exTake (hx.args_.2 _ (List.getElem_mem _)))) ?_)
 refine ArgG.mk (ih x.args_[1] (List.getElem_mem _) (hB.2.2 _ (List.getElem_mem _))) (show pureL [.agg (rwA x.args_[1]),.tree 3 (r.map gvA)]=true by simp [pureL,AV.pureB,exPure (hx.args_.2 _ (List.getElem_mem _))]) ?_
 rintro _ rfl
 refine ArgG.mk (and_p (cS (rowF r) x.args_[0]) (cS (rowF r) x.args_[1]) (cS_rng (hx.args_.2 _ (List.getElem_mem (show 0 < x.args_.length by omega)))) (cS_rng (hx.args_.2 _ (List.getElem_mem (show 1 < x.args_.length by omega))))) rfl ?_
 rintro _ rfl
 refine ⟨by kernel_rfl,?_⟩
 exact rV Tryz.results54 rfl (congrArg (fun z=>AV.v (.int .i64 z)) (((c_two (.inl hB.1) hB.2.1).trans (congrArg (fun z=>two z _ _) (show x.op_ - 18=0 by have:=hB.1; omega))).symm))
 refine cE (fun hq26=>?_) (fun hq26=>?_)
 have hB:x.op_=19∧x.args_.length=2∧∀ e∈x.args_,CondE l e:=by rcases hco with g | g | g | g <;> first | exact ⟨by omega,g.2⟩ | omega
 refine IdxG.of (j:=0) (by omega) (OpG.lk (LOp.ldTN row47 rfl (exTake (hx.args_.2 _ (List.getElem_mem _)))) ?_)
 refine ArgG.mk (ih x.args_[0] (List.getElem_mem _) (hB.2.2 _ (List.getElem_mem _))) (show pureL [.agg (rwA x.args_[0]),.tree 3 (r.map gvA)]=true by simp [pureL,AV.pureB,exPure (hx.args_.2 _ (List.getElem_mem _))]) ?_
 rintro _ rfl
 refine IdxG.of (j:=1) (by omega) (OpG.lk (LOp.ldTN row47 rfl (exTake (hx.args_.2 _ (List.getElem_mem _)))) ?_)
 refine ArgG.mk (ih x.args_[1] (List.getElem_mem _) (hB.2.2 _ (List.getElem_mem _))) (show pureL [.agg (rwA x.args_[1]),.tree 3 (r.map gvA)]=true by simp [pureL,AV.pureB,exPure (hx.args_.2 _ (List.getElem_mem _))]) ?_
 rintro _ rfl
 refine ArgG.mk (or_p (cS (rowF r) x.args_[0]) (cS (rowF r) x.args_[1]) (cS_rng (hx.args_.2 _ (List.getElem_mem (show 0 < x.args_.length by omega)))) (cS_rng (hx.args_.2 _ (List.getElem_mem (show 1 < x.args_.length by omega))))) rfl ?_
 rintro _ rfl
 refine ⟨by kernel_rfl,?_⟩
 exact rV Tryz.results54 rfl (congrArg (fun z=>AV.v (.int .i64 z)) (((c_two (.inr hB.1) hB.2.1).trans (congrArg (fun z=>two z _ _) (show x.op_ - 18=1 by have:=hB.1; omega))).symm))
 refine cE (fun hq41=>?_) (fun hq41=>?_)
 ·have hB:x.op_=20∧x.args_.length=1∧∀ e∈x.args_,CondE l e:=by rcases hco with g | g | g | g <;> first | exact ⟨by omega,g.2⟩ | omega
  refine IdxG.of (j:=0) (by omega) (OpG.lk (LOp.ldTN row47 rfl (exTake (hx.args_.2 _ (List.getElem_mem _)))) ?_)
  refine ArgG.mk (ih x.args_[0] (List.getElem_mem _) (hB.2.2 _ (List.getElem_mem _))) (show pureL [.agg (rwA x.args_[0]),.tree 3 (r.map gvA)]=true by simp [pureL,AV.pureB,exPure (hx.args_.2 _ (List.getElem_mem _))]) ?_
  rintro _ rfl
  refine ArgG.mk (not_p (cS (rowF r) x.args_[0]) (cS_rng (hx.args_.2 _ (List.getElem_mem (show 0 < x.args_.length by omega))))) rfl ?_
  rintro _ rfl
  exact rV Tryz.results54 rfl (congrArg (fun z=>AV.v (.int .i64 z)) ((c_not hB.1 hB.2.1).symm))
 have hE:∀ e∈x.args_,EvR r e:=by rcases hco with g | g | g | g <;> first | exact g.2.2 | exact g.2.2.1 | omega
 have hl1:1≤x.args_.length:=by rcases hco with g | g | g | g <;> omega
 refine IdxG.of (j:=0) (by assumption) (OpG.lk (LOp.ldTN row47 rfl (exTake (hx.args_.2 _ (List.getElem_mem _)))) ?_)
 refine ArgG.mk (valueE_p r hr x.args_[0] (hx.args_.2 _ (List.getElem_mem _)) (hE _ (List.getElem_mem _))) (show pureL [.agg (rwA x.args_[0]),.tree 3 (r.map gvA)]=true by simp [pureL,AV.pureB,exPure (hx.args_.2 _ (List.getElem_mem _))]) ?_
 rintro _ rfl
 refine cE (fun hq58=>?_) (fun hq58=>?_)
 ·have hB:x.op_=17∧x.args_.length=1∧∀ e∈x.args_,EvR r e:=by rcases hco with g | g | g | g <;> first | exact ⟨by omega,g.2⟩ | omega
  refine ArgG.mk (of_t ((vS (rowF r) x.args_[0]).kind_==0)) rfl ?_
  rintro _ rfl
  exact rV Tryz.results54 rfl (congrArg (fun z=>AV.v (.int .i64 z)) (c_isn hB.1 hB.2.1 rfl))
 have hB:(10≤x.op_∧x.op_≤16)∧x.args_.length=2∧(∀ e∈x.args_,EvR r e)∧∀ (h:1 < x.args_.length),x.op_≤15→VPair (vS (rowF r) (x.args_[0]'(by omega))) (vS (rowF r) x.args_[1]):=by rcases hco with g | g | g | g <;> first | exact g | omega
 refine IdxG.of (j:=1) (by omega) (OpG.lk (LOp.ldTN row47 rfl (exTake (hx.args_.2 _ (List.getElem_mem _)))) ?_)
 refine ArgG.mk (valueE_p r hr x.args_[1] (hx.args_.2 _ (List.getElem_mem _)) (hB.2.2.1 _ (List.getElem_mem _))) (show pureL [.agg (rwA x.args_[1]),.tree 3 (r.map gvA)]=true by simp [pureL,AV.pureB,exPure (hx.args_.2 _ (List.getElem_mem _))]) ?_
 rintro _ rfl
 refine cB (fun hg72=>?_) (fun hg72=>?_)
 ·have hq72:((vS (rowF r) x.args_[0]).kind_:Int)=(0:Int):=by simpa using hg72
  have hnul:(vS (rowF r) x.args_[0]).kind_=0∨(vS (rowF r) x.args_[1]).kind_=0:=.inl (by simpa using hg72)
  exact cT (rV Tryz.results54 rfl (congrArg (fun z=>AV.v (.int .i64 z)) ((cmp_null hnul).trans (c_cmp hB.1 hB.2.1).symm)))
 have hq72:¬ (((vS (rowF r) x.args_[0]).kind_:Int)=(0:Int)):=by simpa using hg72
 have hna:¬ (vS (rowF r) x.args_[0]).kind_=0:=by simpa using hg72
 refine cB (fun hc76=>?_) (fun hc76=>?_)
 ·have hq76:((vS (rowF r) x.args_[1]).kind_:Int)=(0:Int):=by simpa using hc76
  have hnul:(vS (rowF r) x.args_[0]).kind_=0∨(vS (rowF r) x.args_[1]).kind_=0:=by exact .inr (by simpa using hc76)
  exact rV Tryz.results54 rfl (congrArg (fun z=>AV.v (.int .i64 z)) ((cmp_null hnul).trans (c_cmp hB.1 hB.2.1).symm))
 have hq76:¬ (((vS (rowF r) x.args_[1]).kind_:Int)=(0:Int)):=by simpa using hc76
 have hnb:¬ (vS (rowF r) x.args_[1]).kind_=0:=by simpa using hc76
 refine cE (fun hq79=>?_) (fun hq79=>?_)
 ·refine ArgG.mk (likeE_p (vS (rowF r) x.args_[0]).text_ (hvf _ (List.getElem_mem _)).text_ (vS (rowF r) x.args_[1]).text_ (hvf _ (List.getElem_mem _)).text_) rfl ?_
  rintro _ rfl
  refine ArgG.mk (of_t (likeS (vS (rowF r) x.args_[0]).text_ (vS (rowF r) x.args_[1]).text_)) rfl ?_
  rintro _ rfl
  exact rV Tryz.results54 rfl (congrArg (fun z=>AV.v (.int .i64 z)) ((cmp_like (by assumption) hna hnb).trans (c_cmp hB.1 hB.2.1).symm))
 refine ArgG.mk (cmpI_p (vS (rowF r) x.args_[0]).int_ (vS (rowF r) x.args_[1]).int_) rfl ?_
 rintro _ rfl
 refine ArgG.mk (scmp_p (vS (rowF r) x.args_[0]).text_ (hvf _ (List.getElem_mem _)).text_ (vS (rowF r) x.args_[1]).text_ (hvf _ (List.getElem_mem _)).text_) rfl ?_
 rintro _ rfl
 refine OpG.nw (LOp.fzN (LOp.bs Tryz.underlying51 sz3 zr3 rfl rfl rfl rfl) (fun η' h=>FzP.slMap (f:=iA) (l:=[(cmI (vS (rowF r) x.args_[0]).int_ (vS (rowF r) x.args_[1]).int_),(cmT (vS (rowF r) x.args_[0]).text_ (vS (rowF r) x.args_[1]).text_)]) (List.mem_singleton.2 rfl) h rfl rfl rfl rfl rfl (fun a _=>⟨rfl,rfl⟩))) rfl ?_
 refine ArgG.mk (cmpOr_p [(cmI (vS (rowF r) x.args_[0]).int_ (vS (rowF r) x.args_[1]).int_),(cmT (vS (rowF r) x.args_[0]).text_ (vS (rowF r) x.args_[1]).text_)] ⟨by simp,fun _ _=>trivial⟩) rfl ?_
 rintro _ rfl
 refine ArgG.mk (holds_p x.op_ (orL [(cmI (vS (rowF r) x.args_[0]).int_ (vS (rowF r) x.args_[1]).int_),(cmT (vS (rowF r) x.args_[0]).text_ (vS (rowF r) x.args_[1]).text_)])) rfl ?_
 rintro _ rfl
 refine ArgG.mk (of_t (holdsB x.op_ (orL [(cmI (vS (rowF r) x.args_[0]).int_ (vS (rowF r) x.args_[1]).int_),(cmT (vS (rowF r) x.args_[0]).text_ (vS (rowF r) x.args_[1]).text_)]))) rfl ?_
 rintro _ rfl
 refine ⟨by kernel_rfl,?_⟩
 exact rV Tryz.results54 rfl (congrArg (fun z=>AV.v (.int .i64 z)) ((cmp_hold (by omega) (hB.2.2.2 (by omega) (by omega) hna hnb) hna hnb).trans (c_cmp hB.1 hB.2.1).symm))
theorem condE_p (r:List GVal) (hr:FitL r (fun y=>FitVal y)) (l:List PVar) (hrl:RowL l r) (hlk:LOk l) (hcn:∀ v∈r,CanV v) (e:List AV) (he:IsEx e):CondE l e→PRet Tryz.prog 54 [.agg (rwA e),.tree 3 (r.map gvA)] (fun q=>q=.v (.int .i64 (cS (rowF r) e))):=IsEx.ind (M:=fun e=>CondE l e→PRet Tryz.prog 54 [.agg (rwA e),.tree 3 (r.map gvA)] (fun q=>q=.v (.int .i64 (cS (rowF r) e)))) (fun x hx ih hc=>condE_w x hx r hr l hrl hlk hcn hc ih) he
end Go.Proofs.YthpangmpihkniaaGreatDoor
namespace Go.Proofs.YthpangmpihkniaaGreatDoor
set_option linter.unusedVariables false
set_option linter.unusedSimpArgs false
open Go.RowKit
/-- The access that inserts a row. -/
noncomputable def insS (tb:Int) (t:GTab) (w:List GVal):PAcc:=open Classical in if PossS t w then ⟨true,exactS tb (varsOf t) w⟩ else ⟨true,⟨tb,(((varsOf t).length:Nat):Int),varsOf t,[]⟩⟩
section
variable {tb:Int} {t:GTab} {w o:List GVal}
theorem insS_no (h:¬ PossS t w):insS tb t w=⟨true,⟨tb,(((varsOf t).length:Nat):Int),varsOf t,[]⟩⟩:=by unfold insS; rw [if_neg h]
theorem insS_yes (h:PossS t w):insS tb t w=⟨true,exactS tb (varsOf t) w⟩:=by unfold insS; rw [if_pos h]
theorem insS_yes2 (h:PossS t w):insS tb t w=⟨true,⟨tb,(((varsOf t).length:Nat):Int),varsOf t,[exC w]⟩⟩:=by rw [insS_yes h,exact_yes (bel_row.2 h.1)]
theorem can_row (h:RowFit t w):∀ v∈w,CanV v:=fun v hv=>by
 obtain ⟨j,hj,rfl⟩:=List.getElem_of_mem hv
 have h1:=h.2 j hj (by have:=h.1; omega)
 refine valB_can ?_
 unfold fitB at h1
 split at h1
 ·assumption
 cases h1
theorem ref_nil {l:List PVar} (hv:∀ x∈l,varB x=true) (h0:0≤tb) (h1:1≤l.length) (h64:l.length≤64):refB ⟨tb,((l.length:Nat):Int),l,[]⟩ ((l.length:Nat):Int)=true:=by
 have d:domB l=true:=by
  unfold domB
  have:allN l.length (domP l)=true:=by
   unfold allN
   rw [List.all_eq_true]; intro j hj
   have hj:=List.mem_range.1 hj
   unfold domP; rw [getD_at hj]; exact hv _ (List.getElem_mem _)
  rw [this]; simp; omega
 have b:badP ⟨tb,((l.length:Nat):Int),l,[]⟩ ((l.length:Nat):Int)=false:=by
  unfold badP
  simp only [d]
  simp; omega
 unfold refB
 rw [b]; rfl
theorem ins_w:(insS tb t w).w=true:=by unfold insS; split <;> rfl
theorem ins_tab:(insS tb t w).p.tab=tb:=by
 by_cases h:PossS t w
 ·rw [insS_yes2 h]
 rw [insS_no h]
theorem ins_vars:(insS tb t w).p.vars=varsOf t:=by
 by_cases h:PossS t w
 ·rw [insS_yes2 h]
 rw [insS_no h]
theorem ins_cols:(insS tb t w).p.cols=(((insS tb t w).p.vars.length:Nat):Int):=by
 by_cases h:PossS t w
 ·rw [insS_yes2 h]
 rw [insS_no h]
theorem ins_ref (hs:TabS t) (h0:0≤tb):refB (insS tb t w).p ((t.columns_.length:Nat):Int)=true:=by
 have hvl:=varsLen t
 have h1:=hs.c1
 have h5:=hs.c5
 by_cases h:PossS t w
 ·rw [insS_yes h]
  exact exact_ref (bel_row.2 h.1) hs.to.lk hs.vars h0 (by rw [hvl]) (by omega) (by omega)
 rw [insS_no h]
 have:=ref_nil (tb:=tb) hs.vars h0 (by omega) (by omega)
 rw [hvl] at this ⊢
 exact this
theorem ins_ok (hs:TabS t):(insS tb t w).p.Ok:=by
 have hvl:=varsLen t
 have h5:=hs.c5
 by_cases h:PossS t w
 ·rw [insS_yes2 h]
  have hb:=bel_row.2 h.1
  exact ⟨by show (varsOf t).length≤_; omega,by simp,fun c hc=>by rw [List.mem_singleton.1 hc]; exact exC_pok (by have:=hb.1; omega) (bel_txt hb)⟩
 rw [insS_no h]
 exact ⟨by show (varsOf t).length≤_; omega,by simp,fun c hc=>absurd hc (by simp)⟩
theorem ins_hc (hs:TabS t):(∀ c∈(insS tb t w).p.cls,HC (insS tb t w).p.vars.length c)∧(insS tb t w).p.cls.length≤1000:=by
 have hvl:=varsLen t
 have h5:=hs.c5
 by_cases h:PossS t w
 ·rw [insS_yes2 h]
  have hb:=bel_row.2 h.1
  refine ⟨fun c hc=>?_,by simp⟩
  rw [List.mem_singleton.1 hc]
  show HC (varsOf t).length _
  rw [← hb.1]; exact exC_hc hb hs.to.lk (by have:=hb.1; omega)
 rw [insS_no h]
 exact ⟨fun c hc=>absurd hc (by simp),by simp⟩
theorem ins_match:(Bel (insS tb t w).p.vars o∧∃ c∈(insS tb t w).p.cls,HoldsS c o)↔PossS t w∧w=o:=by
 by_cases h:PossS t w
 ·rw [insS_yes2 h]
  have hb:=bel_row.2 h.1
  constructor
  ·rintro ⟨h1,c,hc,h2⟩
   rw [List.mem_singleton.1 hc] at h2
   exact ⟨h,(exC_holds hb h1).1 h2⟩
  rintro ⟨_,rfl⟩
  exact ⟨hb,_,List.mem_singleton.2 rfl,(exC_holds hb hb).2 rfl⟩
 rw [insS_no h]
 constructor
 ·rintro ⟨_,c,hc,_⟩; exact absurd hc (by simp)
 rintro ⟨h1,_⟩; exact absurd h1 h
end
theorem ins_next {s:GTab} {L:List (List GVal)} {k:Nat} (h:k < L.length):(L.take (k+1)).map (insS 0 s)=(L.take k).map (insS 0 s)++[insS 0 s L[k]]:=by
 rw [List.take_succ_eq_append_getElem h,List.map_append]; rfl
theorem fits_dead {A:Prop} {b:Bool} (h:b=true) (h2:(!b)=true):A:=by rw [h] at h2; cases h2
theorem insD1 {α:Type} {b c:Bool} {P:Prop} {w:α} (h:b=true↔P∧w=w) (h2:c=true↔P) (h3:(b != c)=true):False:=by
 have:b=true↔c=true:=by rw [h,h2]; simp
 cases b <;> cases c <;> simp_all
theorem insD2 {b p s:Bool} {P Q:Prop} (h:b=true↔P∧Q) (h2:p=true↔P) (h3:p=true) (h4:s=true↔Q) (h5:(b != s)=true):False:=by
 have:b=true↔s=true:=by rw [h,h4]; simp [h2.1 h3]
 cases b <;> cases s <;> simp_all
theorem insD3 {b p:Bool} {P Q:Prop} (h:b=true↔P∧Q) (h2:p=true↔P) (h3:p=false) (h5:(b != false)=true):False:=by
 cases b with
 | false=>cases h5
 | true=>rw [h2.2 (h.1 rfl).1] at h3; cases h3
/-- The bound statement. -/
abbrev bndA (nm:ByteArray) (l:List PVar) (rows:List (List GVal)):List AV:=[.v (.int .i64 2),.v (.string nm),.v (.slice none 0 0),.v (.slice none 0 0),.v (.slice none 0 0),.v (.slice none 0 0),.v (.slice none 0 0),.v (.slice none 0 0),.v (.slice none 0 0),.v (.slice none 0 0),
 .v (.int .i64 0),.v (.string ⟨#[]⟩),.v (.string ⟨#[]⟩),.v (.int .i64 0),.v (.int .i64 0),.v (.int .i64 0),.v (.string ⟨#[]⟩),.v (.slice none 0 0),.v (.slice none 0 0),.v (.slice none 0 0),.v (.int .i64 0),.v (.string ⟨#[]⟩),.v (.int .i64 0),.tree 1 ([(0:Int)].map iA),.tree 5 (l.map vA),.tree 1 (rows.map (fun l=>[.tree 3 (l.map gvA)]))]
theorem row65:rowOf Tryz.prog 65=some (some 5):=by kernel_rfl
set_option maxRecDepth 100000 in
set_option maxHeartbeats 4000000 in
theorem insertion_p (s:List GTab) (hs:FitL s (fun y=>FitTab y)) (tb:Int) (r:List GVal) (hr:FitL r (fun y=>FitVal y)) (hss:SchS s) (j1:Nat) (hj1:tb=((j1:Nat):Int)) (hjs:j1 < s.length):PRet Tryz.prog 25 [.tree 5 (s.map tabA),.v (.int .i64 tb),.tree 3 (r.map gvA)] (fun q=>q=.agg (acA (insS tb s[j1] r))):=by
 have htb:=hss.tab _ (List.getElem_mem hjs)
 have hto:=htb.to
 have hc5:=htb.c5
 have hvl:=varsLen s[j1]
 have htf:=hs.2 _ (List.getElem_mem hjs)
 refine PRet.of_vc infOk [14] [] Tryz.func25 rfl Tryz.ntmps25 rfl (by kernel_rfl) (OpG.lk (LOp.indexI Tryz.underlying23 sz35 rfl rfl hj1 hjs) ?_)
 refine ArgG.mk (schemaVariables_p (s[j1]) (hs.2 _ (List.getElem_mem _)) (by omega)) rfl ?_
 rintro _ rfl
 refine LenG.of (ArgG.mk (fitsS_p s[j1] htf r hr (by omega)) rfl ?_)
 rintro _ ⟨e1,rfl,he1⟩
 refine cB (fun hc26=>?_) (fun hc26=>?_)
 ·have hq26:¬ ((e1:Int)=(0:Int)):=by simpa using hc26
  have hrf:¬ RowFit s[j1] r:=fun h=>absurd (he1.2 h) (by simpa using hc26)
  exact ⟨.inr rfl,_,Outs.cell Tryz.results25 row65 rfl rfl rfl rfl rfl ⟨[],FzP.aggL (.cons (.pure rfl) (.cons (.pure rfl) (.cons (.pure rfl) (.cons (.pure rfl) (.cons (FzP.nil (n:=7)) .nil)))))⟩,congrArg (fun z=>AV.agg (acA z)) (insS_no (fun h=>hrf h.1)).symm⟩
 have hq26:(e1:Int)=(0:Int):=by simpa using hc26
 have hrf:RowFit s[j1] r:=he1.1 (by simpa using hc26)
 refine LenG.of (LpG.on (fun k0:Nat=>(⟨fL [(1,.v (.int .i64 tb)),(2,.tree 3 (r.map gvA)),(6,.ptr 0 0 0),(8,.tree 5 (((varsOf (s[j1]))).map vA)),(9,.ptr 2 0 0),(30,.tree 8 ((s[j1].checks_).map rwA)),(31,.v (.int .i64 ((s[j1].checks_.length:Nat):Int))),(32,.v (.int .i64 ((k0:Nat):Int)))],hLz [(0,⟨0,[.v (.bool false),.v (.int .i64 0),.v (.int .i64 0),.v (.slice none 0 0),.v (.slice none 0 0)],0,false⟩),(2,⟨0,[.v (.int .i64 tb),.v (.int .i64 (((varsOf s[j1]).length:Nat):Int)),.tree 5 ((varsOf s[j1]).map vA),.v (.slice none 0 0)],0,false⟩)],3⟩:St)) (fun k0=>(s[j1].checks_.length - k0)) (fun k0=>(k0≤s[j1].checks_.length∧∀ j (hl:j < s[j1].checks_.length),j < k0→cS (rowF r) s[j1].checks_[j]≠0)) 0 (cO (.cons rfl rfl (.cons rfl rfl (.cons rfl rfl (.cons rfl rfl (.cons rfl rfl (.cons rfl rfl (.cons rfl rfl (.cons rfl rfl .nil)))))))) (.cons rfl rfl rfl (.cons rfl rfl rfl .nil))) ⟨Nat.zero_le _,fun j _ h=>absurd h (Nat.not_lt_zero j)⟩ ?_)
 rintro k0 hinv
 have hgr_k0:s[j1].checks_.length≤140737488355328:=(hs.2 _ (List.getElem_mem _)).checks_.1
 obtain ⟨hle_k0,hj_k0⟩:=hinv
 refine cL (fun hlt33=>?_) (fun hge33=>?_)
 ·obtain ⟨a2,he_a2,ha2⟩:=(htf.checks_.2 _ (List.getElem_mem hlt33)).open_
  refine IdxG.as (j:=k0) (by assumption) he_a2 (ArgG.mk (condE_p r hr (varsOf s[j1]) (rowL_of hrf) hto.lk (can_row hrf) (exA a2) (isEx ha2) (he_a2 ▸ hto.ck _ (List.getElem_mem _))) rfl ?_)
  rintro _ rfl
  refine cB (fun hc39=>?_) (fun hc39=>?_)
  ·have hq39:((cS (rowF r) (exA a2)):Int)=(0:Int):=by simpa using hc39
   have hz:cS (rowF r) s[j1].checks_[k0]=0:=by rw [he_a2]; simpa using hc39
   exact ⟨.inr rfl,_,Outs.cell Tryz.results25 row65 rfl rfl rfl rfl rfl ⟨[],FzP.aggL (.cons (.pure rfl) (.cons (.pure rfl) (.cons (.pure rfl) (.cons (.pure rfl) (.cons (FzP.nil (n:=7)) .nil)))))⟩,congrArg (fun z=>AV.agg (acA z)) (insS_no (fun h=>h.2 _ (List.getElem_mem _) hz)).symm⟩
  have hq39:¬ (((cS (rowF r) (exA a2)):Int)=(0:Int)):=by simpa using hc39
  refine ⟨by omega,⟨(k0+1),by omega,(cO (.cons rfl rfl (.cons rfl rfl (.cons rfl rfl (.cons rfl rfl (.cons rfl rfl (.cons rfl rfl (.cons rfl rfl (.cons rfl rfl .nil)))))))) (.cons rfl rfl rfl (.cons rfl rfl rfl .nil))),?_⟩⟩
  refine ⟨by omega,fun j hl h=>?_⟩
  rcases Nat.lt_succ_iff_lt_or_eq.1 h with h | rfl
  ·exact hj_k0 j hl h
  rw [he_a2]; simpa using hc39
 refine ArgG.mk (exactly_p tb (varsOf s[j1]) (vars_fit hto.cl) r hr hto.lk (by omega)) rfl ?_
 rintro _ rfl
 exact ⟨.inr rfl,_,Outs.cell Tryz.results25 row65 rfl rfl rfl rfl rfl ⟨[],FzP.pure rfl⟩,congrArg (fun z=>AV.agg (acA z)) (insS_yes ⟨hrf,fun e he=>by obtain ⟨j,hj,rfl⟩:=List.getElem_of_mem he; exact hj_k0 j hj (by omega)⟩).symm⟩
set_option maxRecDepth 100000 in
set_option maxHeartbeats 4000000 in
theorem stmIns_p (s:List GTab) (hs:FitL s (fun y=>FitTab y)) (nm:ByteArray) (rows:List (List GVal)) (hrows:FitL rows (fun y=>FitL y (fun y=>FitVal y))) (hss:SchS s) (hs0:0 < s.length) (hr5:rows.length≤5):PRet Tryz.prog 9 [.tree 5 (s.map tabA),.agg (bndA nm (varsOf s[0]) rows)] (fun q=>q=.tup [.tree 5 ((rows.map (insS 0 s[0])).map acA),.v (.int .i64 0)]):=by
 refine PRet.of_vc infOk [] [] Tryz.func9 rfl Tryz.ntmps9 rfl (by kernel_rfl) (cF ?_)
 refine cT (LenG.of ?_)
 refine LpG.via (fun _ h=>AWP.lazyT 6 5 rfl 2 rfl h) (LpG.on (fun k1:KL PAcc=>(⟨fL [(0,.tree 5 (s.map tabA)),(3,.ptr 0 0 0),(6,.sl 1 k1.L.length 0 k1.L.length),(27,.tree 1 (rows.map (fun l=>[.tree 3 (l.map gvA)]))),(28,.v (.int .i64 ((rows.length:Nat):Int))),(29,.v (.int .i64 ((k1.k:Nat):Int)))],hLz [(0,⟨0,(bndA nm (varsOf s[0]) rows),0,false⟩),(1,⟨k1.L.length,rF acA k1.L,5,Nat.beq k1.L.length 0⟩)],2⟩:St)) (fun k1=>(rows.length - k1.k)) (fun k1=>(k1.k≤rows.length∧k1.L.length=k1.k∧(∀ x∈k1.L,True)∧k1.L=(rows.take k1.k).map (insS 0 s[0]))) (⟨0,[]⟩:KL PAcc) (cO (.cons rfl rfl (.cons rfl rfl (.cons (by rfl) rfl (.cons rfl rfl (.cons rfl rfl (.cons rfl rfl .nil)))))) (.cons rfl rfl rfl (.cons (by rfl) rfl (rF_low row_acA _ _) .nil))) ⟨Nat.zero_le _,rfl,by simp,rfl⟩ ?_)
 rintro k1 hinv
 obtain ⟨hle_k1,hL_k1,hf_k1,hi_k1⟩:=hinv
 refine cL (fun hlt30=>?_) (fun hge30=>?_)
 ·refine IdxG.of (by assumption) (ArgG.mk (insertion_p s hs 0 rows[k1.k] (hrows.2 _ (List.getElem_mem _)) hss 0 rfl hs0) rfl ?_)
  rintro _ rfl
  refine OpG.mk _ _ _ 3 (LOp.appRow row_acA (a:=(insS 0 s[0] rows[k1.k])) Tryz.underlying56 sz65 zr65 by65 rfl rfl rfl (Src.slB rfl rfl rfl rfl) rfl (by omega) (by omega) (by unfold TV; omega)) rfl rfl ⟨by omega,⟨(⟨k1.k+1,k1.L++[(insS 0 s[0] rows[k1.k])]⟩:KL PAcc),(by show rows.length - (k1.k+1) < rows.length - k1.k; omega),(cO (.cons rfl rfl (.cons rfl rfl (.cons (by (rw [List.length_append]; rfl)) rfl (.cons rfl rfl (.cons rfl rfl (.cons rfl rfl .nil)))))) (.cons rfl rfl rfl (.cons (by (rw [List.length_append]; rfl)) rfl (rF_low row_acA _ _) .nil))),?_⟩⟩
  refine ⟨by show k1.k+1≤_; omega,by show (_++[_]).length=k1.k+1; rw [List.length_append,hL_k1]; rfl,fun _ _=>trivial,?_⟩
  show _++[_]=_; rw [ins_next hlt30,hi_k1]
 refine ⟨.inr rfl,_,Outs.two Tryz.results9 (OutR.tmp ⟨[1],FzP.rows row_acA (List.mem_singleton.2 rfl) rfl⟩) (OutR.tmp ⟨[],FzP.pure rfl⟩),?_⟩
 rw [hi_k1,List.take_of_length_le (by omega)]; rfl
set_option maxRecDepth 100000 in
set_option maxHeartbeats 4000000 in
theorem typed29_p (t:GTab) (ht:FitTab t) (r:List GVal) (hr:FitL r (fun y=>FitVal y)) (hcl:t.columns_.length≤1000):PRet Tryz.prog 7 [.agg (tabA t),.tree 3 (r.map gvA)] (fun r=>∃ b:Bool,r=.v (.bool b)):=by
 refine PRet.of_vc infOk [] [] Tryz.func7 rfl Tryz.ntmps7 rfl (by kernel_rfl) (LenG.of ?_)
 refine LenG.of (cB (fun hc12=>?_) (fun hc12=>?_))
 ·have hq12:¬ (((r.length:Nat):Int)=((t.columns_.length:Nat):Int)):=by simpa using hc12
  exact rV Tryz.results7 rfl ⟨_,rfl⟩
 have hq12:((r.length:Nat):Int)=((t.columns_.length:Nat):Int):=by simpa using hc12
 have hlen:r.length=t.columns_.length:=by have h:=hc12; simp at h; omega
 refine LenG.of (LpG.on (fun k0:Nat=>(⟨fL [(2,.ptr 0 0 0),(13,.tree 3 (r.map gvA)),(14,.v (.int .i64 ((r.length:Nat):Int))),(15,.v (.int .i64 ((k0:Nat):Int)))],hLz [(0,⟨0,tabA t,0,false⟩)],1⟩:St)) (fun k0=>(r.length - k0)) (fun k0=>(k0≤r.length)) 0 (cO (.cons rfl rfl (.cons rfl rfl (.cons rfl rfl (.cons rfl rfl .nil)))) (.cons rfl rfl rfl .nil)) (Nat.zero_le _) ?_)
 rintro k0 hinv
 have hgr_k0:r.length≤140737488355328:=hr.1
 have hle_k0:=hinv
 refine cL (fun hlt16=>?_) (fun hge16=>?_)
 ·refine IdxG.of (by assumption) (ArgG.mk (valid04x_p (r[k0]) (hr.2 _ (List.getElem_mem _))) rfl ?_)
  rintro _ rfl
  refine cB (fun hg23=>?_) (fun hg23=>?_)
  ·refine ⟨by kernel_rfl,cT ?_⟩
   exact rV Tryz.results7 rfl ⟨_,rfl⟩
  refine cN (fun hq27=>?_) (fun hq27=>?_)
  ·refine IdxG.of (by omega) ⟨by kernel_rfl,cN (fun hq38=>?_) (fun hq38=>?_)⟩
   ·exact rV Tryz.results7 rfl ⟨_,rfl⟩
   refine ⟨by omega,⟨(k0+1),by omega,(cO (.cons rfl rfl (.cons rfl rfl (.cons rfl rfl (.cons rfl rfl .nil)))) (.cons rfl rfl rfl .nil)),?_⟩⟩
   omega
  refine ⟨by kernel_rfl,cF ?_⟩
  refine ⟨by omega,⟨(k0+1),by omega,(cO (.cons rfl rfl (.cons rfl rfl (.cons rfl rfl (.cons rfl rfl .nil)))) (.cons rfl rfl rfl .nil)),?_⟩⟩
  omega
 exact rV Tryz.results7 rfl ⟨_,rfl⟩
set_option maxRecDepth 100000 in
set_option maxHeartbeats 4000000 in
theorem lawIns_p (s:List GTab) (hs:FitL s (fun y=>FitTab y)) (rows:List (List GVal)) (hrows:FitL rows (fun y=>FitL y (fun y=>FitVal y))) (o:List GVal) (ho:FitL o (fun y=>FitVal y)) (haw:PRet Tryz.prog 5 [] (fun r=>r=.v (.bool true))):PRet Tryz.prog 3 [.tree 5 (s.map tabA),.tree 1 (rows.map (fun l=>[.tree 3 (l.map gvA)])),.tree 3 (o.map gvA)] (fun r=>r=.v (.bool true)):=by
 refine PRet.of_vc infOk [50] [] Tryz.func3 rfl Tryz.ntmps3 rfl (by kernel_rfl) (ArgG.mk (haw) rfl ?_)
 rintro _ rfl
 refine cF (ArgG.mk (schema29_p s hs) rfl ?_)
 rintro _ ⟨b1,rfl,hb1⟩
 refine cB (fun hg21=>?_) (fun hg21=>?_)
 ·refine cT (cT ?_)
  refine ArgG.mk (haw) rfl ?_
  rintro _ rfl
  exact rV Tryz.results3 rfl rfl
 have hss0:=hb1 (nb hg21)
 refine LenG.of (cE (fun hq26=>?_) (fun hq26=>?_))
 ·refine cT (ArgG.mk (haw) rfl ?_)
  rintro _ rfl
  exact rV Tryz.results3 rfl rfl
 refine LenG.of (cD (fun hq30=>?_) (fun hq30=>?_))
 ·refine ArgG.mk (haw) rfl ?_
  rintro _ rfl
  exact rV Tryz.results3 rfl rfl
 have hs0:0 < s.length:=by omega
 have htb:=hss0.tab _ (List.getElem_mem hs0)
 have hto:=htb.to
 have hc5:=htb.c5
 have hvl:=varsLen s[0]
 have htf:=hs.2 _ (List.getElem_mem hs0)
 have hr5:rows.length≤5:=by omega
 refine LenG.of (LpG.on (fun k0:Nat=>(⟨fL [(0,.tree 5 (s.map tabA)),(1,.tree 1 (rows.map (fun l=>[.tree 3 (l.map gvA)]))),(2,.tree 3 (o.map gvA)),(32,.tree 1 (rows.map (fun l=>[.tree 3 (l.map gvA)]))),(33,.v (.int .i64 ((rows.length:Nat):Int))),(34,.v (.int .i64 ((k0:Nat):Int)))],hLz [],0⟩:St)) (fun k0=>(rows.length - k0)) (fun k0=>(k0≤rows.length)) 0 (cO (.cons rfl rfl (.cons rfl rfl (.cons rfl rfl (.cons rfl rfl (.cons rfl rfl (.cons rfl rfl .nil)))))) .nil) (Nat.zero_le _) ?_)
 rintro k0 hinv
 have hgr_k0:rows.length≤140737488355328:=hrows.1
 have hle_k0:=hinv
 refine cL (fun hlt35=>?_) (fun hge35=>?_)
 ·refine IdxG.of (by assumption) (IdxG.of (j:=0) (by assumption) ?_)
  refine ArgG.mk (typed29_p (s[0]) (hs.2 _ (List.getElem_mem _)) (rows[k0]) (hrows.2 _ (List.getElem_mem _)) (by omega)) rfl ?_
  rintro _ ⟨b5,rfl⟩
  refine cB (fun hc43=>?_) (fun hc43=>?_)
  ·exact rV Tryz.results3 rfl rfl
  refine ⟨by omega,⟨(k0+1),by omega,(cO (.cons rfl rfl (.cons rfl rfl (.cons rfl rfl (.cons rfl rfl (.cons rfl rfl (.cons rfl rfl .nil)))))) .nil),?_⟩⟩
  omega
 refine IdxG.of (j:=0) (by assumption) (OpG.nw (LOp.fzN (LOp.bs Tryz.underlying51 sz3 zr3 rfl rfl rfl rfl) (fun η' h=>FzP.slMap (f:=iA) (l:=[(0:Int)]) (List.mem_singleton.2 rfl) h rfl rfl rfl rfl rfl (fun a _=>⟨rfl,rfl⟩))) rfl ?_)
 refine IdxG.of (j:=0) (by assumption) (ArgG.mk (variables12_p (s[0]) (hs.2 _ (List.getElem_mem _)) (by omega)) rfl ?_)
 rintro _ rfl
 refine ⟨by kernel_rfl,ArgG.mk (stmIns_p s hs s[0].name_ rows hrows hss0 hs0 hr5) rfl ?_⟩
 rintro _ rfl
 refine cF (LenG.of ?_)
 refine LenG.of (cB (fun hc71=>?_) (fun hc71=>?_))
 ·exfalso; simp at hc71
 have hq71:((((rows.map (insS 0 s[0]))).length:Nat):Int)=((rows.length:Nat):Int):=by simp
 refine LenG.of (LpG.on (fun k2:Nat=>(⟨fL [(0,.tree 5 (s.map tabA)),(2,.tree 3 (o.map gvA)),(10,.tree 5 (((rows.map (insS 0 s[0]))).map acA)),(72,.tree 1 (rows.map (fun l=>[.tree 3 (l.map gvA)]))),(73,.v (.int .i64 ((rows.length:Nat):Int))),(74,.v (.int .i64 ((k2:Nat):Int)))],hLz [],2⟩:St)) (fun k2=>(rows.length - k2)) (fun k2=>(k2≤rows.length)) 0 (cO (.cons rfl rfl (.cons rfl rfl (.cons rfl rfl (.cons rfl rfl (.cons rfl rfl (.cons rfl rfl .nil)))))) .nil) (Nat.zero_le _) ?_)
 rintro k2 hinv
 have hgr_k2:rows.length≤140737488355328:=hrows.1
 have hle_k2:=hinv
 refine cL (fun hlt75=>?_) (fun hge75=>?_)
 ·have hlt:k2 < rows.length:=by omega
  have hge:(rows.map (insS 0 s[0]))[k2]=insS 0 s[0] rows[k2]:=List.getElem_map _
  refine IdxG.of (by assumption) (IdxG.of (by omega) ?_)
  refine ArgG.mk (fits29_p (rows.map (insS 0 s[0]))[k2] s hs 0 true 0 rfl hs0 (by rw [hge]; exact ins_ok htb)) rfl ?_
  rintro _ ⟨b8,rfl,hb8⟩
  have hbt8:b8=true:=hb8.2 (by rw [hge]; exact ⟨ins_w,ins_tab,ins_ref htb (by omega)⟩)
  refine cB (fun hg86=>?_) (fun hg86=>?_)
  ·exact fits_dead (by assumption) hg86
  refine IdxG.of (by omega) (ArgG.mk (matches_p (rows.map (insS 0 s[0]))[k2].p rows[k2] (hrows.2 _ (List.getElem_mem _)) (by rw [hge]; exact ins_cols) (by rw [hge]; exact (by rw [ins_vars]; exact vars_fit hto.cl)) (by rw [hge]; exact (by rw [ins_vars]; exact hto.lk)) (by rw [hge]; exact (ins_hc htb).1) (by rw [hge]; exact (ins_hc htb).2)) rfl ?_)
  rintro _ ⟨b9,rfl,hb9⟩
  rw [hge,ins_match] at hb9
  refine IdxG.of (j:=0) (by assumption) (ArgG.mk (possible28_p s[0] htf rows[k2] (hrows.2 _ (List.getElem_mem _)) hto) rfl ?_)
  rintro _ ⟨b10,rfl,hb10⟩
  refine ⟨by kernel_rfl,cB (fun hc100=>?_) (fun hc100=>?_)⟩
  ·exact (insD1 (by assumption) (by assumption) hc100).elim
  refine LenG.of (LenG.of ?_)
  refine cE (fun hq106=>?_) (fun hq106=>?_)
  ·refine IdxG.of (by omega) (ArgG.mk (matches_p (rows.map (insS 0 s[0]))[k2].p o ho (by rw [hge]; exact ins_cols) (by rw [hge]; exact (by rw [ins_vars]; exact vars_fit hto.cl)) (by rw [hge]; exact (by rw [ins_vars]; exact hto.lk)) (by rw [hge]; exact (ins_hc htb).1) (by rw [hge]; exact (ins_hc htb).2)) rfl ?_)
   rintro _ ⟨b11,rfl,hb11⟩
   rw [hge,ins_match] at hb11
   refine IdxG.of (j:=0) (by assumption) (ArgG.mk (possible28_p s[0] htf rows[k2] (hrows.2 _ (List.getElem_mem _)) hto) rfl ?_)
   rintro _ ⟨b12,rfl,hb12⟩
   refine cB (fun hg119=>?_) (fun hg119=>?_)
   ·refine ArgG.mk (same28_p rows[k2] (hrows.2 _ (List.getElem_mem _)) o ho) rfl ?_
    rintro _ ⟨b13,rfl,hb13⟩
    refine ⟨by kernel_rfl,cB (fun hc125=>?_) (fun hc125=>?_)⟩
    ·exact (insD2 (by assumption) (by assumption) hg119 (by assumption) hc125).elim
    refine ⟨by omega,⟨(k2+1),by omega,(cO (.cons rfl rfl (.cons rfl rfl (.cons rfl rfl (.cons rfl rfl (.cons rfl rfl (.cons rfl rfl .nil)))))) .nil),?_⟩⟩
    omega
   refine ⟨by kernel_rfl,cB (fun hc125=>?_) (fun hc125=>?_)⟩
   ·exact (insD3 (by assumption) (by assumption) hg119 hc125).elim
   refine ⟨by omega,⟨(k2+1),by omega,(cO (.cons rfl rfl (.cons rfl rfl (.cons rfl rfl (.cons rfl rfl (.cons rfl rfl (.cons rfl rfl .nil)))))) .nil),?_⟩⟩
   omega
  refine ⟨by kernel_rfl,cF ?_⟩
  refine ⟨by omega,⟨(k2+1),by omega,(cO (.cons rfl rfl (.cons rfl rfl (.cons rfl rfl (.cons rfl rfl (.cons rfl rfl (.cons rfl rfl .nil)))))) .nil),?_⟩⟩
  omega
 exact rV Tryz.results3 rfl rfl
end Go.Proofs.YthpangmpihkniaaGreatDoor
namespace Go.Proofs.YthpangmpihkniaaGreatDoor
open Go.RowKit Go.ChangeShapes Go.WideShapes Go.Deep
set_option linter.unusedVariables false
set_option linter.unusedSimpArgs false
set_option maxRecDepth 100000
def LtB (n:Nat):Nat→Prop:=fun k=>k < n
/-- Cells read as plain values. -/
def TRL (T:Nat→Prop) (w:World) (xs:List AV) (cs:List Value):Prop:=xs.length=cs.length∧∀ i (h:i < xs.length) (h':i < cs.length),TR T w xs[i] cs[i]
theorem TRL.one {T:Nat→Prop} {w:World} {a:AV} {x:Value} (h:TR T w a x):TRL T w [a] [x]:=⟨rfl,fun i h1 h2=>by
 have:i=0:=by simp at h1; omega
 subst this; exact h⟩
theorem TRL.append {T:Nat→Prop} {w:World} {xs ys:List AV} {cs ds:List Value} (h1:TRL T w xs cs) (h2:TRL T w ys ds):TRL T w (xs++ys) (cs++ds):=by
 refine ⟨by simp [h1.1,h2.1],fun i h h'=>?_⟩
 have e:=h1.1
 by_cases hi:i < xs.length
 ·rw [List.getElem_append_left hi,List.getElem_append_left (by omega)]
  exact h1.2 i hi (by omega)
 rw [List.getElem_append_right (by omega),List.getElem_append_right (by omega)]
 simp only [← e]
 exact h2.2 _ _ _
theorem TRL.done {T:Nat→Prop} {w:World} {cs:List Value} {n:Nat} (h:cs.length=n):TRL T w [] (cs.drop n):=by
 rw [← h,List.drop_length]; exact ⟨rfl,fun i h=>absurd h (by simp)⟩
theorem TRL.piece {T:Nat→Prop} {w:World} {xs ys:List AV} {cs:List Value} {o m:Nat} (h1:TRL T w xs ((cs.drop o).take m)) (h2:TRL T w ys (cs.drop (o+m))):TRL T w (xs++ys) (cs.drop o):=by
 have:=h1.append h2
 rwa [← List.drop_drop,List.take_append_drop] at this
theorem TRL.val {T:Nat→Prop} {w:World} {cs:List Value} {x:Value} (h:cs=[x]):TRL T w [.v x] cs:=by rw [h]; exact .one (.v x)
/-- Whatever type t's cells read as, within the reach, they read as some 'a'. -/
def OpenF {α:Type} (P:Program) (R:α→List AV) (Wf:α→Prop) (t:TypeId) (N:Nat):Prop :=
 ∀ {H:Type} (enc:TypeId×Value→H) (W:World) (fuel:Nat) (cs:List Value) (d:DataW H) (ps:List MemPlace),fuel≤N →
  DataW.trod enc P W 0 (fun _=>true) true fuel t cs=some (d,ps)→(∀ m∈d.weights P t,m≤140737488351232)→∃ a,Wf a∧TRL (LtB W.heap.size) W (R a) cs
def OpenR {α:Type} (P:Program) (R:α→List AV) (Wf:α→Prop) (t:TypeId):Prop :=
 ∀ {H:Type} (enc:TypeId×Value→H) (W:World) (fuel:Nat) (cs:List Value) (d:DataW H) (ps:List MemPlace),
  DataW.trod enc P W 0 (fun _=>true) true fuel t cs=some (d,ps)→(∀ m∈d.weights P t,m≤140737488351232)→∃ a,Wf a∧TRL (LtB W.heap.size) W (R a) cs
theorem OpenR.f {α:Type} {P:Program} {R:α→List AV} {Wf:α→Prop} {t:TypeId} (h:OpenR P R Wf t) (N:Nat):OpenF P R Wf t N:=fun enc W fuel cs d ps _ h1 h2=>h enc W fuel cs d ps h1 h2
theorem OpenR.of {α:Type} {P:Program} {R:α→List AV} {Wf:α→Prop} {t:TypeId} (h:∀ N,OpenF P R Wf t N):OpenR P R Wf t:=fun enc W fuel cs d ps h1 h2=>h fuel enc W fuel cs d ps (Nat.le_refl _) h1 h2
theorem weightsAll_mem {H:Type} {P:Program} {e:TypeId}:∀ {ds:List (DataW H)} {d:DataW H},d∈ds→∀ m∈d.weights P e,m∈DataW.weightsAll P e ds
 | x :: r,d,h,m,hm=>by
  simp only [DataW.weightsAll,List.mem_append]
  rcases List.mem_cons.1 h with rfl | h
  ·exact .inl hm
  ·exact .inr (weightsAll_mem h m hm)
theorem choose_lt' {α:Type} [Inhabited α] {m:Nat} {p:Nat→α→Prop} (h:∀ i,i < m→∃ y,p i y):∃ f:Nat→α,∀ i,i < m→p i (f i):=by
 refine ⟨fun i=>if h':i < m then Classical.choose (h i h') else default,fun i hi=>?_⟩
 simp only [hi,dif_pos]
 exact Classical.choose_spec (h i hi)
theorem OpenF.slice {α:Type} {P:Program} {R:α→List AV} {Wf:α→Prop} {t e q N:Nat} (hR:OpenF P R Wf e N) (ht:P.underlying t=some (.slice e)) (hn:P.cellsOf e=q) (hq:∀ a,Wf a→(R a).length=q) (hpos:1≤q) (hb:1≤P.bytesOf e) :
  OpenF P (fun l:List α=>[.tree q (l.map R)]) (fun l=>l.length≤140737488355328∧∀ a∈l,Wf a) t (N+1):=by
 intro H enc W fuel cs d ps hN h hw
 rcases DataW.trod_slice ht h with ⟨rfl,_⟩ | ⟨a,len,m,elems,rest,n,hfu,rfl,hx,_,hl,hm,hel,hi,_,_⟩
 ·exact ⟨[],⟨Nat.zero_le _,fun a h=>by cases h⟩,.one (.tree0 (Nat.zero_le _))⟩
 simp only [Prod.mk.injEq] at hx
 obtain ⟨rfl,_⟩:=hx
 simp only [DataW.weights,ht,List.length_map,List.mem_cons,List.mem_append] at hw
 have hcap:=hw _ (.inl rfl)
 rw [hel] at hcap
 have hlen:len≤140737488355328:=by
  have:len * 1≤(len+rest.length) * P.bytesOf e:=Nat.mul_le_mul (by omega) hb
  omega
 have hex:∀ i,i < len→∃ (y:α×List Value),(Wf y.1∧TRL (LtB W.heap.size) W (R y.1) y.2)∧W.cells? 0 (a.add (i * P.cellsOf e)) (P.cellsOf e)=some y.2:=by
  intro i hil
  have h1:=hi i hil
  have hil':i < elems.length:=by omega
  rw [List.getElem?_eq_getElem hil'] at h1
  obtain ⟨cs',hc,ht'⟩:=Option.bind_eq_some_iff.1 h1
  obtain ⟨y,hy⟩:=hR enc W n cs' elems[i].1 elems[i].2 (by omega) ht' (fun j hj=>hw j (.inr (.inl (weightsAll_mem (List.mem_map.2 ⟨elems[i],List.getElem_mem _,rfl⟩) j hj))))
  exact ⟨(y,cs'),hy,hc⟩
 by_cases h0:len=0
 ·subst h0
  exact ⟨[],⟨Nat.zero_le _,fun a h=>by cases h⟩,.one (.tree0 hm)⟩
 obtain ⟨y0,hy0⟩:=hex 0 (by omega)
 have:Inhabited (α×List Value):=⟨y0⟩
 obtain ⟨f,hf⟩:=choose_lt' hex
 obtain ⟨b,off,spot⟩:=a
 have hc0:=World.cells?_some hy0.2
 have hcell0:=hc0.2.2 0 (by rw [hn]; exact hpos)
 have hsome:∃ v0,W.cell? ((⟨b,off,spot⟩:Addr).add (0 * P.cellsOf e))=some v0:=by
  have hlen0:0 < y0.2.length:=by rw [hc0.2.1,hn]; exact hpos
  refine ⟨y0.2[0],?_⟩
  have:=hcell0
  rw [List.getElem?_eq_getElem hlen0] at this
  simpa [Addr.add] using this
 obtain ⟨v0,hv0⟩:=hsome
 have hspot:spot=none:=by simpa [Addr.add] using World.cell?_spot hv0
 subst hspot
 have hblk:b < W.heap.size:=by
  have:=World.block_lt_of_cell? W _ hv0
  simpa [Addr.add] using this
 refine ⟨(List.range len).map fun i=>(f i).1,⟨by simpa using hlen,fun a ha=>?_⟩,.one ?_⟩
 ·obtain ⟨i,hi',rfl⟩:=List.mem_map.1 ha
  exact (hf i (by simpa using hi')).1.1
 have hlr:(((List.range len).map fun i=>(f i).1).map R).length=len:=by simp
 have hrow:∀ k (h:k < (((List.range len).map fun i=>(f i).1).map R).length),(((List.range len).map fun i=>(f i).1).map R)[k]=R (f k).1:=fun k h=>by simp
 have hT:=TR.tree (T:=LtB W.heap.size) (w:=W) (n:=q) (xs:=((List.range len).map fun i=>(f i).1).map R) (b:=b) (off:=off) (cap:=m) (fun k j=>(f k).2.getD j undef) hblk (by rw [hlr]; exact hl) hm (by rw [hlr]; exact hlen)
  (fun k h=>by rw [hrow k h]; exact hq _ (hf k (by rw [hlr] at h; exact h)).1.1)
  (fun k j hk hj=>by
   rw [hlr] at hk
   have hck:=World.cells?_some (hf k hk).2
   have hjl:j < P.cellsOf e:=by rw [hn]; exact hj
   have hg:=hck.2.2 j hjl
   rw [add_add,hn] at hg
   have hl2:j < (f k).2.length:=by rw [hck.2.1]; exact hjl
   have e1:(⟨b,off,none⟩:Addr).add (k * q+j)=⟨b,off+k * q+j,none⟩:=by
    by_cases hz:k * q+j=0
    ·have h1:k * q=0:=by omega
     have h2:j=0:=by omega
     rw [h1,h2]; simp [Addr.add]
    ·unfold Addr.add
     rw [if_neg hz]
     simp [Nat.add_assoc]
   rw [← e1,hg]
   simp [List.getD,hl2])
  (fun k h j h'=>by
   have hk:k < len:=by rw [hlr] at h; exact h
   have hr:=(hf k hk).1.2
   have hjr:j < (R (f k).1).length:=by rw [hrow k h] at h'; exact h'
   have hl2:j < (f k).2.length:=by rw [← hr.1]; exact hjr
   have:=hr.2 j hjr hl2
   simp only [hrow k h]
   rw [getD_at hl2]
   exact this)
 rw [hlr] at hT
 exact hT
theorem OpenR.slice {α:Type} {P:Program} {R:α→List AV} {Wf:α→Prop} {t e q:Nat} (hR:OpenR P R Wf e) (ht:P.underlying t=some (.slice e)) (hn:P.cellsOf e=q) (hq:∀ a,(R a).length=q) (hpos:1≤q) (hb:1≤P.bytesOf e) :
  OpenR P (fun l:List α=>[.tree q (l.map R)]) (fun l=>l.length≤140737488355328∧∀ a∈l,Wf a) t:=OpenR.of fun N=>fun enc W fuel cs d ps hN h1 h2=>OpenF.slice (hR.f N) ht hn (fun a _=>hq a) hpos hb enc W fuel cs d ps (by omega) h1 h2
/-- A struct, field by field. -/
theorem open_structF {P:Program} {t:TypeId} {fs:Array Field} (ht:P.underlying t=some (.struct fs)) {H:Type} {enc:TypeId×Value→H} {W:World} {fuel:Nat} {cs:List Value} {d:DataW H} {ps:List MemPlace}
  (h:DataW.trod enc P W 0 (fun _=>true) true fuel t cs=some (d,ps)) (hw:∀ m∈d.weights P t,m≤140737488351232) :
  ∃ n,fuel=n+1∧cs.length=P.cellsOf t∧∀ (i:Nat) (f:Field),fs[i]? = some f →
   ∃ (d':DataW H) (ps':List MemPlace),DataW.trod enc P W 0 (fun _=>true) true n f.type ((cs.drop f.offset).take (P.cellsOf f.type))=some (d',ps')∧∀ q∈d'.weights P f.type,q≤140737488351232:=by
 obtain ⟨xs,n,hfu,hx,hlen,hxl,hf⟩:=DataW.trod_struct ht h
 simp only [Prod.mk.injEq] at hx
 obtain ⟨rfl,_⟩:=hx
 refine ⟨n,hfu,hlen,fun i f hi=>?_⟩
 have hil:i < fs.size:=(Array.getElem?_eq_some_iff.1 hi).1
 have hx':xs[i]? = some (xs[i]'(by omega)):=List.getElem?_eq_getElem (by omega)
 have h1:=hf i f hi
 rw [hx'] at h1
 refine ⟨_,_,h1,fun q hq=>hw q ?_⟩
 simp only [DataW.weights,ht]
 refine DataW.weights_mem_each (j:=i) (t:=f.type) (d:=(xs[i]'(by omega)).1) ?_ ?_ q hq
 ·simp only [List.getElem?_map,Array.getElem?_toList,hi,Option.map_some]
 simp only [List.getElem?_map,hx',Option.map_some]
theorem openR_int {P:Program} {t:TypeId} (ht:P.underlying t=some (.int .i64)):OpenR P iA (fun x=>-9223372036854775808≤x∧x≤9223372036854775807) t:=by
 intro H enc W fuel cs d ps h hw
 obtain ⟨x,h1,_,h2⟩:=DataW.trod_int ht h
 exact ⟨x,bounds_i64 h2,.val h1⟩
theorem openR_bool {P:Program} {t:TypeId} (ht:P.underlying t=some .bool):OpenR P (fun b:Bool=>[.v (.bool b)]) (fun _=>True) t:=by
 intro H enc W fuel cs d ps h hw
 obtain ⟨x,h1,_⟩:=DataW.trod_bool ht h
 exact ⟨x,trivial,.val h1⟩
theorem openR_str {P:Program} {t:TypeId} (ht:P.underlying t=some .string):OpenR P (fun s:ByteArray=>[.v (.string s)]) (fun s=>s.size≤140737488351232) t:=by
 intro H enc W fuel cs d ps h hw
 obtain ⟨x,h1,h2,_⟩:=DataW.trod_string ht h
 simp only [Prod.mk.injEq] at h2
 obtain ⟨rfl,_⟩:=h2
 refine ⟨x,?_,.val h1⟩
 have:=hw x.data.toList.length (by simp [DataW.weights])
 have e:x.data.toList.length=x.size:=by simp
 omega
end Go.Proofs.YthpangmpihkniaaGreatDoor
namespace Go.Proofs.YthpangmpihkniaaGreatDoor
open Go.RowKit Go.ChangeShapes Go.WideShapes Go.Deep
set_option linter.unusedVariables false
set_option linter.unusedSimpArgs false
set_option maxRecDepth 100000
theorem oVal:OpenR Tryz.prog gvA FitVal 45:=by
 intro H enc W fuel cs d ps h hw
 obtain ⟨n,hn,hlen,hf⟩:=open_structF Tryz.underlying45 h hw
 rw [show Tryz.prog.cellsOf 45=3 by kernel_rfl] at hlen
 obtain ⟨_,_,h0,w0⟩:=hf 0 _ rfl
 obtain ⟨x0,r0,e0⟩:=(openR_int Tryz.underlying3) enc W _ _ _ _ h0 w0
 change TRL _ _ _ (List.take (Tryz.prog.cellsOf 3) (List.drop 0 cs)) at e0
 rw [show Tryz.prog.cellsOf 3=1 by kernel_rfl] at e0
 obtain ⟨_,_,h1,w1⟩:=hf 1 _ rfl
 obtain ⟨x1,r1,e1⟩:=(openR_int Tryz.underlying2) enc W _ _ _ _ h1 w1
 change TRL _ _ _ (List.take (Tryz.prog.cellsOf 2) (List.drop 1 cs)) at e1
 rw [show Tryz.prog.cellsOf 2=1 by kernel_rfl] at e1
 obtain ⟨_,_,h2,w2⟩:=hf 2 _ rfl
 obtain ⟨x2,r2,e2⟩:=(openR_str Tryz.underlying9) enc W _ _ _ _ h2 w2
 change TRL _ _ _ (List.take (Tryz.prog.cellsOf 9) (List.drop 2 cs)) at e2
 rw [show Tryz.prog.cellsOf 9=1 by kernel_rfl] at e2
 have hh:=(TRL.piece (o:=0) (m:=1) e0 (TRL.piece (o:=1) (m:=1) e1 (TRL.piece (o:=2) (m:=1) e2 (TRL.done hlen))))
 exact ⟨⟨x0,x1,x2⟩,⟨r2⟩,hh⟩
theorem oExF:∀ N,OpenF Tryz.prog rwA IsEx 47 N:=by
 intro N
 induction N with
 | zero=>
  intro H enc W fuel cs d ps hN h hw
  obtain ⟨n,e,_⟩:=open_structF Tryz.underlying47 h hw
  omega
 | succ N ih=>
 intro H enc W fuel cs d ps hN h hw
 obtain ⟨n,hn,hlen,hf⟩:=open_structF Tryz.underlying47 h hw
 rw [show Tryz.prog.cellsOf 47=8 by kernel_rfl] at hlen
 obtain ⟨_,_,h0,w0⟩:=hf 0 _ rfl
 obtain ⟨x0,r0,e0⟩:=(openR_int Tryz.underlying3) enc W _ _ _ _ h0 w0
 change TRL _ _ _ (List.take (Tryz.prog.cellsOf 3) (List.drop 0 cs)) at e0
 rw [show Tryz.prog.cellsOf 3=1 by kernel_rfl] at e0
 obtain ⟨_,_,h1,w1⟩:=hf 1 _ rfl
 obtain ⟨x1,r1,e1⟩:=(openR_str Tryz.underlying9) enc W _ _ _ _ h1 w1
 change TRL _ _ _ (List.take (Tryz.prog.cellsOf 9) (List.drop 1 cs)) at e1
 rw [show Tryz.prog.cellsOf 9=1 by kernel_rfl] at e1
 obtain ⟨_,_,h2,w2⟩:=hf 2 _ rfl
 obtain ⟨x2,r2,e2⟩:=(openR_str Tryz.underlying9) enc W _ _ _ _ h2 w2
 change TRL _ _ _ (List.take (Tryz.prog.cellsOf 9) (List.drop 2 cs)) at e2
 rw [show Tryz.prog.cellsOf 9=1 by kernel_rfl] at e2
 obtain ⟨_,_,h3,w3⟩:=hf 3 _ rfl
 obtain ⟨x3,r3,e3⟩:=(openR_int Tryz.underlying3) enc W _ _ _ _ h3 w3
 change TRL _ _ _ (List.take (Tryz.prog.cellsOf 3) (List.drop 3 cs)) at e3
 rw [show Tryz.prog.cellsOf 3=1 by kernel_rfl] at e3
 obtain ⟨_,_,h4,w4⟩:=hf 4 _ rfl
 obtain ⟨x4,r4,e4⟩:=(oVal) enc W _ _ _ _ h4 w4
 change TRL _ _ _ (List.take (Tryz.prog.cellsOf 45) (List.drop 4 cs)) at e4
 rw [show Tryz.prog.cellsOf 45=3 by kernel_rfl] at e4
 obtain ⟨_,_,h5,w5⟩:=hf 5 _ rfl
 obtain ⟨x5,r5,e5⟩:=(OpenF.slice ih Tryz.underlying33 (show Tryz.prog.cellsOf 47=8 by kernel_rfl) (fun a h=>by cases h; rfl) (by decide) (Nat.le_of_ble_eq_true (by kernel_rfl))) enc W _ _ _ _ (by omega) h5 w5
 change TRL _ _ _ (List.take (Tryz.prog.cellsOf 33) (List.drop 7 cs)) at e5
 rw [show Tryz.prog.cellsOf 33=1 by kernel_rfl] at e5
 have hh:=(TRL.piece (o:=0) (m:=1) e0 (TRL.piece (o:=1) (m:=1) e1 (TRL.piece (o:=2) (m:=1) e2 (TRL.piece (o:=3) (m:=1) e3 (TRL.piece (o:=4) (m:=3) e4 (TRL.piece (o:=7) (m:=1) e5 (TRL.done hlen)))))))
 exact ⟨exA ⟨x0,x1,x2,x3,x4,x5⟩,isEx ⟨r5,r1,r2,r4⟩,hh⟩
theorem oExs:OpenR Tryz.prog (fun l:List (List AV)=>[.tree 8 (l.map rwA)]) (fun l=>l.length≤140737488355328∧∀ a∈l,IsEx a) 33:=OpenR.of fun N=>fun enc W fuel cs d ps hN h1 h2=>OpenF.slice (oExF N) Tryz.underlying33 (show Tryz.prog.cellsOf 47=8 by kernel_rfl) (fun a h=>by cases h; rfl) (by decide) (Nat.le_of_ble_eq_true (by kernel_rfl)) enc W fuel cs d ps (by omega) h1 h2
theorem oCol:OpenR Tryz.prog colA FitCol 81:=by
 intro H enc W fuel cs d ps h hw
 obtain ⟨n,hn,hlen,hf⟩:=open_structF Tryz.underlying81 h hw
 rw [show Tryz.prog.cellsOf 81=6 by kernel_rfl] at hlen
 obtain ⟨_,_,h0,w0⟩:=hf 0 _ rfl
 obtain ⟨x0,r0,e0⟩:=(openR_str Tryz.underlying9) enc W _ _ _ _ h0 w0
 change TRL _ _ _ (List.take (Tryz.prog.cellsOf 9) (List.drop 0 cs)) at e0
 rw [show Tryz.prog.cellsOf 9=1 by kernel_rfl] at e0
 obtain ⟨_,_,h1,w1⟩:=hf 1 _ rfl
 obtain ⟨x1,r1,e1⟩:=(openR_int Tryz.underlying3) enc W _ _ _ _ h1 w1
 change TRL _ _ _ (List.take (Tryz.prog.cellsOf 3) (List.drop 1 cs)) at e1
 rw [show Tryz.prog.cellsOf 3=1 by kernel_rfl] at e1
 obtain ⟨_,_,h2,w2⟩:=hf 2 _ rfl
 obtain ⟨x2,r2,e2⟩:=(openR_int Tryz.underlying2) enc W _ _ _ _ h2 w2
 change TRL _ _ _ (List.take (Tryz.prog.cellsOf 2) (List.drop 2 cs)) at e2
 rw [show Tryz.prog.cellsOf 2=1 by kernel_rfl] at e2
 obtain ⟨_,_,h3,w3⟩:=hf 3 _ rfl
 obtain ⟨x3,r3,e3⟩:=(openR_int Tryz.underlying2) enc W _ _ _ _ h3 w3
 change TRL _ _ _ (List.take (Tryz.prog.cellsOf 2) (List.drop 3 cs)) at e3
 rw [show Tryz.prog.cellsOf 2=1 by kernel_rfl] at e3
 obtain ⟨_,_,h4,w4⟩:=hf 4 _ rfl
 obtain ⟨x4,r4,e4⟩:=(openR_int Tryz.underlying3) enc W _ _ _ _ h4 w4
 change TRL _ _ _ (List.take (Tryz.prog.cellsOf 3) (List.drop 4 cs)) at e4
 rw [show Tryz.prog.cellsOf 3=1 by kernel_rfl] at e4
 obtain ⟨_,_,h5,w5⟩:=hf 5 _ rfl
 obtain ⟨x5,r5,e5⟩:=(openR_bool Tryz.underlying4) enc W _ _ _ _ h5 w5
 change TRL _ _ _ (List.take (Tryz.prog.cellsOf 4) (List.drop 5 cs)) at e5
 rw [show Tryz.prog.cellsOf 4=1 by kernel_rfl] at e5
 have hh:=(TRL.piece (o:=0) (m:=1) e0 (TRL.piece (o:=1) (m:=1) e1 (TRL.piece (o:=2) (m:=1) e2 (TRL.piece (o:=3) (m:=1) e3 (TRL.piece (o:=4) (m:=1) e4 (TRL.piece (o:=5) (m:=1) e5 (TRL.done hlen)))))))
 exact ⟨⟨x0,x1,x2,x3,x4,x5⟩,⟨r0⟩,hh⟩
theorem oCols:OpenR Tryz.prog (fun l:List GCol=>[.tree 6 (l.map colA)]) (fun l=>l.length≤140737488355328∧∀ a∈l,FitCol a) 30:=OpenR.slice oCol Tryz.underlying30 (show Tryz.prog.cellsOf 81=6 by kernel_rfl) (fun _=>rfl) (by decide) (Nat.le_of_ble_eq_true (by kernel_rfl))
theorem oInts:OpenR Tryz.prog (fun l:List Int=>[.tree 1 (l.map iA)]) (fun l=>l.length≤140737488355328∧∀ a∈l,-9223372036854775808≤a∧a≤9223372036854775807) 51:=OpenR.slice (openR_int Tryz.underlying3) Tryz.underlying51 (show Tryz.prog.cellsOf 3=1 by kernel_rfl) (fun _=>rfl) (by decide) (Nat.le_of_ble_eq_true (by kernel_rfl))
theorem oKeys:OpenR Tryz.prog (fun l:List (List Int)=>[.tree 1 (l.map (fun l=>[.tree 1 (l.map iA)]))]) (fun l=>l.length≤140737488355328∧∀ a∈l,a.length≤140737488355328∧∀ b∈a,-9223372036854775808≤b∧b≤9223372036854775807) 31:=OpenR.slice oInts Tryz.underlying31 (show Tryz.prog.cellsOf 51=1 by kernel_rfl) (fun _=>rfl) (by decide) (Nat.le_of_ble_eq_true (by kernel_rfl))
theorem oFor:OpenR Tryz.prog forA FitFor 111:=by
 intro H enc W fuel cs d ps h hw
 obtain ⟨n,hn,hlen,hf⟩:=open_structF Tryz.underlying111 h hw
 rw [show Tryz.prog.cellsOf 111=3 by kernel_rfl] at hlen
 obtain ⟨_,_,h0,w0⟩:=hf 0 _ rfl
 obtain ⟨x0,r0,e0⟩:=(oInts) enc W _ _ _ _ h0 w0
 change TRL _ _ _ (List.take (Tryz.prog.cellsOf 51) (List.drop 0 cs)) at e0
 rw [show Tryz.prog.cellsOf 51=1 by kernel_rfl] at e0
 obtain ⟨_,_,h1,w1⟩:=hf 1 _ rfl
 obtain ⟨x1,r1,e1⟩:=(openR_int Tryz.underlying3) enc W _ _ _ _ h1 w1
 change TRL _ _ _ (List.take (Tryz.prog.cellsOf 3) (List.drop 1 cs)) at e1
 rw [show Tryz.prog.cellsOf 3=1 by kernel_rfl] at e1
 obtain ⟨_,_,h2,w2⟩:=hf 2 _ rfl
 obtain ⟨x2,r2,e2⟩:=(openR_int Tryz.underlying3) enc W _ _ _ _ h2 w2
 change TRL _ _ _ (List.take (Tryz.prog.cellsOf 3) (List.drop 2 cs)) at e2
 rw [show Tryz.prog.cellsOf 3=1 by kernel_rfl] at e2
 have hh:=(TRL.piece (o:=0) (m:=1) e0 (TRL.piece (o:=1) (m:=1) e1 (TRL.piece (o:=2) (m:=1) e2 (TRL.done hlen))))
 exact ⟨⟨x0,x1,x2⟩,⟨r0.1,fun _ _=>trivial⟩,hh⟩
theorem oFors:OpenR Tryz.prog (fun l:List GFor=>[.tree 3 (l.map forA)]) (fun l=>l.length≤140737488355328∧∀ a∈l,FitFor a) 32:=OpenR.slice oFor Tryz.underlying32 (show Tryz.prog.cellsOf 111=3 by kernel_rfl) (fun _=>rfl) (by decide) (Nat.le_of_ble_eq_true (by kernel_rfl))
theorem oTab:OpenR Tryz.prog tabA FitTab 35:=by
 intro H enc W fuel cs d ps h hw
 obtain ⟨n,hn,hlen,hf⟩:=open_structF Tryz.underlying35 h hw
 rw [show Tryz.prog.cellsOf 35=5 by kernel_rfl] at hlen
 obtain ⟨_,_,h0,w0⟩:=hf 0 _ rfl
 obtain ⟨x0,r0,e0⟩:=(openR_str Tryz.underlying9) enc W _ _ _ _ h0 w0
 change TRL _ _ _ (List.take (Tryz.prog.cellsOf 9) (List.drop 0 cs)) at e0
 rw [show Tryz.prog.cellsOf 9=1 by kernel_rfl] at e0
 obtain ⟨_,_,h1,w1⟩:=hf 1 _ rfl
 obtain ⟨x1,r1,e1⟩:=(oCols) enc W _ _ _ _ h1 w1
 change TRL _ _ _ (List.take (Tryz.prog.cellsOf 30) (List.drop 1 cs)) at e1
 rw [show Tryz.prog.cellsOf 30=1 by kernel_rfl] at e1
 obtain ⟨_,_,h2,w2⟩:=hf 2 _ rfl
 obtain ⟨x2,r2,e2⟩:=(oKeys) enc W _ _ _ _ h2 w2
 change TRL _ _ _ (List.take (Tryz.prog.cellsOf 31) (List.drop 2 cs)) at e2
 rw [show Tryz.prog.cellsOf 31=1 by kernel_rfl] at e2
 obtain ⟨_,_,h3,w3⟩:=hf 3 _ rfl
 obtain ⟨x3,r3,e3⟩:=(oFors) enc W _ _ _ _ h3 w3
 change TRL _ _ _ (List.take (Tryz.prog.cellsOf 32) (List.drop 3 cs)) at e3
 rw [show Tryz.prog.cellsOf 32=1 by kernel_rfl] at e3
 obtain ⟨_,_,h4,w4⟩:=hf 4 _ rfl
 obtain ⟨x4,r4,e4⟩:=(oExs) enc W _ _ _ _ h4 w4
 change TRL _ _ _ (List.take (Tryz.prog.cellsOf 33) (List.drop 4 cs)) at e4
 rw [show Tryz.prog.cellsOf 33=1 by kernel_rfl] at e4
 have hh:=(TRL.piece (o:=0) (m:=1) e0 (TRL.piece (o:=1) (m:=1) e1 (TRL.piece (o:=2) (m:=1) e2 (TRL.piece (o:=3) (m:=1) e3 (TRL.piece (o:=4) (m:=1) e4 (TRL.done hlen))))))
 exact ⟨⟨x0,x1,x2,x3,x4⟩,⟨r0,r1,⟨r2.1,fun y h=>⟨(r2.2 y h).1,fun _ _=>trivial⟩⟩,r3,r4⟩,hh⟩
theorem oSch:OpenR Tryz.prog (fun l:List GTab=>[.tree 5 (l.map tabA)]) (fun l=>l.length≤140737488355328∧∀ a∈l,FitTab a) 23:=OpenR.slice oTab Tryz.underlying23 (show Tryz.prog.cellsOf 35=5 by kernel_rfl) (fun _=>rfl) (by decide) (Nat.le_of_ble_eq_true (by kernel_rfl))
theorem oRow:OpenR Tryz.prog (fun l:List GVal=>[.tree 3 (l.map gvA)]) (fun l=>l.length≤140737488355328∧∀ a∈l,FitVal a) 26:=OpenR.slice oVal Tryz.underlying26 (show Tryz.prog.cellsOf 45=3 by kernel_rfl) (fun _=>rfl) (by decide) (Nat.le_of_ble_eq_true (by kernel_rfl))
theorem open_schema {r:Reach} {b0:Nat} {H:Type} {enc:TypeId×Value→H} {W:World} {v:Value} {d:DataW H} {ps:List MemPlace} (hv:Value.okWide Tryz.prog W r b0 23 v)
  (h:DataW.Trod enc Tryz.prog W 0 (fun _=>true) true 23 v d ps) (hw:∀ m∈d.weights Tryz.prog 23,m≤140737488351232) :
  ∃ l:List GTab,FitL l (fun y=>FitTab y)∧TR (LtB W.heap.size) W (.tree 5 (l.map tabA)) v:=by
 obtain ⟨a,len,cap,rfl⟩:=okWide_slice Tryz.underlying23 hv
 obtain ⟨fuel,hf⟩:=h
 obtain ⟨l,h1,h3⟩:=oSch enc W fuel _ d ps hf hw
 exact ⟨l,h1,h3.2 0 (by simp) (by simp [Value.cells])⟩
theorem open_row {r:Reach} {b0:Nat} {H:Type} {enc:TypeId×Value→H} {W:World} {v:Value} {d:DataW H} {ps:List MemPlace} (hv:Value.okWide Tryz.prog W r b0 26 v)
  (h:DataW.Trod enc Tryz.prog W 0 (fun _=>true) true 26 v d ps) (hw:∀ m∈d.weights Tryz.prog 26,m≤140737488351232) :
  ∃ l:List GVal,FitL l (fun y=>FitVal y)∧TR (LtB W.heap.size) W (.tree 3 (l.map gvA)) v:=by
 obtain ⟨a,len,cap,rfl⟩:=okWide_slice Tryz.underlying26 hv
 obtain ⟨fuel,hf⟩:=h
 obtain ⟨l,h1,h3⟩:=oRow enc W fuel _ d ps hf hw
 exact ⟨l,h1,h3.2 0 (by simp) (by simp [Value.cells])⟩
theorem oRows:OpenR Tryz.prog (fun l:List (List GVal)=>[.tree 1 (l.map (fun l:List GVal=>[.tree 3 (l.map gvA)]))]) (fun l=>l.length≤140737488355328∧∀ a∈l,(a.length≤140737488355328∧∀ b∈a,FitVal b)) 24:=OpenR.slice oRow Tryz.underlying24 (show Tryz.prog.cellsOf 26=1 by kernel_rfl) (fun _=>rfl) (by decide) (Nat.le_of_ble_eq_true (by kernel_rfl))
theorem open_rows {r:Reach} {b0:Nat} {H:Type} {enc:TypeId×Value→H} {W:World} {v:Value} {d:DataW H} {ps:List MemPlace} (hv:Value.okWide Tryz.prog W r b0 24 v)
  (h:DataW.Trod enc Tryz.prog W 0 (fun _=>true) true 24 v d ps) (hw:∀ m∈d.weights Tryz.prog 24,m≤140737488351232) :
  ∃ l:List (List GVal),FitL l (fun y=>FitL y (fun y=>FitVal y))∧TR (LtB W.heap.size) W (.tree 1 (l.map (fun l:List GVal=>[.tree 3 (l.map gvA)]))) v:=by
 obtain ⟨a,len,cap,rfl⟩:=okWide_slice Tryz.underlying24 hv
 obtain ⟨fuel,hf⟩:=h
 obtain ⟨l,h1,h3⟩:=oRows enc W fuel _ d ps hf hw
 exact ⟨l,h1,h3.2 0 (by simp) (by simp [Value.cells])⟩
end Go.Proofs.YthpangmpihkniaaGreatDoor
