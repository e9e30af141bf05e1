/- Texts of the claim. -/
import Derived.Test.YtjdblmpkeilbaaaGreatDoorF2
import Derived.Test.YtjdblmpkeilbaaaGreatDoorQ2
namespace Go.Proofs.YtjdblmpkeilbaaaGreatDoor
set_option linter.unusedVariables false
set_option linter.unusedSimpArgs false
open Go.RowKit
/-- Operands that can be compared. -/
def CmpT (l:List PVar) (a b:GEx):Prop:=(¬ TextE l (exA a)∧¬ TextE l (exA b))∨(TextE l (exA a)∧TextE l (exA b))∨(a.op_=1∧HasN (exA a))∨(b.op_=1∧HasN (exA b))
/-- A valid condition. -/
inductive CondE (l:List PVar):List AV→Prop
 | bin (x:GEx) (h:x.op_=18∨x.op_=19) (hl:x.args_.length=2) (ha:∀ r∈x.args_,CondE l r):CondE l (exA x)
 | not (x:GEx) (h:x.op_=20) (hl:x.args_.length=1) (ha:∀ r∈x.args_,CondE l r):CondE l (exA x)
 | isn (x:GEx) (h:x.op_=17) (hl:x.args_.length=1) (ha:∀ r∈x.args_,OpE l 11 r):CondE l (exA x)
 | like (x a b:GEx) (h:x.op_=16) (ha:x.args_=[exA a,exA b]) (hb:b.op_=1∧b.value_.kind_=2) (ho:OpE l 11 (exA a)):CondE l (exA x)
 | cmp (x a b:GEx) (h:10≤x.op_∧x.op_≤15) (ha:x.args_=[exA a,exA b]) (h0:OpE l 11 (exA a)) (h1:OpE l 11 (exA b)) (hs:CmpT l a b):CondE l (exA x)
theorem all1 {P:List AV→Prop} {l:List (List AV)} (h:((l.length:Nat):Int)=1) (h0:P (l[0]'(by omega))):∀ r∈l,P r:=by
 match l,h,h0 with
 | [a],_,h0=>intro r hr; rw [List.mem_singleton.1 hr]; exact h0
theorem all2 {P:List AV→Prop} {l:List (List AV)} (h:((l.length:Nat):Int)=2) (h0:P (l[0]'(by omega))) (h1:P (l[1]'(by omega))):∀ r∈l,P r:=by
 match l,h,h0,h1 with
 | [a,b],_,h0,h1=>
  intro r hr
  rcases List.mem_cons.1 hr with rfl | hr
  ·exact h0
  ·rw [List.mem_singleton.1 hr]; exact h1
theorem two_eq {l:List (List AV)} {a b:List AV} (h:((l.length:Nat):Int)=2) (h0:l[0]'(by omega)=a) (h1:l[1]'(by omega)=b):l=[a,b]:=by
 match l,h,h0,h1 with
 | [c,d],_,h0,h1=>rw [← h0,← h1]; rfl
theorem shC {x:GEx} (h:IsSh 12 (exA x)):x.args_.length≤2∧∀ r∈x.args_,IsSh 11 r:=by
 obtain ⟨d,h1,h2,h3⟩:=isSh_open h
 have:d=11:=by omega
 subst this; exact ⟨h2,h3⟩
set_option maxRecDepth 100000 in
set_option maxHeartbeats 4000000 in
theorem cond16_w (x:GEx) (hx:FitEx x) (l:List PVar) (hl:FitL l (fun y=>True)) (dp:Int) (hdp:0≤dp∧dp≤1000) (ih:∀ r∈x.args_,∀ d:Int,(0≤d∧d≤1000)→PRet Tryz.prog 54 [.agg (rwA r),.tree 5 (l.map vA),.v (.int .i64 d)] (fun q=>∃ b:Bool,q=.v (.bool b)∧(b=true→CondE l r))):PRet Tryz.prog 54 [.agg (exA x),.tree 5 (l.map vA),.v (.int .i64 dp)] (fun r=>∃ b:Bool,r=.v (.bool b)∧(b=true→CondE l (exA x))):=by
 refine PRet.of_vc infOk [29,39,55,71] [] Tryz.func54 rfl Tryz.ntmps54 rfl (by kernel_rfl) (cE (fun hq11=>?_) (fun hq11=>?_))
 ·exact cT (rV Tryz.results54 rfl bF)
 refine ArgG.mk (short_p (exA x) (isEx hx) 12 (by omega)) rfl ?_
 rintro _ ⟨b0,rfl,hb0⟩
 refine cB (fun hc15=>?_) (fun hc15=>?_)
 ·exact rV Tryz.results54 rfl bF
 have hshc:=shC (hb0 (by simpa using hc15))
 refine cB (fun hc18=>?_) (fun hc18=>?_)
 ·have hq18:(x.op_:Int)=(18:Int):=by simpa using hc18
  refine cE (fun hq18=>?_) (fun hq18=>?_)
  refine LenG.of (cE (fun hq25=>?_) (fun hq25=>?_))
  ·refine IdxG.of (j:=0) (by omega) (OpG.lk (LOp.ldTN row32 rfl (exTake (hx.args_.2 _ (List.getElem_mem _)))) ?_)
   refine ⟨by omega,ArgG.mk (ih (x.args_[0]) (List.getElem_mem _) (dp - 1) (by omega)) (show pureL [.agg (rwA x.args_[0]),.tree 5 (l.map vA),.v (.int .i64 (dp - 1))]=true by simp [pureL,AV.pureB,exPure (hx.args_.2 _ (List.getElem_mem _))]) ?_⟩
   rintro _ ⟨b1,rfl,hb1⟩
   refine cB (fun hg35=>?_) (fun hg35=>?_)
   ·refine IdxG.of (j:=1) (by omega) (OpG.lk (LOp.ldTN row32 rfl (exTake (hx.args_.2 _ (List.getElem_mem _)))) ?_)
    refine ⟨by omega,ArgG.mk (ih (x.args_[1]) (List.getElem_mem _) (dp - 1) (by omega)) (show pureL [.agg (rwA x.args_[1]),.tree 5 (l.map vA),.v (.int .i64 (dp - 1))]=true by simp [pureL,AV.pureB,exPure (hx.args_.2 _ (List.getElem_mem _))]) ?_⟩
    rintro _ ⟨b2,rfl,hb2⟩
    exact rV Tryz.results54 rfl ⟨_,rfl,fun hr=>.bin x (by omega) (by omega) (all2 (by assumption) (hb1 (by assumption)) (hb2 hr))⟩
   exact rV Tryz.results54 rfl bF
  ·exact cF (rV Tryz.results54 rfl bF)
  refine cE (fun hq45=>?_) (fun hq45=>?_)
  refine LenG.of (cE (fun hq51=>?_) (fun hq51=>?_))
  ·refine IdxG.of (j:=0) (by omega) (OpG.lk (LOp.ldTN row32 rfl (exTake (hx.args_.2 _ (List.getElem_mem _)))) ?_)
   refine ⟨by omega,ArgG.mk (ih (x.args_[0]) (List.getElem_mem _) (dp - 1) (by omega)) (show pureL [.agg (rwA x.args_[0]),.tree 5 (l.map vA),.v (.int .i64 (dp - 1))]=true by simp [pureL,AV.pureB,exPure (hx.args_.2 _ (List.getElem_mem _))]) ?_⟩
   rintro _ ⟨b3,rfl,hb3⟩
   exact rV Tryz.results54 rfl ⟨_,rfl,fun hr=>.not x (by assumption) (by omega) (all1 (by assumption) (hb3 hr))⟩
  ·exact rV Tryz.results54 rfl bF
  refine cE (fun hq61=>?_) (fun hq61=>?_)
  refine LenG.of (cE (fun hq67=>?_) (fun hq67=>?_))
  ·refine IdxG.of (j:=0) (by omega) (OpG.lk (LOp.ldTN row32 rfl (exTake (hx.args_.2 _ (List.getElem_mem _)))) ?_)
   refine ArgG.mk (operand_p (x.args_[0]) (hx.args_.2 _ (List.getElem_mem _)) l hl 11 (by omega) (hshc.2 _ (List.getElem_mem _))) (show pureL [.agg (rwA x.args_[0]),.tree 5 (l.map vA)]=true by simp [pureL,AV.pureB,exPure (hx.args_.2 _ (List.getElem_mem _))]) ?_
   rintro _ ⟨b4,rfl,hb4⟩
   exact rV Tryz.results54 rfl ⟨_,rfl,fun hr=>.isn x (by assumption) (by omega) (all1 (by assumption) (hb4 hr))⟩
  ·exact rV Tryz.results54 rfl bF
  refine cE (fun hq75=>?_) (fun hq75=>?_)
  ·refine LenG.of (cE (fun hq81=>?_) (fun hq81=>?_))
   ·obtain ⟨a0,he_a0,ha0⟩:=openAt hx 0 (by omega)
    obtain ⟨a1,he_a1,ha1⟩:=openAt hx 1 (by omega)
    have hs_a0:IsSh 11 (exA a0):=he_a0 ▸ hshc.2 _ (List.getElem_mem _)
    have hs_a1:IsSh 11 (exA a1):=he_a1 ▸ hshc.2 _ (List.getElem_mem _)
    refine IdxG.as (j:=1) (by omega) he_a1 (LenG.of ?_)
    refine cE (fun hq90=>?_) (fun hq90=>?_)
    ·refine IdxG.as (j:=0) (by omega) he_a0 (ArgG.mk (text_p (exA a0) (isEx ha0) l hl) rfl ?_)
     rintro _ ⟨b5,rfl,hb5,hbn5⟩
     refine cB (fun hg97=>?_) (fun hg97=>?_)
     ·refine cT (IdxG.as (j:=0) (by omega) he_a0 ?_)
      refine ArgG.mk (operand_p (exA a0) (isEx ha0) l hl 11 (by omega) hs_a0) rfl ?_
      rintro _ ⟨b6,rfl,hb6⟩
      refine cB (fun hg113=>?_) (fun hg113=>?_)
      ·have hoL:OpE l 11 (exA a0):=hb6 (by simpa using hg113)
       refine IdxG.as (j:=0) (by omega) he_a0 (cN (fun hq121=>?_) (fun hq121=>?_))
       ·refine IdxG.as (j:=1) (by omega) he_a1 (cE (fun hq129=>?_) (fun hq129=>?_))
        ·refine IdxG.as (j:=1) (by omega) he_a1 (cE (fun hq138=>?_) (fun hq138=>?_))
         ·refine IdxG.as (j:=1) (by omega) he_a1 (ArgG.mk (valid04_p a1.value_ ha1.value_) rfl ?_)
          rintro _ ⟨b7,rfl,hb7,hbc7⟩
          refine cB (fun hg146=>?_) (fun hg146=>?_)
          ·refine IdxG.as (j:=0) (by omega) he_a0 (cE (fun hq153=>?_) (fun hq153=>?_))
           ·exact rV Tryz.results54 rfl ⟨_,rfl,fun _=>.like x a0 a1 (by assumption) (two_eq (by assumption) he_a0 he_a1) ⟨by assumption,by assumption⟩ hoL⟩
           exact IdxG.as (j:=0) (by omega) he_a0 (rV Tryz.results54 rfl ⟨_,rfl,fun _=>.like x a0 a1 (by assumption) (two_eq (by assumption) he_a0 he_a1) ⟨by assumption,by assumption⟩ hoL⟩)
          exact rV Tryz.results54 rfl bF
         exact cF (rV Tryz.results54 rfl bF)
        refine cF (cF ?_)
        exact rV Tryz.results54 rfl bF
       refine cF (cF ?_)
       exact cF (rV Tryz.results54 rfl bF)
      refine cF (cF ?_)
      refine cF (cF ?_)
      exact rV Tryz.results54 rfl bF
     refine IdxG.as (j:=0) (by omega) he_a0 (ArgG.mk (null_p (exA a0) (isEx ha0)) rfl ?_)
     rintro _ ⟨b8,rfl,hb8⟩
     refine cB (fun hg105=>?_) (fun hg105=>?_)
     ·refine IdxG.as (j:=0) (by omega) he_a0 (ArgG.mk (operand_p (exA a0) (isEx ha0) l hl 11 (by omega) hs_a0) rfl ?_)
      rintro _ ⟨b9,rfl,hb9⟩
      refine cB (fun hg113=>?_) (fun hg113=>?_)
      ·have hoL:OpE l 11 (exA a0):=hb9 (by simpa using hg113)
       refine IdxG.as (j:=0) (by omega) he_a0 (cN (fun hq121=>?_) (fun hq121=>?_))
       ·refine IdxG.as (j:=1) (by omega) he_a1 (cE (fun hq129=>?_) (fun hq129=>?_))
        ·refine IdxG.as (j:=1) (by omega) he_a1 (cE (fun hq138=>?_) (fun hq138=>?_))
         ·refine IdxG.as (j:=1) (by omega) he_a1 (ArgG.mk (valid04_p a1.value_ ha1.value_) rfl ?_)
          rintro _ ⟨b10,rfl,hb10,hbc10⟩
          refine cB (fun hg146=>?_) (fun hg146=>?_)
          ·refine IdxG.as (j:=0) (by omega) he_a0 (cE (fun hq153=>?_) (fun hq153=>?_))
           ·exact rV Tryz.results54 rfl ⟨_,rfl,fun _=>.like x a0 a1 (by assumption) (two_eq (by assumption) he_a0 he_a1) ⟨by assumption,by assumption⟩ hoL⟩
           exact IdxG.as (j:=0) (by omega) he_a0 (rV Tryz.results54 rfl ⟨_,rfl,fun _=>.like x a0 a1 (by assumption) (two_eq (by assumption) he_a0 he_a1) ⟨by assumption,by assumption⟩ hoL⟩)
          exact rV Tryz.results54 rfl bF
         exact cF (rV Tryz.results54 rfl bF)
        refine cF (cF ?_)
        exact rV Tryz.results54 rfl bF
       refine cF (cF ?_)
       exact cF (rV Tryz.results54 rfl bF)
      refine cF (cF ?_)
      refine cF (cF ?_)
      exact rV Tryz.results54 rfl bF
     refine cF (cF ?_)
     refine cF (cF ?_)
     exact cF (rV Tryz.results54 rfl bF)
    refine cF (cF ?_)
    refine cF (cF ?_)
    refine cF (cF ?_)
    exact rV Tryz.results54 rfl bF
   refine cF (cF ?_)
   refine cF (cF ?_)
   refine cF (cF ?_)
   exact cF (rV Tryz.results54 rfl bF)
  refine ArgG.mk (place_p x.op_) rfl ?_
  rintro _ ⟨p11,rfl,hp11⟩
  refine cD (fun hq166=>?_) (fun hq166=>?_)
  ·refine cT (cT ?_)
   exact cT (rV Tryz.results54 rfl bF)
  have hrng:=hp11 (by omega)
  refine LenG.of (cN (fun hq172=>?_) (fun hq172=>?_))
  ·refine cT (cT ?_)
   exact rV Tryz.results54 rfl bF
  obtain ⟨a0,he_a0,ha0⟩:=openAt hx 0 (by omega)
  obtain ⟨a1,he_a1,ha1⟩:=openAt hx 1 (by omega)
  have hs_a0:IsSh 11 (exA a0):=he_a0 ▸ hshc.2 _ (List.getElem_mem _)
  have hs_a1:IsSh 11 (exA a1):=he_a1 ▸ hshc.2 _ (List.getElem_mem _)
  refine IdxG.as (j:=0) (by omega) he_a0 (ArgG.mk (operand_p (exA a0) (isEx ha0) l hl 11 (by omega) hs_a0) rfl ?_)
  rintro _ ⟨b12,rfl,hb12⟩
  refine cB (fun hg181=>?_) (fun hg181=>?_)
  ·exact cT (rV Tryz.results54 rfl bF)
  have ho0:OpE l 11 (exA a0):=hb12 (by simpa using hg181)
  refine IdxG.as (j:=1) (by omega) he_a1 (ArgG.mk (operand_p (exA a1) (isEx ha1) l hl 11 (by omega) hs_a1) rfl ?_)
  rintro _ ⟨b13,rfl,hb13⟩
  refine cB (fun hc189=>?_) (fun hc189=>?_)
  ·exact rV Tryz.results54 rfl bF
  have ho1:OpE l 11 (exA a1):=hb13 (by simpa using hc189)
  refine IdxG.as (j:=0) (by omega) he_a0 (IdxG.as (j:=1) (by omega) he_a1 ?_)
  refine ⟨by kernel_rfl,ArgG.mk (text_p (exA a0) (isEx ha0) l hl) rfl ?_⟩
  rintro _ ⟨b14,rfl,hb14,hbn14⟩
  refine cB (fun hg202=>?_) (fun hg202=>?_)
  ·have hnA:¬ TextE l (exA a0):=hbn14 (by simpa using hg202)
   refine ArgG.mk (text_p (exA a1) (isEx ha1) l hl) rfl ?_
   rintro _ ⟨b15,rfl,hb15,hbn15⟩
   refine cB (fun hc207=>?_) (fun hc207=>?_)
   ·have hcm:CmpT l a0 a1:=.inl ⟨hnA,hbn15 (by simpa using hc207)⟩
    exact rV Tryz.results54 rfl ⟨_,rfl,fun _=>.cmp x a0 a1 hrng (two_eq (by assumption) he_a0 he_a1) ho0 ho1 hcm⟩
   refine ArgG.mk (text_p (exA a0) (isEx ha0) l hl) rfl ?_
   rintro _ ⟨b16,rfl,hb16,hbn16⟩
   refine cB (fun hg212=>?_) (fun hg212=>?_)
   ·refine cE (fun hq216=>?_) (fun hq216=>?_)
    ·refine ArgG.mk (null_p (exA a0) (isEx ha0)) rfl ?_
     rintro _ ⟨b17,rfl,hb17⟩
     refine cB (fun hg222=>?_) (fun hg222=>?_)
     ·exact cT (rV Tryz.results54 rfl bF)
     have hcm:CmpT l a0 a1:=.inr (.inr (.inl ⟨hq216,hb17.1 (by simpa using hg222)⟩))
     refine ArgG.mk (text_p (exA a1) (isEx ha1) l hl) rfl ?_
     rintro _ ⟨b18,rfl,hb18,hbn18⟩
     refine cB (fun hg227=>?_) (fun hg227=>?_)
     ·refine cE (fun hq231=>?_) (fun hq231=>?_)
      ·refine ArgG.mk (null_p (exA a1) (isEx ha1)) rfl ?_
       rintro _ ⟨b19,rfl,hb19⟩
       refine cB (fun hc237=>?_) (fun hc237=>?_)
       ·exact rV Tryz.results54 rfl bF
       have hcm:CmpT l a0 a1:=.inr (.inr (.inr ⟨hq231,hb19.1 (by simpa using hc237)⟩))
       refine cE (fun hq241=>?_) (fun hq241=>?_)
       refine cT (cT ?_)
       exact rV Tryz.results54 rfl ⟨_,rfl,fun _=>.cmp x a0 a1 hrng (two_eq (by assumption) he_a0 he_a1) ho0 ho1 hcm⟩
       refine cE (fun hq246=>?_) (fun hq246=>?_)
       exact cT (rV Tryz.results54 rfl ⟨_,rfl,fun _=>.cmp x a0 a1 hrng (two_eq (by assumption) he_a0 he_a1) ho0 ho1 hcm⟩)
       refine cE (fun hq251=>?_) (fun hq251=>?_)
       ·exact rV Tryz.results54 rfl ⟨_,rfl,fun _=>.cmp x a0 a1 hrng (two_eq (by assumption) he_a0 he_a1) ho0 ho1 hcm⟩
       exact rV Tryz.results54 rfl ⟨_,rfl,fun _=>.cmp x a0 a1 hrng (two_eq (by assumption) he_a0 he_a1) ho0 ho1 hcm⟩
      exact cT (rV Tryz.results54 rfl bF)
     skip
     refine cF (cE (fun hq241=>?_) (fun hq241=>?_))
     refine cT (cT ?_)
     exact rV Tryz.results54 rfl ⟨_,rfl,fun _=>.cmp x a0 a1 hrng (two_eq (by assumption) he_a0 he_a1) ho0 ho1 hcm⟩
     refine cE (fun hq246=>?_) (fun hq246=>?_)
     exact cT (rV Tryz.results54 rfl ⟨_,rfl,fun _=>.cmp x a0 a1 hrng (two_eq (by assumption) he_a0 he_a1) ho0 ho1 hcm⟩)
     refine cE (fun hq251=>?_) (fun hq251=>?_)
     ·exact rV Tryz.results54 rfl ⟨_,rfl,fun _=>.cmp x a0 a1 hrng (two_eq (by assumption) he_a0 he_a1) ho0 ho1 hcm⟩
     exact rV Tryz.results54 rfl ⟨_,rfl,fun _=>.cmp x a0 a1 hrng (two_eq (by assumption) he_a0 he_a1) ho0 ho1 hcm⟩
    refine cT (cT ?_)
    exact rV Tryz.results54 rfl bF
   have htA:TextE l (exA a0):=hb16 (by simpa using hg212)
   refine cF (ArgG.mk (text_p (exA a1) (isEx ha1) l hl) rfl ?_)
   rintro _ ⟨b20,rfl,hb20,hbn20⟩
   refine cB (fun hg227=>?_) (fun hg227=>?_)
   ·refine cE (fun hq231=>?_) (fun hq231=>?_)
    ·refine ArgG.mk (null_p (exA a1) (isEx ha1)) rfl ?_
     rintro _ ⟨b21,rfl,hb21⟩
     refine cB (fun hc237=>?_) (fun hc237=>?_)
     ·exact rV Tryz.results54 rfl bF
     have hcm:CmpT l a0 a1:=.inr (.inr (.inr ⟨hq231,hb21.1 (by simpa using hc237)⟩))
     refine cE (fun hq241=>?_) (fun hq241=>?_)
     refine cT (cT ?_)
     exact rV Tryz.results54 rfl ⟨_,rfl,fun _=>.cmp x a0 a1 hrng (two_eq (by assumption) he_a0 he_a1) ho0 ho1 hcm⟩
     refine cE (fun hq246=>?_) (fun hq246=>?_)
     exact cT (rV Tryz.results54 rfl ⟨_,rfl,fun _=>.cmp x a0 a1 hrng (two_eq (by assumption) he_a0 he_a1) ho0 ho1 hcm⟩)
     refine cE (fun hq251=>?_) (fun hq251=>?_)
     ·exact rV Tryz.results54 rfl ⟨_,rfl,fun _=>.cmp x a0 a1 hrng (two_eq (by assumption) he_a0 he_a1) ho0 ho1 hcm⟩
     exact rV Tryz.results54 rfl ⟨_,rfl,fun _=>.cmp x a0 a1 hrng (two_eq (by assumption) he_a0 he_a1) ho0 ho1 hcm⟩
    exact cT (rV Tryz.results54 rfl bF)
   have hcm:CmpT l a0 a1:=.inr (.inl ⟨htA,hb20 (by simpa using hg227)⟩)
   refine cF (cE (fun hq241=>?_) (fun hq241=>?_))
   refine cT (cT ?_)
   exact rV Tryz.results54 rfl ⟨_,rfl,fun _=>.cmp x a0 a1 hrng (two_eq (by assumption) he_a0 he_a1) ho0 ho1 hcm⟩
   refine cE (fun hq246=>?_) (fun hq246=>?_)
   exact cT (rV Tryz.results54 rfl ⟨_,rfl,fun _=>.cmp x a0 a1 hrng (two_eq (by assumption) he_a0 he_a1) ho0 ho1 hcm⟩)
   refine cE (fun hq251=>?_) (fun hq251=>?_)
   ·exact rV Tryz.results54 rfl ⟨_,rfl,fun _=>.cmp x a0 a1 hrng (two_eq (by assumption) he_a0 he_a1) ho0 ho1 hcm⟩
   exact rV Tryz.results54 rfl ⟨_,rfl,fun _=>.cmp x a0 a1 hrng (two_eq (by assumption) he_a0 he_a1) ho0 ho1 hcm⟩
  refine cF (ArgG.mk (text_p (exA a0) (isEx ha0) l hl) rfl ?_)
  rintro _ ⟨b22,rfl,hb22,hbn22⟩
  refine cB (fun hg212=>?_) (fun hg212=>?_)
  ·refine cE (fun hq216=>?_) (fun hq216=>?_)
   ·refine ArgG.mk (null_p (exA a0) (isEx ha0)) rfl ?_
    rintro _ ⟨b23,rfl,hb23⟩
    refine cB (fun hg222=>?_) (fun hg222=>?_)
    ·exact cT (rV Tryz.results54 rfl bF)
    have hcm:CmpT l a0 a1:=.inr (.inr (.inl ⟨hq216,hb23.1 (by simpa using hg222)⟩))
    refine ArgG.mk (text_p (exA a1) (isEx ha1) l hl) rfl ?_
    rintro _ ⟨b24,rfl,hb24,hbn24⟩
    refine cB (fun hg227=>?_) (fun hg227=>?_)
    ·refine cE (fun hq231=>?_) (fun hq231=>?_)
     ·refine ArgG.mk (null_p (exA a1) (isEx ha1)) rfl ?_
      rintro _ ⟨b25,rfl,hb25⟩
      refine cB (fun hc237=>?_) (fun hc237=>?_)
      ·exact rV Tryz.results54 rfl bF
      have hcm:CmpT l a0 a1:=.inr (.inr (.inr ⟨hq231,hb25.1 (by simpa using hc237)⟩))
      refine cE (fun hq241=>?_) (fun hq241=>?_)
      refine cT (cT ?_)
      exact rV Tryz.results54 rfl ⟨_,rfl,fun _=>.cmp x a0 a1 hrng (two_eq (by assumption) he_a0 he_a1) ho0 ho1 hcm⟩
      refine cE (fun hq246=>?_) (fun hq246=>?_)
      exact cT (rV Tryz.results54 rfl ⟨_,rfl,fun _=>.cmp x a0 a1 hrng (two_eq (by assumption) he_a0 he_a1) ho0 ho1 hcm⟩)
      refine cE (fun hq251=>?_) (fun hq251=>?_)
      ·exact rV Tryz.results54 rfl ⟨_,rfl,fun _=>.cmp x a0 a1 hrng (two_eq (by assumption) he_a0 he_a1) ho0 ho1 hcm⟩
      exact rV Tryz.results54 rfl ⟨_,rfl,fun _=>.cmp x a0 a1 hrng (two_eq (by assumption) he_a0 he_a1) ho0 ho1 hcm⟩
     exact cT (rV Tryz.results54 rfl bF)
    skip
    refine cF (cE (fun hq241=>?_) (fun hq241=>?_))
    refine cT (cT ?_)
    exact rV Tryz.results54 rfl ⟨_,rfl,fun _=>.cmp x a0 a1 hrng (two_eq (by assumption) he_a0 he_a1) ho0 ho1 hcm⟩
    refine cE (fun hq246=>?_) (fun hq246=>?_)
    exact cT (rV Tryz.results54 rfl ⟨_,rfl,fun _=>.cmp x a0 a1 hrng (two_eq (by assumption) he_a0 he_a1) ho0 ho1 hcm⟩)
    refine cE (fun hq251=>?_) (fun hq251=>?_)
    ·exact rV Tryz.results54 rfl ⟨_,rfl,fun _=>.cmp x a0 a1 hrng (two_eq (by assumption) he_a0 he_a1) ho0 ho1 hcm⟩
    exact rV Tryz.results54 rfl ⟨_,rfl,fun _=>.cmp x a0 a1 hrng (two_eq (by assumption) he_a0 he_a1) ho0 ho1 hcm⟩
   refine cT (cT ?_)
   exact rV Tryz.results54 rfl bF
  have htA:TextE l (exA a0):=hb22 (by simpa using hg212)
  refine cF (ArgG.mk (text_p (exA a1) (isEx ha1) l hl) rfl ?_)
  rintro _ ⟨b26,rfl,hb26,hbn26⟩
  refine cB (fun hg227=>?_) (fun hg227=>?_)
  ·refine cE (fun hq231=>?_) (fun hq231=>?_)
   ·refine ArgG.mk (null_p (exA a1) (isEx ha1)) rfl ?_
    rintro _ ⟨b27,rfl,hb27⟩
    refine cB (fun hc237=>?_) (fun hc237=>?_)
    ·exact rV Tryz.results54 rfl bF
    have hcm:CmpT l a0 a1:=.inr (.inr (.inr ⟨hq231,hb27.1 (by simpa using hc237)⟩))
    refine cE (fun hq241=>?_) (fun hq241=>?_)
    refine cT (cT ?_)
    exact rV Tryz.results54 rfl ⟨_,rfl,fun _=>.cmp x a0 a1 hrng (two_eq (by assumption) he_a0 he_a1) ho0 ho1 hcm⟩
    refine cE (fun hq246=>?_) (fun hq246=>?_)
    exact cT (rV Tryz.results54 rfl ⟨_,rfl,fun _=>.cmp x a0 a1 hrng (two_eq (by assumption) he_a0 he_a1) ho0 ho1 hcm⟩)
    refine cE (fun hq251=>?_) (fun hq251=>?_)
    ·exact rV Tryz.results54 rfl ⟨_,rfl,fun _=>.cmp x a0 a1 hrng (two_eq (by assumption) he_a0 he_a1) ho0 ho1 hcm⟩
    exact rV Tryz.results54 rfl ⟨_,rfl,fun _=>.cmp x a0 a1 hrng (two_eq (by assumption) he_a0 he_a1) ho0 ho1 hcm⟩
   exact cT (rV Tryz.results54 rfl bF)
  have hcm:CmpT l a0 a1:=.inr (.inl ⟨htA,hb26 (by simpa using hg227)⟩)
  refine cF (cE (fun hq241=>?_) (fun hq241=>?_))
  refine cT (cT ?_)
  exact rV Tryz.results54 rfl ⟨_,rfl,fun _=>.cmp x a0 a1 hrng (two_eq (by assumption) he_a0 he_a1) ho0 ho1 hcm⟩
  refine cE (fun hq246=>?_) (fun hq246=>?_)
  exact cT (rV Tryz.results54 rfl ⟨_,rfl,fun _=>.cmp x a0 a1 hrng (two_eq (by assumption) he_a0 he_a1) ho0 ho1 hcm⟩)
  refine cE (fun hq251=>?_) (fun hq251=>?_)
  ·exact rV Tryz.results54 rfl ⟨_,rfl,fun _=>.cmp x a0 a1 hrng (two_eq (by assumption) he_a0 he_a1) ho0 ho1 hcm⟩
  exact rV Tryz.results54 rfl ⟨_,rfl,fun _=>.cmp x a0 a1 hrng (two_eq (by assumption) he_a0 he_a1) ho0 ho1 hcm⟩
 have hq18:¬ ((x.op_:Int)=(18:Int)):=by simpa using hc18
 refine cE (fun hq18=>?_) (fun hq18=>?_)
 refine LenG.of (cE (fun hq25=>?_) (fun hq25=>?_))
 ·refine IdxG.of (j:=0) (by omega) (OpG.lk (LOp.ldTN row32 rfl (exTake (hx.args_.2 _ (List.getElem_mem _)))) ?_)
  refine ⟨by omega,ArgG.mk (ih (x.args_[0]) (List.getElem_mem _) (dp - 1) (by omega)) (show pureL [.agg (rwA x.args_[0]),.tree 5 (l.map vA),.v (.int .i64 (dp - 1))]=true by simp [pureL,AV.pureB,exPure (hx.args_.2 _ (List.getElem_mem _))]) ?_⟩
  rintro _ ⟨b28,rfl,hb28⟩
  refine cB (fun hg35=>?_) (fun hg35=>?_)
  ·refine IdxG.of (j:=1) (by omega) (OpG.lk (LOp.ldTN row32 rfl (exTake (hx.args_.2 _ (List.getElem_mem _)))) ?_)
   refine ⟨by omega,ArgG.mk (ih (x.args_[1]) (List.getElem_mem _) (dp - 1) (by omega)) (show pureL [.agg (rwA x.args_[1]),.tree 5 (l.map vA),.v (.int .i64 (dp - 1))]=true by simp [pureL,AV.pureB,exPure (hx.args_.2 _ (List.getElem_mem _))]) ?_⟩
   rintro _ ⟨b29,rfl,hb29⟩
   exact rV Tryz.results54 rfl ⟨_,rfl,fun hr=>.bin x (by omega) (by omega) (all2 (by assumption) (hb28 (by assumption)) (hb29 hr))⟩
  exact rV Tryz.results54 rfl bF
 ·exact cF (rV Tryz.results54 rfl bF)
 refine cE (fun hq45=>?_) (fun hq45=>?_)
 refine LenG.of (cE (fun hq51=>?_) (fun hq51=>?_))
 ·refine IdxG.of (j:=0) (by omega) (OpG.lk (LOp.ldTN row32 rfl (exTake (hx.args_.2 _ (List.getElem_mem _)))) ?_)
  refine ⟨by omega,ArgG.mk (ih (x.args_[0]) (List.getElem_mem _) (dp - 1) (by omega)) (show pureL [.agg (rwA x.args_[0]),.tree 5 (l.map vA),.v (.int .i64 (dp - 1))]=true by simp [pureL,AV.pureB,exPure (hx.args_.2 _ (List.getElem_mem _))]) ?_⟩
  rintro _ ⟨b30,rfl,hb30⟩
  exact rV Tryz.results54 rfl ⟨_,rfl,fun hr=>.not x (by assumption) (by omega) (all1 (by assumption) (hb30 hr))⟩
 ·exact rV Tryz.results54 rfl bF
 refine cE (fun hq61=>?_) (fun hq61=>?_)
 refine LenG.of (cE (fun hq67=>?_) (fun hq67=>?_))
 ·refine IdxG.of (j:=0) (by omega) (OpG.lk (LOp.ldTN row32 rfl (exTake (hx.args_.2 _ (List.getElem_mem _)))) ?_)
  refine ArgG.mk (operand_p (x.args_[0]) (hx.args_.2 _ (List.getElem_mem _)) l hl 11 (by omega) (hshc.2 _ (List.getElem_mem _))) (show pureL [.agg (rwA x.args_[0]),.tree 5 (l.map vA)]=true by simp [pureL,AV.pureB,exPure (hx.args_.2 _ (List.getElem_mem _))]) ?_
  rintro _ ⟨b31,rfl,hb31⟩
  exact rV Tryz.results54 rfl ⟨_,rfl,fun hr=>.isn x (by assumption) (by omega) (all1 (by assumption) (hb31 hr))⟩
 ·exact rV Tryz.results54 rfl bF
 refine cE (fun hq75=>?_) (fun hq75=>?_)
 ·refine LenG.of (cE (fun hq81=>?_) (fun hq81=>?_))
  ·obtain ⟨a0,he_a0,ha0⟩:=openAt hx 0 (by omega)
   obtain ⟨a1,he_a1,ha1⟩:=openAt hx 1 (by omega)
   have hs_a0:IsSh 11 (exA a0):=he_a0 ▸ hshc.2 _ (List.getElem_mem _)
   have hs_a1:IsSh 11 (exA a1):=he_a1 ▸ hshc.2 _ (List.getElem_mem _)
   refine IdxG.as (j:=1) (by omega) he_a1 (LenG.of ?_)
   refine cE (fun hq90=>?_) (fun hq90=>?_)
   ·refine IdxG.as (j:=0) (by omega) he_a0 (ArgG.mk (text_p (exA a0) (isEx ha0) l hl) rfl ?_)
    rintro _ ⟨b32,rfl,hb32,hbn32⟩
    refine cB (fun hg97=>?_) (fun hg97=>?_)
    ·refine cT (IdxG.as (j:=0) (by omega) he_a0 ?_)
     refine ArgG.mk (operand_p (exA a0) (isEx ha0) l hl 11 (by omega) hs_a0) rfl ?_
     rintro _ ⟨b33,rfl,hb33⟩
     refine cB (fun hg113=>?_) (fun hg113=>?_)
     ·have hoL:OpE l 11 (exA a0):=hb33 (by simpa using hg113)
      refine IdxG.as (j:=0) (by omega) he_a0 (cN (fun hq121=>?_) (fun hq121=>?_))
      ·refine IdxG.as (j:=1) (by omega) he_a1 (cE (fun hq129=>?_) (fun hq129=>?_))
       ·refine IdxG.as (j:=1) (by omega) he_a1 (cE (fun hq138=>?_) (fun hq138=>?_))
        ·refine IdxG.as (j:=1) (by omega) he_a1 (ArgG.mk (valid04_p a1.value_ ha1.value_) rfl ?_)
         rintro _ ⟨b34,rfl,hb34,hbc34⟩
         refine cB (fun hg146=>?_) (fun hg146=>?_)
         ·refine IdxG.as (j:=0) (by omega) he_a0 (cE (fun hq153=>?_) (fun hq153=>?_))
          ·exact rV Tryz.results54 rfl ⟨_,rfl,fun _=>.like x a0 a1 (by assumption) (two_eq (by assumption) he_a0 he_a1) ⟨by assumption,by assumption⟩ hoL⟩
          exact IdxG.as (j:=0) (by omega) he_a0 (rV Tryz.results54 rfl ⟨_,rfl,fun _=>.like x a0 a1 (by assumption) (two_eq (by assumption) he_a0 he_a1) ⟨by assumption,by assumption⟩ hoL⟩)
         exact rV Tryz.results54 rfl bF
        exact cF (rV Tryz.results54 rfl bF)
       refine cF (cF ?_)
       exact rV Tryz.results54 rfl bF
      refine cF (cF ?_)
      exact cF (rV Tryz.results54 rfl bF)
     refine cF (cF ?_)
     refine cF (cF ?_)
     exact rV Tryz.results54 rfl bF
    refine IdxG.as (j:=0) (by omega) he_a0 (ArgG.mk (null_p (exA a0) (isEx ha0)) rfl ?_)
    rintro _ ⟨b35,rfl,hb35⟩
    refine cB (fun hg105=>?_) (fun hg105=>?_)
    ·refine IdxG.as (j:=0) (by omega) he_a0 (ArgG.mk (operand_p (exA a0) (isEx ha0) l hl 11 (by omega) hs_a0) rfl ?_)
     rintro _ ⟨b36,rfl,hb36⟩
     refine cB (fun hg113=>?_) (fun hg113=>?_)
     ·have hoL:OpE l 11 (exA a0):=hb36 (by simpa using hg113)
      refine IdxG.as (j:=0) (by omega) he_a0 (cN (fun hq121=>?_) (fun hq121=>?_))
      ·refine IdxG.as (j:=1) (by omega) he_a1 (cE (fun hq129=>?_) (fun hq129=>?_))
       ·refine IdxG.as (j:=1) (by omega) he_a1 (cE (fun hq138=>?_) (fun hq138=>?_))
        ·refine IdxG.as (j:=1) (by omega) he_a1 (ArgG.mk (valid04_p a1.value_ ha1.value_) rfl ?_)
         rintro _ ⟨b37,rfl,hb37,hbc37⟩
         refine cB (fun hg146=>?_) (fun hg146=>?_)
         ·refine IdxG.as (j:=0) (by omega) he_a0 (cE (fun hq153=>?_) (fun hq153=>?_))
          ·exact rV Tryz.results54 rfl ⟨_,rfl,fun _=>.like x a0 a1 (by assumption) (two_eq (by assumption) he_a0 he_a1) ⟨by assumption,by assumption⟩ hoL⟩
          exact IdxG.as (j:=0) (by omega) he_a0 (rV Tryz.results54 rfl ⟨_,rfl,fun _=>.like x a0 a1 (by assumption) (two_eq (by assumption) he_a0 he_a1) ⟨by assumption,by assumption⟩ hoL⟩)
         exact rV Tryz.results54 rfl bF
        exact cF (rV Tryz.results54 rfl bF)
       refine cF (cF ?_)
       exact rV Tryz.results54 rfl bF
      refine cF (cF ?_)
      exact cF (rV Tryz.results54 rfl bF)
     refine cF (cF ?_)
     refine cF (cF ?_)
     exact rV Tryz.results54 rfl bF
    refine cF (cF ?_)
    refine cF (cF ?_)
    exact cF (rV Tryz.results54 rfl bF)
   refine cF (cF ?_)
   refine cF (cF ?_)
   refine cF (cF ?_)
   exact rV Tryz.results54 rfl bF
  refine cF (cF ?_)
  refine cF (cF ?_)
  refine cF (cF ?_)
  exact cF (rV Tryz.results54 rfl bF)
 refine ArgG.mk (place_p x.op_) rfl ?_
 rintro _ ⟨p38,rfl,hp38⟩
 refine cD (fun hq166=>?_) (fun hq166=>?_)
 ·refine cT (cT ?_)
  exact cT (rV Tryz.results54 rfl bF)
 have hrng:=hp38 (by omega)
 refine LenG.of (cN (fun hq172=>?_) (fun hq172=>?_))
 ·refine cT (cT ?_)
  exact rV Tryz.results54 rfl bF
 obtain ⟨a0,he_a0,ha0⟩:=openAt hx 0 (by omega)
 obtain ⟨a1,he_a1,ha1⟩:=openAt hx 1 (by omega)
 have hs_a0:IsSh 11 (exA a0):=he_a0 ▸ hshc.2 _ (List.getElem_mem _)
 have hs_a1:IsSh 11 (exA a1):=he_a1 ▸ hshc.2 _ (List.getElem_mem _)
 refine IdxG.as (j:=0) (by omega) he_a0 (ArgG.mk (operand_p (exA a0) (isEx ha0) l hl 11 (by omega) hs_a0) rfl ?_)
 rintro _ ⟨b39,rfl,hb39⟩
 refine cB (fun hg181=>?_) (fun hg181=>?_)
 ·exact cT (rV Tryz.results54 rfl bF)
 have ho0:OpE l 11 (exA a0):=hb39 (by simpa using hg181)
 refine IdxG.as (j:=1) (by omega) he_a1 (ArgG.mk (operand_p (exA a1) (isEx ha1) l hl 11 (by omega) hs_a1) rfl ?_)
 rintro _ ⟨b40,rfl,hb40⟩
 refine cB (fun hc189=>?_) (fun hc189=>?_)
 ·exact rV Tryz.results54 rfl bF
 have ho1:OpE l 11 (exA a1):=hb40 (by simpa using hc189)
 refine IdxG.as (j:=0) (by omega) he_a0 (IdxG.as (j:=1) (by omega) he_a1 ?_)
 refine ⟨by kernel_rfl,ArgG.mk (text_p (exA a0) (isEx ha0) l hl) rfl ?_⟩
 rintro _ ⟨b41,rfl,hb41,hbn41⟩
 refine cB (fun hg202=>?_) (fun hg202=>?_)
 ·have hnA:¬ TextE l (exA a0):=hbn41 (by simpa using hg202)
  refine ArgG.mk (text_p (exA a1) (isEx ha1) l hl) rfl ?_
  rintro _ ⟨b42,rfl,hb42,hbn42⟩
  refine cB (fun hc207=>?_) (fun hc207=>?_)
  ·have hcm:CmpT l a0 a1:=.inl ⟨hnA,hbn42 (by simpa using hc207)⟩
   exact rV Tryz.results54 rfl ⟨_,rfl,fun _=>.cmp x a0 a1 hrng (two_eq (by assumption) he_a0 he_a1) ho0 ho1 hcm⟩
  refine ArgG.mk (text_p (exA a0) (isEx ha0) l hl) rfl ?_
  rintro _ ⟨b43,rfl,hb43,hbn43⟩
  refine cB (fun hg212=>?_) (fun hg212=>?_)
  ·refine cE (fun hq216=>?_) (fun hq216=>?_)
   ·refine ArgG.mk (null_p (exA a0) (isEx ha0)) rfl ?_
    rintro _ ⟨b44,rfl,hb44⟩
    refine cB (fun hg222=>?_) (fun hg222=>?_)
    ·exact cT (rV Tryz.results54 rfl bF)
    have hcm:CmpT l a0 a1:=.inr (.inr (.inl ⟨hq216,hb44.1 (by simpa using hg222)⟩))
    refine ArgG.mk (text_p (exA a1) (isEx ha1) l hl) rfl ?_
    rintro _ ⟨b45,rfl,hb45,hbn45⟩
    refine cB (fun hg227=>?_) (fun hg227=>?_)
    ·refine cE (fun hq231=>?_) (fun hq231=>?_)
     ·refine ArgG.mk (null_p (exA a1) (isEx ha1)) rfl ?_
      rintro _ ⟨b46,rfl,hb46⟩
      refine cB (fun hc237=>?_) (fun hc237=>?_)
      ·exact rV Tryz.results54 rfl bF
      have hcm:CmpT l a0 a1:=.inr (.inr (.inr ⟨hq231,hb46.1 (by simpa using hc237)⟩))
      refine cE (fun hq241=>?_) (fun hq241=>?_)
      refine cT (cT ?_)
      exact rV Tryz.results54 rfl ⟨_,rfl,fun _=>.cmp x a0 a1 hrng (two_eq (by assumption) he_a0 he_a1) ho0 ho1 hcm⟩
      refine cE (fun hq246=>?_) (fun hq246=>?_)
      exact cT (rV Tryz.results54 rfl ⟨_,rfl,fun _=>.cmp x a0 a1 hrng (two_eq (by assumption) he_a0 he_a1) ho0 ho1 hcm⟩)
      refine cE (fun hq251=>?_) (fun hq251=>?_)
      ·exact rV Tryz.results54 rfl ⟨_,rfl,fun _=>.cmp x a0 a1 hrng (two_eq (by assumption) he_a0 he_a1) ho0 ho1 hcm⟩
      exact rV Tryz.results54 rfl ⟨_,rfl,fun _=>.cmp x a0 a1 hrng (two_eq (by assumption) he_a0 he_a1) ho0 ho1 hcm⟩
     exact cT (rV Tryz.results54 rfl bF)
    skip
    refine cF (cE (fun hq241=>?_) (fun hq241=>?_))
    refine cT (cT ?_)
    exact rV Tryz.results54 rfl ⟨_,rfl,fun _=>.cmp x a0 a1 hrng (two_eq (by assumption) he_a0 he_a1) ho0 ho1 hcm⟩
    refine cE (fun hq246=>?_) (fun hq246=>?_)
    exact cT (rV Tryz.results54 rfl ⟨_,rfl,fun _=>.cmp x a0 a1 hrng (two_eq (by assumption) he_a0 he_a1) ho0 ho1 hcm⟩)
    refine cE (fun hq251=>?_) (fun hq251=>?_)
    ·exact rV Tryz.results54 rfl ⟨_,rfl,fun _=>.cmp x a0 a1 hrng (two_eq (by assumption) he_a0 he_a1) ho0 ho1 hcm⟩
    exact rV Tryz.results54 rfl ⟨_,rfl,fun _=>.cmp x a0 a1 hrng (two_eq (by assumption) he_a0 he_a1) ho0 ho1 hcm⟩
   refine cT (cT ?_)
   exact rV Tryz.results54 rfl bF
  have htA:TextE l (exA a0):=hb43 (by simpa using hg212)
  refine cF (ArgG.mk (text_p (exA a1) (isEx ha1) l hl) rfl ?_)
  rintro _ ⟨b47,rfl,hb47,hbn47⟩
  refine cB (fun hg227=>?_) (fun hg227=>?_)
  ·refine cE (fun hq231=>?_) (fun hq231=>?_)
   ·refine ArgG.mk (null_p (exA a1) (isEx ha1)) rfl ?_
    rintro _ ⟨b48,rfl,hb48⟩
    refine cB (fun hc237=>?_) (fun hc237=>?_)
    ·exact rV Tryz.results54 rfl bF
    have hcm:CmpT l a0 a1:=.inr (.inr (.inr ⟨hq231,hb48.1 (by simpa using hc237)⟩))
    refine cE (fun hq241=>?_) (fun hq241=>?_)
    refine cT (cT ?_)
    exact rV Tryz.results54 rfl ⟨_,rfl,fun _=>.cmp x a0 a1 hrng (two_eq (by assumption) he_a0 he_a1) ho0 ho1 hcm⟩
    refine cE (fun hq246=>?_) (fun hq246=>?_)
    exact cT (rV Tryz.results54 rfl ⟨_,rfl,fun _=>.cmp x a0 a1 hrng (two_eq (by assumption) he_a0 he_a1) ho0 ho1 hcm⟩)
    refine cE (fun hq251=>?_) (fun hq251=>?_)
    ·exact rV Tryz.results54 rfl ⟨_,rfl,fun _=>.cmp x a0 a1 hrng (two_eq (by assumption) he_a0 he_a1) ho0 ho1 hcm⟩
    exact rV Tryz.results54 rfl ⟨_,rfl,fun _=>.cmp x a0 a1 hrng (two_eq (by assumption) he_a0 he_a1) ho0 ho1 hcm⟩
   exact cT (rV Tryz.results54 rfl bF)
  have hcm:CmpT l a0 a1:=.inr (.inl ⟨htA,hb47 (by simpa using hg227)⟩)
  refine cF (cE (fun hq241=>?_) (fun hq241=>?_))
  refine cT (cT ?_)
  exact rV Tryz.results54 rfl ⟨_,rfl,fun _=>.cmp x a0 a1 hrng (two_eq (by assumption) he_a0 he_a1) ho0 ho1 hcm⟩
  refine cE (fun hq246=>?_) (fun hq246=>?_)
  exact cT (rV Tryz.results54 rfl ⟨_,rfl,fun _=>.cmp x a0 a1 hrng (two_eq (by assumption) he_a0 he_a1) ho0 ho1 hcm⟩)
  refine cE (fun hq251=>?_) (fun hq251=>?_)
  ·exact rV Tryz.results54 rfl ⟨_,rfl,fun _=>.cmp x a0 a1 hrng (two_eq (by assumption) he_a0 he_a1) ho0 ho1 hcm⟩
  exact rV Tryz.results54 rfl ⟨_,rfl,fun _=>.cmp x a0 a1 hrng (two_eq (by assumption) he_a0 he_a1) ho0 ho1 hcm⟩
 refine cF (ArgG.mk (text_p (exA a0) (isEx ha0) l hl) rfl ?_)
 rintro _ ⟨b49,rfl,hb49,hbn49⟩
 refine cB (fun hg212=>?_) (fun hg212=>?_)
 ·refine cE (fun hq216=>?_) (fun hq216=>?_)
  ·refine ArgG.mk (null_p (exA a0) (isEx ha0)) rfl ?_
   rintro _ ⟨b50,rfl,hb50⟩
   refine cB (fun hg222=>?_) (fun hg222=>?_)
   ·exact cT (rV Tryz.results54 rfl bF)
   have hcm:CmpT l a0 a1:=.inr (.inr (.inl ⟨hq216,hb50.1 (by simpa using hg222)⟩))
   refine ArgG.mk (text_p (exA a1) (isEx ha1) l hl) rfl ?_
   rintro _ ⟨b51,rfl,hb51,hbn51⟩
   refine cB (fun hg227=>?_) (fun hg227=>?_)
   ·refine cE (fun hq231=>?_) (fun hq231=>?_)
    ·refine ArgG.mk (null_p (exA a1) (isEx ha1)) rfl ?_
     rintro _ ⟨b52,rfl,hb52⟩
     refine cB (fun hc237=>?_) (fun hc237=>?_)
     ·exact rV Tryz.results54 rfl bF
     have hcm:CmpT l a0 a1:=.inr (.inr (.inr ⟨hq231,hb52.1 (by simpa using hc237)⟩))
     refine cE (fun hq241=>?_) (fun hq241=>?_)
     refine cT (cT ?_)
     exact rV Tryz.results54 rfl ⟨_,rfl,fun _=>.cmp x a0 a1 hrng (two_eq (by assumption) he_a0 he_a1) ho0 ho1 hcm⟩
     refine cE (fun hq246=>?_) (fun hq246=>?_)
     exact cT (rV Tryz.results54 rfl ⟨_,rfl,fun _=>.cmp x a0 a1 hrng (two_eq (by assumption) he_a0 he_a1) ho0 ho1 hcm⟩)
     refine cE (fun hq251=>?_) (fun hq251=>?_)
     ·exact rV Tryz.results54 rfl ⟨_,rfl,fun _=>.cmp x a0 a1 hrng (two_eq (by assumption) he_a0 he_a1) ho0 ho1 hcm⟩
     exact rV Tryz.results54 rfl ⟨_,rfl,fun _=>.cmp x a0 a1 hrng (two_eq (by assumption) he_a0 he_a1) ho0 ho1 hcm⟩
    exact cT (rV Tryz.results54 rfl bF)
   skip
   refine cF (cE (fun hq241=>?_) (fun hq241=>?_))
   refine cT (cT ?_)
   exact rV Tryz.results54 rfl ⟨_,rfl,fun _=>.cmp x a0 a1 hrng (two_eq (by assumption) he_a0 he_a1) ho0 ho1 hcm⟩
   refine cE (fun hq246=>?_) (fun hq246=>?_)
   exact cT (rV Tryz.results54 rfl ⟨_,rfl,fun _=>.cmp x a0 a1 hrng (two_eq (by assumption) he_a0 he_a1) ho0 ho1 hcm⟩)
   refine cE (fun hq251=>?_) (fun hq251=>?_)
   ·exact rV Tryz.results54 rfl ⟨_,rfl,fun _=>.cmp x a0 a1 hrng (two_eq (by assumption) he_a0 he_a1) ho0 ho1 hcm⟩
   exact rV Tryz.results54 rfl ⟨_,rfl,fun _=>.cmp x a0 a1 hrng (two_eq (by assumption) he_a0 he_a1) ho0 ho1 hcm⟩
  refine cT (cT ?_)
  exact rV Tryz.results54 rfl bF
 have htA:TextE l (exA a0):=hb49 (by simpa using hg212)
 refine cF (ArgG.mk (text_p (exA a1) (isEx ha1) l hl) rfl ?_)
 rintro _ ⟨b53,rfl,hb53,hbn53⟩
 refine cB (fun hg227=>?_) (fun hg227=>?_)
 ·refine cE (fun hq231=>?_) (fun hq231=>?_)
  ·refine ArgG.mk (null_p (exA a1) (isEx ha1)) rfl ?_
   rintro _ ⟨b54,rfl,hb54⟩
   refine cB (fun hc237=>?_) (fun hc237=>?_)
   ·exact rV Tryz.results54 rfl bF
   have hcm:CmpT l a0 a1:=.inr (.inr (.inr ⟨hq231,hb54.1 (by simpa using hc237)⟩))
   refine cE (fun hq241=>?_) (fun hq241=>?_)
   refine cT (cT ?_)
   exact rV Tryz.results54 rfl ⟨_,rfl,fun _=>.cmp x a0 a1 hrng (two_eq (by assumption) he_a0 he_a1) ho0 ho1 hcm⟩
   refine cE (fun hq246=>?_) (fun hq246=>?_)
   exact cT (rV Tryz.results54 rfl ⟨_,rfl,fun _=>.cmp x a0 a1 hrng (two_eq (by assumption) he_a0 he_a1) ho0 ho1 hcm⟩)
   refine cE (fun hq251=>?_) (fun hq251=>?_)
   ·exact rV Tryz.results54 rfl ⟨_,rfl,fun _=>.cmp x a0 a1 hrng (two_eq (by assumption) he_a0 he_a1) ho0 ho1 hcm⟩
   exact rV Tryz.results54 rfl ⟨_,rfl,fun _=>.cmp x a0 a1 hrng (two_eq (by assumption) he_a0 he_a1) ho0 ho1 hcm⟩
  exact cT (rV Tryz.results54 rfl bF)
 have hcm:CmpT l a0 a1:=.inr (.inl ⟨htA,hb53 (by simpa using hg227)⟩)
 refine cF (cE (fun hq241=>?_) (fun hq241=>?_))
 refine cT (cT ?_)
 exact rV Tryz.results54 rfl ⟨_,rfl,fun _=>.cmp x a0 a1 hrng (two_eq (by assumption) he_a0 he_a1) ho0 ho1 hcm⟩
 refine cE (fun hq246=>?_) (fun hq246=>?_)
 exact cT (rV Tryz.results54 rfl ⟨_,rfl,fun _=>.cmp x a0 a1 hrng (two_eq (by assumption) he_a0 he_a1) ho0 ho1 hcm⟩)
 refine cE (fun hq251=>?_) (fun hq251=>?_)
 ·exact rV Tryz.results54 rfl ⟨_,rfl,fun _=>.cmp x a0 a1 hrng (two_eq (by assumption) he_a0 he_a1) ho0 ho1 hcm⟩
 exact rV Tryz.results54 rfl ⟨_,rfl,fun _=>.cmp x a0 a1 hrng (two_eq (by assumption) he_a0 he_a1) ho0 ho1 hcm⟩
theorem cond16_p (r:List AV) (hr:IsEx r) (l:List PVar) (hl:FitL l (fun y=>True)):∀ d:Int,(0≤d∧d≤1000)→PRet Tryz.prog 54 [.agg (rwA r),.tree 5 (l.map vA),.v (.int .i64 d)] (fun q=>∃ b:Bool,q=.v (.bool b)∧(b=true→CondE l r)):=IsEx.ind (M:=fun r=>∀ d:Int,(0≤d∧d≤1000)→PRet Tryz.prog 54 [.agg (rwA r),.tree 5 (l.map vA),.v (.int .i64 d)] (fun q=>∃ b:Bool,q=.v (.bool b)∧(b=true→CondE l r))) (fun x hx ih d hd=>cond16_w x hx l hl d hd ih) hr
end Go.Proofs.YtjdblmpkeilbaaaGreatDoor
namespace Go.Proofs.YtjdblmpkeilbaaaGreatDoor
set_option linter.unusedVariables false
set_option linter.unusedSimpArgs false
open Go.RowKit
theorem row_vA:RowF vA 5:=⟨fun _=>rfl,fun _=>rfl,fun _ _=>rfl,fun _ _=>rfl,fun _ _=>rfl,fun _=>rfl⟩
/-- The variable of a column. -/
def varC (c:GCol):PVar:=⟨c.type_,c.low_,c.high_,c.max_,!c.notNull_⟩
def varsOf (t:GTab):List PVar:=t.columns_.map varC
theorem vars_next {t:GTab} {k:Nat} (h:k < t.columns_.length):(varsOf t).take (k+1)=(varsOf t).take k++[varC t.columns_[k]]:=by
 rw [List.take_succ_eq_append_getElem (by simpa [varsOf] using h)]; simp [varsOf]
theorem vars_end {t:GTab} {k:Nat} (h:¬ k < t.columns_.length):(varsOf t).take k=varsOf t:=List.take_of_length_le (by simp [varsOf]; omega)
/-- A value that fits a variable. -/
def FitV (v:GVal) (x:PVar):Prop:=(v.kind_=0∧v.int_=0)∨(v.kind_=1∧x.t=1∧x.lo≤v.int_∧v.int_≤x.hi)∨(v.kind_=2∧x.t=2∧v.int_=0∧v.text_.size≤16)
/-- Does a value fit a variable? -/
def fitB (v:GVal) (x:PVar):Bool:=if valB v=true then (if v.kind_=0 then x.nl else if v.kind_=1 then (x.t==1&&decide (v.int_≥x.lo)&&decide (v.int_≤x.hi)) else (x.t==2&&decide ((v.text_.size:Int)≤x.mx))) else false
theorem fitV_of {v:GVal} {x:PVar} (h:fitB v x=true):FitV v x:=by
 unfold fitB at h
 split at h
 ·rename_i hv
  rcases valB_of hv with g | g | g
  ·exact .inl g
  ·rw [if_neg (by omega),if_pos g] at h
   simp at h
   exact .inr (.inl ⟨g,h.1.1,by omega,by omega⟩)
  rw [if_neg (by omega),if_neg (by omega)] at h
  simp at h
  exact .inr (.inr ⟨g.1,h.1,g.2⟩)
 cases h
theorem fitB_nl {v:GVal} {x:PVar} (h:v.kind_=0→x.nl=true):fitB v { x with nl:=true }=fitB v x:=by
 unfold fitB
 by_cases h0:v.kind_=0
 ·simp only [h0,if_true,h h0]
 simp only [h0,if_false]
theorem fitB_no {v:GVal} {x:PVar} (h:v.kind_=0) (h2:x.nl=false):fitB v x=false:=by
 unfold fitB
 rw [if_pos h,h2]; split <;> rfl
structure KE where
 k:Nat
 e:Int
/-- Where the look at a row stands. -/
def FtI (t:GTab) (r:List GVal) (s:KE):Prop:=s.e=0↔∀ j (hl:j < r.length) (h2:j < t.columns_.length),j < s.k→fitB r[j] (varC t.columns_[j])=true
section
variable {t:GTab} {r:List GVal} {s:KE}
theorem ft_step (h:FtI t r s) (h2:s.k < t.columns_.length) (hk:s.k < r.length) (hf:fitB r[s.k] (varC t.columns_[s.k])=true):FtI t r ⟨s.k+1,s.e⟩:=⟨fun he j hl h3 hj=>by
 rcases Nat.lt_succ_iff_lt_or_eq.1 hj with hj | rfl
 ·exact h.1 he j hl h3 hj
 exact hf,fun g=>h.2 fun j hl h3 hj=>g j hl h3 (by show j < s.k+1; omega)⟩
theorem ft_bad {e:Int} (h2:s.k < t.columns_.length) (hk:s.k < r.length) (hf:fitB r[s.k] (varC t.columns_[s.k])=false) (he:e≠0):FtI t r ⟨s.k+1,e⟩:=⟨fun h=>absurd h he,fun g=>by
 have:=g s.k hk h2 (Nat.lt_succ_self _)
 rw [hf] at this; cases this⟩
end
theorem by96:(Tryz.prog.info? 96).map (·.bytes)=some 40:=by kernel_rfl
theorem zr96:zeroOf Tryz.prog 96=some (.agg #[.int .i64 0,.int .i64 0,.int .i64 0,.int .i64 0,.bool false]):=by kernel_rfl
set_option maxRecDepth 100000 in
set_option maxHeartbeats 4000000 in
theorem condition29_w (x:GEx) (hx:FitEx x) (l:List PVar) (hl:FitL l (fun y=>True)):PRet Tryz.prog 20 [.agg (exA x),.tree 5 (l.map vA)] (fun r=>∃ b:Bool,r=.v (.bool b)∧(b=true→x.op_=0∨CondE l (exA x))):=by
 refine PRet.of_vc infOk [] [] Tryz.func20 rfl Tryz.ntmps20 rfl (by kernel_rfl) (ArgG.mk (expr0_w x hx) rfl ?_)
 rintro _ ⟨b0,rfl,hb0⟩
 refine cB (fun hg8=>?_) (fun hg8=>?_)
 ·exact rV Tryz.results20 rfl ⟨_,rfl,fun _=>.inl (hb0 (by assumption))⟩
 refine ArgG.mk (cond16_p (exA x) (isEx hx) l hl 6 (by omega)) rfl ?_
 rintro _ ⟨b1,rfl,hb1⟩
 exact rV Tryz.results20 rfl ⟨_,rfl,fun hr=>.inr (hb1 hr)⟩
set_option maxRecDepth 100000 in
set_option maxHeartbeats 4000000 in
theorem variables12_p (t:GTab) (ht:FitTab t) (hcl:t.columns_.length≤3518437208883):PRet Tryz.prog 17 [.agg (tabA t)] (fun r=>r=.tree 5 ((varsOf t).map vA)):=by
 refine PRet.of_vc infOk [] [] Tryz.func17 rfl Tryz.ntmps17 rfl (by kernel_rfl) (LpG.via (fun _ h=>AWP.lazyT 3 5 rfl 2 rfl h) ?_)
 refine LpG.on (fun k0:KL PVar=>(⟨fL [(1,.ptr 0 0 0),(3,.sl 1 k0.L.length 0 k0.L.length),(4,.v (.int .i64 ((k0.k:Nat):Int)))],hLz [(0,⟨0,tabA t,0,false⟩),(1,⟨k0.L.length,rF vA k0.L,5,Nat.beq k0.L.length 0⟩)],2⟩:St)) (fun k0=>(t.columns_.length - k0.k)) (fun k0=>(k0.k≤t.columns_.length∧k0.L.length=k0.k∧(∀ x∈k0.L,True)∧k0.L=(varsOf t).take k0.k)) (⟨0,[]⟩:KL PVar) (cO (.cons rfl rfl (.cons (by rfl) rfl (.cons rfl rfl .nil))) (.cons rfl rfl rfl (.cons (by rfl) rfl (rF_low row_vA _ _) .nil))) ⟨Nat.zero_le _,rfl,by simp,rfl⟩ ?_
 rintro k0 hinv
 have hgr_k0:t.columns_.length≤140737488355328:=ht.columns_.1
 obtain ⟨hle_k0,hL_k0,hf_k0,hi_k0⟩:=hinv
 refine LenG.of (cL (fun hlt10=>?_) (fun hge10=>?_))
 ·refine IdxG.of (by assumption) (OpG.mk _ _ _ 4 (LOp.appRow row_vA (a:=(varC t.columns_[k0.k])) Tryz.underlying60 sz96 zr96 by96 rfl rfl rfl (Src.slB rfl rfl rfl rfl) rfl (by omega) (by omega) (by unfold TV; omega)) rfl rfl ?_)
  refine ⟨by omega,⟨(⟨k0.k+1,k0.L++[(varC t.columns_[k0.k])]⟩:KL PVar),(by show t.columns_.length - (k0.k+1) < t.columns_.length - k0.k; omega),(cO (.cons rfl rfl (.cons (by (rw [List.length_append]; rfl)) rfl (.cons rfl rfl .nil))) (.cons rfl rfl rfl (.cons (by (rw [List.length_append]; rfl)) rfl (rF_low row_vA _ _) .nil))),?_⟩⟩
  refine ⟨by show k0.k+1≤_; omega,by show (_++[_]).length=k0.k+1; rw [List.length_append,hL_k0]; rfl,fun _ _=>trivial,?_⟩
  show _++[_]=(varsOf t).take (k0.k+1); rw [vars_next hlt10,hi_k0]
 refine ⟨.inr rfl,_,Outs.tmp Tryz.results17 ⟨[1],FzP.rows row_vA (List.mem_singleton.2 rfl) rfl⟩,?_⟩
 show AV.tree 5 (k0.L.map vA)=_; rw [hi_k0,vars_end hge10]
set_option maxRecDepth 100000 in
set_option maxHeartbeats 4000000 in
theorem fits04_p (v:GVal) (hv:FitVal v) (x:PVar):PRet Tryz.prog 60 [.agg (gvA v),.agg (vA x)] (fun r=>r=.v (.bool (fitB v x))):=by
 refine PRet.of_vc infOk [] [] Tryz.func60 rfl Tryz.ntmps60 rfl (by kernel_rfl) ?_
 refine ArgG.mk (valid04x_p v hv) rfl ?_
 rintro _ rfl
 refine cB (fun hc7=>?_) (fun hc7=>?_)
 ·refine rV Tryz.results60 rfl ?_
  refine vb_eq ?_
  unfold fitB
  (simp_all; done)
 refine cB (fun hc10=>?_) (fun hc10=>?_)
 ·have hq10:(v.kind_:Int)=(0:Int):=by simpa using hc10
  refine rV Tryz.results60 rfl ?_
  refine vb_eq ?_
  unfold fitB
  (simp_all; done)
 have hq10:¬ ((v.kind_:Int)=(0:Int)):=by simpa using hc10
 refine cB (fun hc14=>?_) (fun hc14=>?_)
 ·have hq14:(v.kind_:Int)=(1:Int):=by simpa using hc14
  refine cB (fun hg19=>?_) (fun hg19=>?_)
  ·have hq19:(x.t:Int)=(1:Int):=by simpa using hg19
   refine cB (fun hg26=>?_) (fun hg26=>?_)
   ·have hq26:(v.int_:Int)≥(x.lo:Int):=of_decide_eq_true hg26
    refine rV Tryz.results60 rfl ?_
    refine vb_eq ?_
    unfold fitB
    (simp_all; done)
   have hq26:¬ ((v.int_:Int)≥(x.lo:Int)):=of_decide_eq_false hg26
   refine rV Tryz.results60 rfl ?_
   refine vb_eq ?_
   unfold fitB
   (simp_all; omega)
  have hq19:¬ ((x.t:Int)=(1:Int)):=by simpa using hg19
  refine cF (rV Tryz.results60 rfl ?_)
  refine vb_eq ?_
  unfold fitB
  (simp_all; done)
 have hq14:¬ ((v.kind_:Int)=(1:Int)):=by simpa using hc14
 refine cB (fun hg36=>?_) (fun hg36=>?_)
 ·have hq36:(x.t:Int)=(2:Int):=by simpa using hg36
  refine rV Tryz.results60 rfl ?_
  refine vb_eq ?_
  unfold fitB
  (simp_all; done)
 have hq36:¬ ((x.t:Int)=(2:Int)):=by simpa using hg36
 refine rV Tryz.results60 rfl ?_
 refine vb_eq ?_
 unfold fitB
 (simp_all; done)
end Go.Proofs.YtjdblmpkeilbaaaGreatDoor
namespace Go.Proofs.YtjdblmpkeilbaaaGreatDoor
set_option linter.unusedVariables false
set_option linter.unusedSimpArgs false
open Go.RowKit
/-- A row that fits a table. -/
def RowFit (t:GTab) (r:List GVal):Prop:=r.length=t.columns_.length∧∀ j (hl:j < r.length) (h2:j < t.columns_.length),fitB r[j] (varC t.columns_[j])=true
theorem ft_nl {t:GTab} {k:Nat} {v:GVal} {b:Bool} (h1:k < (varsOf t).length) (h2:k < t.columns_.length) (hb:fitB v { (varsOf t)[k] with nl:=true }=b) (hn:v.kind_=0→t.columns_[k].notNull_=false):fitB v (varC t.columns_[k])=b:=by
 have e:(varsOf t)[k]=varC t.columns_[k]:=by simp [varsOf]
 rw [e,fitB_nl (fun h=>by show (!t.columns_[k].notNull_)=true; rw [hn h]; rfl)] at hb
 exact hb
set_option maxRecDepth 100000 in
set_option maxHeartbeats 4000000 in
theorem fits12_p (t:GTab) (ht:FitTab t) (w:List GVal) (hw:FitL w (fun y=>FitVal y)) (hcl:t.columns_.length≤1000):PRet Tryz.prog 24 [.agg (tabA t),.tree 3 (w.map gvA)] (fun q=>∃ e:Int,q=.v (.int .i64 e)∧(e=0↔RowFit t w)):=by
 refine PRet.of_vc infOk [] [] Tryz.func24 rfl Tryz.ntmps24 rfl (by kernel_rfl) (LenG.of ?_)
 refine LenG.of (cB (fun hc14=>?_) (fun hc14=>?_))
 ·have hq14:¬ (((w.length:Nat):Int)=((t.columns_.length:Nat):Int)):=by simpa using hc14
  have hlen:¬ w.length=t.columns_.length:=by have h:=hc14; simp at h; omega
  exact rV Tryz.results24 rfl ⟨_,rfl,fun h=>absurd h (by decide),fun h=>absurd h.1 hlen⟩
 have hq14:((w.length:Nat):Int)=((t.columns_.length:Nat):Int):=by simpa using hc14
 have hlen:w.length=t.columns_.length:=by have h:=hc14; simp at h; omega
 refine ArgG.mk (variables12_p t ht (by omega)) rfl ?_
 rintro _ rfl
 refine LpG.on (fun k0:KE=>(⟨fL [(1,.tree 3 (w.map gvA)),(2,.ptr 0 0 0),(5,.tree 5 (((varsOf t)).map vA)),(6,.v (.int .i64 k0.e)),(7,.v (.int .i64 ((k0.k:Nat):Int)))],hLz [(0,⟨0,tabA t,0,false⟩)],1⟩:St)) (fun k0=>(w.length - k0.k)) (fun k0=>(k0.k≤w.length∧FtI t w k0)) (⟨0,0⟩:KE) (cO (.cons rfl rfl (.cons rfl rfl (.cons rfl rfl (.cons rfl rfl (.cons rfl rfl .nil))))) (.cons rfl rfl rfl .nil)) ⟨Nat.zero_le _,⟨fun _ j _ _ h=>absurd h (Nat.not_lt_zero j),fun _=>rfl⟩⟩ ?_
 rintro k0 hinv
 have hgr_k0:w.length≤140737488355328:=hw.1
 obtain ⟨hle_k0,hi_k0⟩:=hinv
 refine LenG.of (cL (fun hlt20=>?_) (fun hge20=>?_))
 ·have hvl:k0.k < (varsOf t).length:=by simp [varsOf]; omega
  have hcc2:k0.k < t.columns_.length:=by omega
  refine IdxG.of (by assumption) (IdxG.of (by assumption) ?_)
  refine cE (fun hq34=>?_) (fun hq34=>?_)
  ·refine IdxG.of (by assumption) (cB (fun hc41=>?_) (fun hc41=>?_))
   ·exact rV Tryz.results24 rfl ⟨_,rfl,fun h=>absurd h (by decide),fun h=>by have h1:=h.2 k0.k hlt20 hcc2; rw [fitB_no (by assumption) (by show (!t.columns_[k0.k].notNull_)=false; simp_all)] at h1; cases h1⟩
   refine IdxG.of (by assumption) (ArgG.mk (fits04_p (w[k0.k]) (hw.2 _ (List.getElem_mem _)) (({ (varsOf t)[k0.k] with nl:=true }:PVar))) rfl ?_)
   rintro _ rfl
   refine ⟨by kernel_rfl,cB (fun hc48=>?_) (fun hc48=>?_)⟩
   ·refine ⟨by omega,⟨(⟨k0.k+1,_⟩:KE),(by show w.length - (k0.k+1) < w.length - k0.k; omega),(cO (.cons rfl rfl (.cons rfl rfl (.cons rfl rfl (.cons rfl rfl (.cons rfl rfl .nil))))) (.cons rfl rfl rfl .nil)),?_⟩⟩
    refine ⟨by show k0.k+1≤_; omega,?_⟩
    have hnn:w[k0.k].kind_=0→t.columns_[k0.k].notNull_=false:=fun h=>by (simpa using hc41)
    exact ft_bad hcc2 hlt20 (ft_nl hvl hcc2 (by simpa using hc48) hnn) (by decide)
   refine ⟨by omega,⟨(⟨k0.k+1,_⟩:KE),(by show w.length - (k0.k+1) < w.length - k0.k; omega),(cO (.cons rfl rfl (.cons rfl rfl (.cons rfl rfl (.cons rfl rfl (.cons rfl rfl .nil))))) (.cons rfl rfl rfl .nil)),?_⟩⟩
   refine ⟨by show k0.k+1≤_; omega,?_⟩
   have hnn:w[k0.k].kind_=0→t.columns_[k0.k].notNull_=false:=fun h=>by (simpa using hc41)
   exact ft_step hi_k0 hcc2 hlt20 (ft_nl hvl hcc2 (by simpa using hc48) hnn)
  refine cF (IdxG.of (by assumption) ?_)
  refine ArgG.mk (fits04_p (w[k0.k]) (hw.2 _ (List.getElem_mem _)) (({ (varsOf t)[k0.k] with nl:=true }:PVar))) rfl ?_
  rintro _ rfl
  refine ⟨by kernel_rfl,cB (fun hc48=>?_) (fun hc48=>?_)⟩
  ·refine ⟨by omega,⟨(⟨k0.k+1,_⟩:KE),(by show w.length - (k0.k+1) < w.length - k0.k; omega),(cO (.cons rfl rfl (.cons rfl rfl (.cons rfl rfl (.cons rfl rfl (.cons rfl rfl .nil))))) (.cons rfl rfl rfl .nil)),?_⟩⟩
   refine ⟨by show k0.k+1≤_; omega,?_⟩
   have hnn:w[k0.k].kind_=0→t.columns_[k0.k].notNull_=false:=fun h=>by exact absurd h (by assumption)
   exact ft_bad hcc2 hlt20 (ft_nl hvl hcc2 (by simpa using hc48) hnn) (by decide)
  refine ⟨by omega,⟨(⟨k0.k+1,_⟩:KE),(by show w.length - (k0.k+1) < w.length - k0.k; omega),(cO (.cons rfl rfl (.cons rfl rfl (.cons rfl rfl (.cons rfl rfl (.cons rfl rfl .nil))))) (.cons rfl rfl rfl .nil)),?_⟩⟩
  refine ⟨by show k0.k+1≤_; omega,?_⟩
  have hnn:w[k0.k].kind_=0→t.columns_[k0.k].notNull_=false:=fun h=>by exact absurd h (by assumption)
  exact ft_step hi_k0 hcc2 hlt20 (ft_nl hvl hcc2 (by simpa using hc48) hnn)
 exact rV Tryz.results24 rfl ⟨_,rfl,fun h=>⟨hlen,fun j hl h2=>hi_k0.1 h j hl h2 (by omega)⟩,fun h=>hi_k0.2 fun j hl h2 _=>h.2 j hl h2⟩
end Go.Proofs.YtjdblmpkeilbaaaGreatDoor
namespace Go.Proofs.YtjdblmpkeilbaaaGreatDoor
set_option linter.unusedVariables false
set_option linter.unusedSimpArgs false
open Go.RowKit
section
variable {P:Program} {τ:Nat→AV} {η:Heap} {d:Option Tmp} {ty:TypeId} {pos:String} {af:Array Edge} {g:Option (Nat×Bool)}
theorem LOp.remT {t t':Nat} {x y:Operand} {m n:Int} (hx:aev τ x=.v (.int .i64 m)) (hy:aev τ y=.v (.int .i64 n)) (h3:1≤n) :
  LOp P ⟨d,.binOp .rem t x y t',ty,pos,af,g⟩ τ η [] [] (.v (.int .i64 (m.tmod n))) :=
 .look [] fun C a _ hxs _=>by
  have e1:=hxs x (by simp [Op.operands])
  have e2:=hxs y (by simp [Op.operands])
  rw [hx] at e1
  rw [hy] at e2
  refine ⟨.int .i64 (m.tmod n),?_,VR.v C _⟩
  have h0:¬ (n=0):=by omega
  simp only [execOp,e1.v_inv,e2.v_inv]
  simp [binOp,Op.intArith,Op.intDiv,eqGuard,h0,Sem.run_bind]
end
theorem fl14 {a b:Int} (hb:1≤b):(a.tmod b≠0→a < 0→a.tdiv b - 1=a.fdiv b)∧(¬ (a.tmod b≠0∧a < 0)→a.tdiv b=a.fdiv b):=by
 have hf:=tdiv_fdiv (a:=a) hb
 have h1:=Int.tmod_add_mul_tdiv a b
 have h4:b * a.tdiv b=a.tdiv b * b:=Int.mul_comm _ _
 refine ⟨fun hn ha=>?_,fun h=>?_⟩
 ·have h2:a.tmod b≤0:=by
   have:=Int.tmod_nonneg b (by omega:0≤-a)
   rw [Int.neg_tmod] at this; omega
  rw [← hf,if_pos (by omega)]
 have h2:0≤a.tmod b:=by
  by_cases ha:a < 0
  ·by_cases hz:a.tmod b=0
   ·omega
   ·exact absurd ⟨hz,ha⟩ h
  ·exact Int.tmod_nonneg b (by omega)
 rw [← hf,if_neg (by omega)]
theorem gv_eq {a b:GVal} (h:(!(a.kind_==b.kind_&&(a.int_==b.int_&&a.text_.toList==b.text_.toList)))=false):a=b:=by
 obtain ⟨k,i,t⟩:=a
 obtain ⟨k',i',t'⟩:=b
 simp at h
 obtain ⟨h1,h2,h3⟩:=h
 subst h1; subst h2
 rw [toList_inj h3]
theorem gv_ne {a b:GVal} (h:(!(a.kind_==b.kind_&&(a.int_==b.int_&&a.text_.toList==b.text_.toList)))=true):a≠b:=by
 intro e; subst e; simp at h
theorem row30:rowOf Tryz.prog 30=some (some 3):=by kernel_rfl
set_option maxRecDepth 100000 in
set_option maxHeartbeats 4000000 in
theorem integer14_p (n:Int):PRet Tryz.prog 61 [.v (.int .i64 n)] (fun r=>r=.agg (gvA ⟨1,n,⟨#[]⟩⟩)):=by
 refine PRet.of_vc infOk [] [] Tryz.func61 rfl Tryz.ntmps61 rfl (by kernel_rfl) ⟨.inr rfl,_,Outs.cell Tryz.results61 row30 rfl rfl rfl rfl rfl ⟨[],FzP.pure rfl⟩,?_⟩
 rfl
set_option maxRecDepth 100000 in
set_option maxHeartbeats 4000000 in
theorem floor14_p (a:Int) (b:Int) (ha:-4611686018427387904≤a∧a≤4611686018427387904) (hb:1≤b∧b≤4611686018427387904):PRet Tryz.prog 62 [.v (.int .i64 a),.v (.int .i64 b)] (fun r=>∃ v:Int,r=.v (.int .i64 v)∧v=a.fdiv b):=by
 have hf:=fl14 (a:=a) hb.1
 have hq:=tdiv_rng ha hb
 refine PRet.of_vc infOk [8,11,21] [] Tryz.func62 rfl Tryz.ntmps62 rfl (by kernel_rfl) (OpG.lk (LOp.quoT rfl rfl (by omega) (by omega) (by omega)) ?_)
 refine OpG.lk (LOp.remT rfl rfl (by omega)) (cN (fun hq13=>?_) (fun hq13=>?_))
 ·refine cB (fun hc19=>?_) (fun hc19=>?_)
  ·exact OpG.lk (LOp.subI rfl rfl (by omega) (by omega)) (rV Tryz.results62 rfl ⟨_,rfl,hf.1 (by assumption) (by simp_all; omega)⟩)
  exact rV Tryz.results62 rfl ⟨_,rfl,hf.2 (by simp_all; omega)⟩
 exact cF (rV Tryz.results62 rfl ⟨_,rfl,hf.2 (by simp_all)⟩)
set_option maxRecDepth 100000 in
set_option maxHeartbeats 4000000 in
theorem same28_p (a:List GVal) (ha:FitL a (fun y=>FitVal y)) (b:List GVal) (hb:FitL b (fun y=>FitVal y)):PRet Tryz.prog 8 [.tree 3 (a.map gvA),.tree 3 (b.map gvA)] (fun r=>∃ v:Bool,r=.v (.bool v)∧(v=true↔a=b)):=by
 refine PRet.of_vc infOk [] [] Tryz.func8 rfl Tryz.ntmps8 rfl (by kernel_rfl) ?_
 refine LenG.of (LenG.of ?_)
 refine cB (fun hc10=>?_) (fun hc10=>?_)
 ·have hq10:¬ (((a.length:Nat):Int)=((b.length:Nat):Int)):=by simpa using hc10
  refine rV Tryz.results8 rfl ?_
  refine ⟨_,rfl,fun h=>absurd h Bool.false_ne_true,fun h=>?_⟩; subst h; simp at hc10
 have hq10:((a.length:Nat):Int)=((b.length:Nat):Int):=by simpa using hc10
 have hab:a.length=b.length:=by have h:=hc10; simp at h; omega
 refine LpG.on (fun k0:Nat=>(⟨fL [(0,.tree 3 (a.map gvA)),(1,.tree 3 (b.map gvA)),(5,.v (.int .i64 ((k0:Nat):Int)))],hLz [],0⟩:St)) (fun k0=>(a.length - k0)) (fun k0=>(k0≤a.length∧∀ j (hl:j < a.length),j < k0→∀ h2:j < b.length,a[j]=b[j])) 0 (cO (.cons rfl rfl (.cons rfl rfl (.cons rfl rfl .nil))) .nil) ⟨Nat.zero_le _,fun j _ h=>absurd h (Nat.not_lt_zero j)⟩ ?_
 rintro k0 hinv
 have hgr_k0:a.length≤140737488355328:=ha.1
 obtain ⟨hle_k0,hj_k0⟩:=hinv
 refine LenG.of (cL (fun hlt14=>?_) (fun hge14=>?_))
 ·refine IdxG.of (by assumption) (IdxG.of (by omega) ?_)
  refine OpG.lk (LOp.neVal rfl rfl) ?_
  refine ⟨by kernel_rfl,?_⟩
  refine cB (fun hc25=>?_) (fun hc25=>?_)
  ·exact rV Tryz.results8 rfl ⟨_,rfl,fun h=>absurd h Bool.false_ne_true,fun h=>by subst h; exact absurd rfl (gv_ne hc25)⟩
  refine ⟨by omega,?_⟩
  refine ⟨(k0+1),by omega,(cO (.cons rfl rfl (.cons rfl rfl (.cons rfl rfl .nil))) .nil),?_⟩
  refine ⟨by omega,fun j hl h=>?_⟩
  rcases Nat.lt_succ_iff_lt_or_eq.1 h with h | rfl
  ·exact hj_k0 j hl h
  exact fun _=>gv_eq hc25
 exact rV Tryz.results8 rfl ⟨_,rfl,fun _=>List.ext_getElem hab (fun i h1 h2=>hj_k0 i h1 (by omega) h2),fun _=>rfl⟩
end Go.Proofs.YtjdblmpkeilbaaaGreatDoor
namespace Go.Proofs.YtjdblmpkeilbaaaGreatDoor
set_option linter.unusedVariables false
set_option linter.unusedSimpArgs false
open Go.RowKit
end Go.Proofs.YtjdblmpkeilbaaaGreatDoor
namespace Go.Proofs.YtjdblmpkeilbaaaGreatDoor
set_option linter.unusedVariables false
set_option linter.unusedSimpArgs false
open Go.RowKit
def zV:GVal:=⟨0,0,⟨#[]⟩⟩
def iV (n:Int):GVal:=⟨1,n,⟨#[]⟩⟩
def arith (op a b:Int):Int:=if op=4 then a+b else if op=5 then a - b else if op=6 then a * b else if op=7 then a.fdiv b else a - b * a.fdiv b
def opS (op:Int):List GVal→GVal
 | []=>zV
 | a :: rest=>if a.kind_=0 then zV else if op=3 then iV (-a.int_) else if op=9 then iV ((a.text_.size:Nat):Int) else
  match rest with
  | []=>zV
  | b :: _=>if b.kind_=0 then zV else iV (arith op a.int_ b.int_)
mutual
/-- The value of an expression; R: the values of the columns. -/
def vS (R:Int→GVal):List AV→GVal
 | [.v (.int _ op),.v _,.v _,.v (.int _ ix),.v (.int _ k),.v (.int _ i),.v (.string s),.tree _ es]=>if op=1 then ⟨k,i,s⟩ else if op=2 then R ix else opS op (vsS R es)
 | _=>zV
def vsS (R:Int→GVal):List (List AV)→List GVal
 | []=>[]
 | r :: rs=>vS R r :: vsS R rs
end
theorem vS_ex (R:Int→GVal) (x:GEx):vS R (exA x)=if x.op_=1 then x.value_ else if x.op_=2 then R x.index_ else opS x.op_ (vsS R x.args_):=by
 simp only [exA,vS,map_rw]
def rowF (r:List GVal) (i:Int):GVal:=r.getD i.toNat zV
def rhoR (r:List GVal) (k v:Int):Int:=if k=0 then (if (rowF r v).kind_=1 then (rowF r v).int_ else 0) else if k=1 then (if (rowF r v).kind_=2 then ((rowF r v).text_.size:Nat) else 0) else 0
/-- A row of values of variables. -/
def RowL (l:List PVar) (r:List GVal):Prop:=r.length=l.length∧∀ j (hl:j < r.length) (h2:j < l.length),FitV r[j] l[j]
def LOk (l:List PVar):Prop:=∀ x∈l,x.t=1→-2147483648≤x.lo∧x.hi≤2147483647
theorem rowF_at {r:List GVal} {j:Nat} (h:j < r.length):rowF r ((j:Nat):Int)=r[j]:=by simp [rowF,List.getD,h]
theorem good_row {l:List PVar} {r:List GVal} (hr:RowL l r) (hl:LOk l):GoodR (rhoR r):=by
 intro v
 have key:(rowF r v).kind_=1→-2147483648≤(rowF r v).int_∧(rowF r v).int_≤2147483648:=fun h=>by
  by_cases hj:v.toNat < r.length
  ·have e:rowF r v=r[v.toNat]:=by simp [rowF,List.getD,hj]
   rw [e] at h ⊢
   rcases hr.2 v.toNat hj (by have:=hr.1; omega) with h1 | h1 | h1
   ·omega
   ·have:=hl _ (List.getElem_mem (by have:=hr.1; omega:v.toNat < l.length)) h1.2.1
    omega
   ·omega
  ·have e:rowF r v=zV:=by simp [rowF,List.getD,List.getElem?_eq_none (Nat.le_of_not_lt hj)]
   rw [e] at h; exact absurd h (by decide)
 have key2:(rowF r v).kind_=2→(rowF r v).text_.size≤16:=fun h=>by
  by_cases hj:v.toNat < r.length
  ·have e:rowF r v=r[v.toNat]:=by simp [rowF,List.getD,hj]
   rw [e] at h ⊢
   rcases hr.2 v.toNat hj (by have:=hr.1; omega) with h1 | h1 | h1 <;> omega
  ·have e:rowF r v=zV:=by simp [rowF,List.getD,List.getElem?_eq_none (Nat.le_of_not_lt hj)]
   rw [e] at h; exact absurd h (by decide)
 refine ⟨fun k=>?_,?_⟩
 ·unfold rhoR
  split
  ·split
   ·rename_i h; exact key h
   ·omega
  ·split
   ·split
    ·rename_i h; have:=key2 h; omega
    ·omega
   ·omega
 ·rw [← and_assoc]
  refine ⟨?_,rfl⟩
  unfold rhoR
  rw [if_neg (by decide),if_pos rfl]
  split
  ·rename_i h; have:=key2 h; omega
  ·omega
/-- NULL or the integer n. -/
def NV (v:GVal) (n:Int):Prop:=v.kind_=0∨(v.kind_=1∧v.int_=n)
theorem intE_open {l:List PVar} {x:GEx} (h:IntE l (exA x)):(x.op_=1∧x.args_=[]∧(x.value_.kind_=1∨x.value_.kind_=0))∨(x.op_=2∧x.args_=[]∧∃ j,∃ h:j < l.length,x.index_=((j:Nat):Int)∧l[j].t=1)∨(x.op_=9∧∃ a:GEx,x.args_=[exA a]∧a.args_=[]∧(TextE l (exA a)∨(a.op_=1∧a.value_.kind_=0)))∨(x.op_=3∧x.args_.length=1∧∀ r∈x.args_,IntE l r)∨((4≤x.op_∧x.op_≤8)∧x.args_.length=2∧∀ r∈x.args_,IntE l r):=by
 generalize e:exA x=r at h
 cases h with
 | lit y h ha hk _=>rw [exA_inj e]; exact .inl ⟨h,ha,hk⟩
 | col y h ha hj=>rw [exA_inj e]; exact .inr (.inl ⟨h,ha,hj⟩)
 | len y a h ha haa ht=>rw [exA_inj e]; exact .inr (.inr (.inl ⟨h,a,ha,haa,ht⟩))
 | neg y h ha hs=>rw [exA_inj e]; exact .inr (.inr (.inr (.inl ⟨h,ha,hs⟩)))
 | bin y h ha hs=>rw [exA_inj e]; exact .inr (.inr (.inr (.inr ⟨h,ha,hs⟩)))
theorem nv_neg {a:GVal} {n:Int} (h:NV a n):NV (opS 3 [a]) (-1 * n):=by
 rcases h with h | ⟨h,e⟩
 ·exact .inl (by simp [opS,h,zV])
 ·right; simp [opS,h,iV,e]
theorem nv_bin {op:Int} {a b:GVal} {m n:Int} (h1:4≤op∧op≤8) (ha:NV a m) (hb:NV b n):NV (opS op [a,b]) (arith op m n):=by
 rcases ha with h | ⟨h,e⟩
 ·exact .inl (by simp [opS,h,zV])
 ·rcases hb with g | ⟨g,f⟩
  ·left; simp only [opS,g]; rw [if_neg (by omega),if_neg (by omega),if_neg (by omega)]; rfl
  ·right; simp only [opS,g,h,e,f]; rw [if_neg (by omega),if_neg (by omega),if_neg (by omega),if_neg (by omega)]; exact ⟨rfl,rfl⟩
/-- The value of an expression is that of its term. -/
theorem sem {l:List PVar} {r:List GVal} (hr:RowL l r) (hl:LOk l) {e:List AV} {t:GTm} (h:OfR e t) (hi:IntE l e):NV (vS (rowF r) e) (tvL (rhoR r) (tmA t)):=by
 induction h with
 | len x t h h6=>
  obtain ⟨h9,a,ha,haa,h⟩:=h
  have e1:vS (rowF r) (exA x)=opS 9 [vS (rowF r) (exA a)]:=by
   rw [vS_ex,if_neg (by omega),if_neg (by omega),h9,ha]; simp only [vsS]
  rw [e1]
  rcases h with ⟨h1,h2,h3⟩ | ⟨h1,h2,h3⟩
  ·right
   rw [vS_ex,if_pos h1,h3,tvL_tm]
   simp [opS,h2,iV,sumP]
  ·rcases intE_open hi with g | g | ⟨_,a',g1,g2,g⟩ | g | g
   ·omega
   ·omega
   ·rw [ha] at g1
    have ea:a'=a:=(exA_inj (by simpa using g1)).symm
    subst ea
    rcases g with g | g
    ·obtain ⟨_,⟨_,j,hj,e2,e3⟩ | g⟩:=textE_open g
     ·have hjr:j < r.length:=by have:=hr.1; omega
      have hv:vS (rowF r) (exA a')=r[j]:=by rw [vS_ex,if_neg (by omega),if_pos h1,e2,rowF_at hjr]
      rw [hv,h3,tvL_tm]
      rcases hr.2 j hjr hj with f | f | f
      ·exact .inl (by simp [opS,f.1,zV])
      ·omega
      ·right
       simp [opS,f.1,iV,colT,sumP,valP,keyV,rhoR,e2,rowF_at hjr]
     ·omega
    ·omega
   ·omega
   ·omega
 | lit x h ha hk h6=>
  right
  rw [vS_ex,if_pos h,tvL_tm]
  exact ⟨hk,by simp [sumP]⟩
 | col x h ha hi' h6=>
  rcases intE_open hi with g | ⟨_,_,j,hj,e2,e3⟩ | g | g | g
  ·omega
  ·have hjr:j < r.length:=by have:=hr.1; omega
   rw [vS_ex,if_neg (by omega),if_pos h,e2,rowF_at hjr,tvL_tm]
   rcases hr.2 j hjr hj with f | f | f
   ·exact .inl f.1
   ·right
    refine ⟨f.1,?_⟩
    simp [colT,sumP,valP,keyV,rhoR,rowF_at hjr,f.1]
   ·omega
  ·omega
  ·omega
  ·omega
 | neg x r' s t h ha hr' ht h6 ih=>
  rcases intE_open hi with g | g | g | ⟨_,_,g⟩ | g
  ·omega
  ·omega
  ·omega
  ·have:=ih (g r' (by rw [ha]; simp))
   rw [vS_ex,if_neg (by omega),if_neg (by omega),h,ha,ht]
   simp only [vsS]
   exact nv_neg this
  ·omega
 | bin x r' q a b t h ha hr' hq ht iha ihb=>
  rcases intE_open hi with g | g | g | g | ⟨_,_,g⟩
  ·omega
  ·omega
  ·omega
  ·omega
  ·have g1:=iha (g r' (by rw [ha]; simp))
   have g2:=ihb (g q (by rw [ha]; simp))
   rw [vS_ex,if_neg (by omega),if_neg (by omega),ha]
   simp only [vsS]
   have e:=nv_bin h g1 g2
   have e2:arith x.op_ (tvL (rhoR r) (tmA a)) (tvL (rhoR r) (tmA b))=tvL (rhoR r) (tmA t):=by
    unfold arith
    split
    ·rename_i o; exact (ht.add o _).symm
    ·split
     ·rename_i o; exact (ht.sub o _).symm
     ·split
      ·rename_i o; exact (ht.mul o _).symm
      ·have hd:=ht.dv (by omega)
       have hb:tvL (rhoR r) (tmA b)=b.const_:=tv_const (by rw [hd.1]; simp) _
       rw [hb]
       split
       ·rename_i o; exact (ht.quo0 o _ rfl).symm
       ·exact (ht.md0 (by omega) _ rfl).symm
   rw [← e2]; exact e
end Go.Proofs.YtjdblmpkeilbaaaGreatDoor
namespace Go.Proofs.YtjdblmpkeilbaaaGreatDoor
set_option linter.unusedVariables false
set_option linter.unusedSimpArgs false
open Go.RowKit
def Rg (n:Int):Prop:=-1152921504606846976≤n∧n≤1152921504606846976
/-- An expression that can be evaluated on a row. -/
inductive EvR (r:List GVal):List AV→Prop
 | val (x:GEx) (h:x.op_=1):EvR r (exA x)
 | col (x:GEx) (h:x.op_=2) (j:Nat) (hj:j < r.length) (e:x.index_=((j:Nat):Int)):EvR r (exA x)
 | len (x:GEx) (a:List AV) (h:x.op_=9) (ha:x.args_=[a]) (he:EvR r a):EvR r (exA x)
 | neg (x:GEx) (a:List AV) (h:x.op_=3) (ha:x.args_=[a]) (he:EvR r a) (hv:(vS (rowF r) a).kind_≠0→Rg (vS (rowF r) a).int_):EvR r (exA x)
 | bin (x:GEx) (a b:List AV) (h:4≤x.op_∧x.op_≤8) (ha:x.args_=[a,b]) (he:EvR r a) (hf:EvR r b) (hv:(vS (rowF r) a).kind_≠0→(vS (rowF r) b).kind_≠0→Rg (vS (rowF r) a).int_∧Rg (vS (rowF r) b).int_∧Rg (arith x.op_ (vS (rowF r) a).int_ (vS (rowF r) b).int_)∧(7≤x.op_→1≤(vS (rowF r) b).int_∧(vS (rowF r) b).int_≤1000)):EvR r (exA x)
theorem ev_col {r:List GVal} {x:GEx} (h:EvR r (exA x)) (h2:x.op_=2):∃ j:Nat,x.index_=((j:Nat):Int)∧j < r.length:=by
 generalize e:exA x=q at h
 cases h with
 | val y h=>rw [← exA_inj e] at h; omega
 | col y h j hj e'=>rw [← exA_inj e] at e'; exact ⟨j,e',hj⟩
 | len y a h=>rw [← exA_inj e] at h; omega
 | neg y a h=>rw [← exA_inj e] at h; omega
 | bin y a b h=>rw [← exA_inj e] at h; omega
theorem ev_one {r:List GVal} {x:GEx} (h:EvR r (exA x)) (h1:¬ x.op_=1) (h2:¬ x.op_=2):∃ h0:0 < x.args_.length,EvR r (x.args_[0]'h0)∧(x.op_=3→(vS (rowF r) (x.args_[0]'h0)).kind_≠0→Rg (vS (rowF r) (x.args_[0]'h0)).int_)∧(x.op_=3∨x.op_=9→x.args_.length=1)∧(¬ x.op_=3→¬ x.op_=9→(4≤x.op_∧x.op_≤8)∧x.args_.length=2):=by
 generalize e:exA x=q at h
 cases h with
 | val y h=>rw [← exA_inj e] at h; omega
 | col y h j hj e'=>rw [← exA_inj e] at h; omega
 | len y a h ha he=>rw [← exA_inj e] at h ha; simp only [ha]; exact ⟨by simp,he,fun h'=>by omega,fun _=>rfl,fun _ h'=>absurd h h'⟩
 | neg y a h ha he hv=>rw [← exA_inj e] at h ha; simp only [ha]; exact ⟨by simp,he,fun _=>hv,fun _=>rfl,fun h'=>absurd h h'⟩
 | bin y a b h ha he hf hv=>rw [← exA_inj e] at h ha; simp only [ha]; exact ⟨by simp,he,fun h'=>by omega,fun h'=>by omega,fun _ _=>⟨h,rfl⟩⟩
theorem ev_two {r:List GVal} {x:GEx} (h:EvR r (exA x)) (h4:4≤x.op_∧x.op_≤8) (hl:x.args_.length=2):EvR r (x.args_[1]'(by omega))∧((vS (rowF r) (x.args_[0]'(by omega))).kind_≠0→(vS (rowF r) (x.args_[1]'(by omega))).kind_≠0→Rg (vS (rowF r) (x.args_[0]'(by omega))).int_∧Rg (vS (rowF r) (x.args_[1]'(by omega))).int_∧Rg (arith x.op_ (vS (rowF r) (x.args_[0]'(by omega))).int_ (vS (rowF r) (x.args_[1]'(by omega))).int_)∧(7≤x.op_→1≤(vS (rowF r) (x.args_[1]'(by omega))).int_∧(vS (rowF r) (x.args_[1]'(by omega))).int_≤1000)):=by
 generalize e:exA x=q at h
 cases h with
 | val y h=>rw [← exA_inj e] at h; omega
 | col y h j hj e'=>rw [← exA_inj e] at h; omega
 | len y a h ha he=>rw [← exA_inj e] at h; omega
 | neg y a h ha he hv=>rw [← exA_inj e] at h; omega
 | bin y a b h ha he hf hv=>rw [← exA_inj e] at h ha hv; simp only [ha]; exact ⟨hf,hv⟩
section
variable {R:Int→GVal} {x:GEx}
theorem v_lit (h:x.op_=1):x.value_=vS R (exA x):=by rw [vS_ex,if_pos h]
theorem v_col (h1:¬ x.op_=1) (h:x.op_=2):R x.index_=vS R (exA x):=by rw [vS_ex,if_neg h1,if_pos h]
theorem v_op (h1:¬ x.op_=1) (h2:¬ x.op_=2):vS R (exA x)=opS x.op_ (vsS R x.args_):=by rw [vS_ex,if_neg h1,if_neg h2]
theorem vs_cons {l:List (List AV)} (h:0 < l.length):∃ t,vsS R l=vS R l[0] :: t:=by
 cases l with
 | nil=>simp at h
 | cons a t=>exact ⟨vsS R t,by simp only [vsS]; rfl⟩
theorem vs_two {l:List (List AV)} (h:l.length=2):vsS R l=[vS R (l[0]'(by omega)),vS R (l[1]'(by omega))]:=by
 match l,h with
 | [a,b],_=>simp only [vsS]; rfl
theorem v_null (h1:¬ x.op_=1) (h2:¬ x.op_=2) (h:0 < x.args_.length) (hk:(vS R x.args_[0]).kind_=0):zV=vS R (exA x):=by
 obtain ⟨t,e⟩:=vs_cons (R:=R) h
 rw [v_op h1 h2,e]; simp [opS,hk]
theorem v_neg (h:x.op_=3) (h0:0 < x.args_.length) (hk:¬ (vS R x.args_[0]).kind_=0):iV (-(vS R x.args_[0]).int_)=vS R (exA x):=by
 obtain ⟨t,e⟩:=vs_cons (R:=R) h0
 rw [v_op (by omega) (by omega),e,h]; simp [opS,hk]
theorem v_len (h:x.op_=9) (h0:0 < x.args_.length) (hk:¬ (vS R x.args_[0]).kind_=0):iV (((vS R x.args_[0]).text_.size:Nat):Int)=vS R (exA x):=by
 obtain ⟨t,e⟩:=vs_cons (R:=R) h0
 rw [v_op (by omega) (by omega),e,h]; simp [opS,hk]
theorem v_bin0 (h:4≤x.op_∧x.op_≤8) (hl:x.args_.length=2) (hk:¬ (vS R (x.args_[0]'(by omega))).kind_=0) (hq:(vS R (x.args_[1]'(by omega))).kind_=0):zV=vS R (exA x):=by
 rw [v_op (by omega) (by omega),vs_two hl]; simp only [opS]; rw [if_neg hk,if_neg (by omega),if_neg (by omega),if_pos hq]
theorem v_bin {n:Int} (h:4≤x.op_∧x.op_≤8) (hl:x.args_.length=2) (hk:¬ (vS R (x.args_[0]'(by omega))).kind_=0) (hq:¬ (vS R (x.args_[1]'(by omega))).kind_=0) (hn:n=arith x.op_ (vS R (x.args_[0]'(by omega))).int_ (vS R (x.args_[1]'(by omega))).int_):iV n=vS R (exA x):=by
 rw [v_op (by omega) (by omega),vs_two hl,hn]; simp only [opS]; rw [if_neg hk,if_neg (by omega),if_neg (by omega),if_neg hq]
end
theorem ar6 {a b:Int}:arith 6 a b=a * b:=rfl
theorem ar7 {a b:Int}:arith 7 a b=a.fdiv b:=rfl
theorem ar8 {a b:Int}:arith 8 a b=a - b * a.fdiv b:=rfl
end Go.Proofs.YtjdblmpkeilbaaaGreatDoor
namespace Go.Proofs.YtjdblmpkeilbaaaGreatDoor
set_option linter.unusedVariables false
set_option linter.unusedSimpArgs false
open Go.RowKit
theorem sz30:sizeInfo Tryz.prog 30=some 3:=by kernel_rfl
set_option maxRecDepth 100000 in
set_option maxHeartbeats 4000000 in
theorem value14_w (x:GEx) (hx:FitEx x) (r:List GVal) (hr:FitL r (fun y=>FitVal y)) (hev:EvR r (exA x)) (ih:∀ e∈x.args_,EvR r e→PRet Tryz.prog 25 [.agg (rwA e),.tree 3 (r.map gvA)] (fun q=>q=.agg (gvA (vS (rowF r) e)))):PRet Tryz.prog 25 [.agg (exA x),.tree 3 (r.map gvA)] (fun q=>q=.agg (gvA (vS (rowF r) (exA x)))):=by
 refine PRet.of_vc infOk [18,23,35,47,78,97] [] Tryz.func25 rfl Tryz.ntmps25 rfl (by kernel_rfl) ?_
 refine cB (fun hc9=>?_) (fun hc9=>?_)
 ·have hq9:(x.op_:Int)=(1:Int):=by simpa using hc9
  refine ⟨.inr rfl,_,Outs.cell Tryz.results25 row30 rfl rfl rfl rfl rfl ⟨[],FzP.pure rfl⟩,?_⟩
  (show AV.agg (gvA x.value_)=_; rw [v_lit (R:=rowF r) (by assumption)]; done)
 have hq9:¬ ((x.op_:Int)=(1:Int)):=by simpa using hc9
 refine cB (fun hc14=>?_) (fun hc14=>?_)
 ·have hq14:(x.op_:Int)=(2:Int):=by simpa using hc14
  obtain ⟨j1,hje1,hjl1⟩:=ev_col hev hq14
  refine OpG.lk (LOp.indexI Tryz.underlying36 sz30 rfl rfl hje1 hjl1) ?_
  refine ⟨.inr rfl,_,Outs.cell Tryz.results25 row30 rfl rfl rfl rfl rfl ⟨[],FzP.pure rfl⟩,?_⟩
  (exact (congrArg (fun z=>AV.agg (gvA z)) (show r[j1]=vS (rowF r) (exA x) by rw [← rowF_at hjl1,← hje1]; exact v_col (R:=rowF r) hq9 hq14)))
 have hq14:¬ ((x.op_:Int)=(2:Int)):=by simpa using hc14
 obtain ⟨h0,hone⟩:=ev_one hev hq9 hq14
 refine IdxG.of (j:=0) (by assumption) (OpG.lk (LOp.ldTN row32 rfl (exTake (hx.args_.2 _ (List.getElem_mem _)))) ?_)
 refine ArgG.mk (ih x.args_[0] (List.getElem_mem _) hone.1) (show pureL [.agg (rwA x.args_[0]),.tree 3 (r.map gvA)]=true by simp [pureL,AV.pureB,exPure (hx.args_.2 _ (List.getElem_mem _))]) ?_
 rintro _ rfl
 refine cB (fun hc28=>?_) (fun hc28=>?_)
 ·have hq28:((vS (rowF r) x.args_[0]).kind_:Int)=(0:Int):=by simpa using hc28
  refine ⟨.inr rfl,_,Outs.cell Tryz.results25 row30 rfl rfl rfl rfl rfl ⟨[],FzP.pure rfl⟩,?_⟩
  (show AV.agg (gvA zV)=_; rw [v_null (R:=rowF r) (by assumption) (by assumption) h0 (by assumption)]; done)
 have hq28:¬ (((vS (rowF r) x.args_[0]).kind_:Int)=(0:Int)):=by simpa using hc28
 refine cB (fun hc32=>?_) (fun hc32=>?_)
 ·have hq32:(x.op_:Int)=(3:Int):=by simpa using hc32
  have hrg:=hone.2.1 hq32 hq28
  unfold Rg at hrg
  refine OpG.lk (LOp.negI rfl (by omega) (by omega)) ?_
  refine ArgG.mk (integer14_p ((-(vS (rowF r) x.args_[0]).int_))) rfl ?_
  rintro _ rfl
  refine ⟨.inr rfl,_,Outs.cell Tryz.results25 row30 rfl rfl rfl rfl rfl ⟨[],FzP.pure rfl⟩,?_⟩
  (show AV.agg (gvA (iV _))=_; rw [v_neg (R:=rowF r) (by assumption) h0 (by assumption)]; done)
 have hq32:¬ ((x.op_:Int)=(3:Int)):=by simpa using hc32
 refine cB (fun hc39=>?_) (fun hc39=>?_)
 ·have hq39:(x.op_:Int)=(9:Int):=by simpa using hc39
  refine ArgG.mk (integer14_p (((vS (rowF r) x.args_[0]).text_.size:Nat):Int)) rfl ?_
  rintro _ rfl
  refine ⟨.inr rfl,_,Outs.cell Tryz.results25 row30 rfl rfl rfl rfl rfl ⟨[],FzP.pure rfl⟩,?_⟩
  (show AV.agg (gvA (iV _))=_; rw [v_len (R:=rowF r) (by assumption) h0 (by assumption)]; done)
 have hq39:¬ ((x.op_:Int)=(9:Int)):=by simpa using hc39
 obtain ⟨hop,hl2⟩:=hone.2.2.2 hq32 hq39
 have htwo:=ev_two hev hop hl2
 refine IdxG.of (j:=1) (by omega) (OpG.lk (LOp.ldTN row32 rfl (exTake (hx.args_.2 _ (List.getElem_mem _)))) ?_)
 refine ArgG.mk (ih x.args_[1] (List.getElem_mem _) htwo.1) (show pureL [.agg (rwA x.args_[1]),.tree 3 (r.map gvA)]=true by simp [pureL,AV.pureB,exPure (hx.args_.2 _ (List.getElem_mem _))]) ?_
 rintro _ rfl
 refine cB (fun hc52=>?_) (fun hc52=>?_)
 ·have hq52:((vS (rowF r) x.args_[1]).kind_:Int)=(0:Int):=by simpa using hc52
  refine ⟨.inr rfl,_,Outs.cell Tryz.results25 row30 rfl rfl rfl rfl rfl ⟨[],FzP.pure rfl⟩,?_⟩
  (show AV.agg (gvA zV)=_; rw [v_bin0 (R:=rowF r) hop hl2 (by assumption) (by assumption)]; done)
 have hq52:¬ (((vS (rowF r) x.args_[1]).kind_:Int)=(0:Int)):=by simpa using hc52
 obtain ⟨hra,hrb,hrc,hrd⟩:=htwo.2 hq28 hq52
 unfold Rg at hra hrb
 refine cB (fun hc56=>?_) (fun hc56=>?_)
 ·have hq56:(x.op_:Int)=(4:Int):=by simpa using hc56
  refine ⟨by omega,?_⟩
  refine ArgG.mk (integer14_p ((((vS (rowF r) x.args_[0]).int_)+((vS (rowF r) x.args_[1]).int_)))) rfl ?_
  rintro _ rfl
  refine ⟨.inr rfl,_,Outs.cell Tryz.results25 row30 rfl rfl rfl rfl rfl ⟨[],FzP.pure rfl⟩,?_⟩
  (exact congrArg (fun z=>AV.agg (gvA z)) (v_bin (R:=rowF r) hop hl2 (by assumption) (by assumption) (by first | (rw [hq56]; rfl) | (rw [hq64]; rfl) | (rw [hq72]; rfl) | (rw [hq80,ar7]; assumption) | (rw [show x.op_=8 by omega,ar8]; simp_all))))
 have hq56:¬ ((x.op_:Int)=(4:Int)):=by simpa using hc56
 refine cB (fun hc64=>?_) (fun hc64=>?_)
 ·have hq64:(x.op_:Int)=(5:Int):=by simpa using hc64
  refine ⟨by omega,?_⟩
  refine ArgG.mk (integer14_p ((((vS (rowF r) x.args_[0]).int_) - ((vS (rowF r) x.args_[1]).int_)))) rfl ?_
  rintro _ rfl
  refine ⟨.inr rfl,_,Outs.cell Tryz.results25 row30 rfl rfl rfl rfl rfl ⟨[],FzP.pure rfl⟩,?_⟩
  (exact congrArg (fun z=>AV.agg (gvA z)) (v_bin (R:=rowF r) hop hl2 (by assumption) (by assumption) (by first | (rw [hq56]; rfl) | (rw [hq64]; rfl) | (rw [hq72]; rfl) | (rw [hq80,ar7]; assumption) | (rw [show x.op_=8 by omega,ar8]; simp_all))))
 have hq64:¬ ((x.op_:Int)=(5:Int)):=by simpa using hc64
 refine cB (fun hc72=>?_) (fun hc72=>?_)
 ·have hq72:(x.op_:Int)=(6:Int):=by simpa using hc72
  have h6:Rg ((vS (rowF r) x.args_[0]).int_ * (vS (rowF r) x.args_[1]).int_):=by have:=hrc; rw [hq72,ar6] at this; exact this
  unfold Rg at h6
  refine OpG.lk (LOp.mulI rfl rfl (by omega) (by omega)) ?_
  refine ArgG.mk (integer14_p ((((vS (rowF r) x.args_[0]).int_) * ((vS (rowF r) x.args_[1]).int_)))) rfl ?_
  rintro _ rfl
  refine ⟨.inr rfl,_,Outs.cell Tryz.results25 row30 rfl rfl rfl rfl rfl ⟨[],FzP.pure rfl⟩,?_⟩
  (exact congrArg (fun z=>AV.agg (gvA z)) (v_bin (R:=rowF r) hop hl2 (by assumption) (by assumption) (by first | (rw [hq56]; rfl) | (rw [hq64]; rfl) | (rw [hq72]; rfl) | (rw [hq80,ar7]; assumption) | (rw [show x.op_=8 by omega,ar8]; simp_all))))
 have hq72:¬ ((x.op_:Int)=(6:Int)):=by simpa using hc72
 refine cB (fun hc80=>?_) (fun hc80=>?_)
 ·have hq80:(x.op_:Int)=(7:Int):=by simpa using hc80
  have hd:=hrd (by omega)
  refine ArgG.mk (floor14_p (vS (rowF r) x.args_[0]).int_ (vS (rowF r) x.args_[1]).int_ (by omega) (by omega)) rfl ?_
  rintro _ ⟨f7,rfl,hf7⟩
  refine ArgG.mk (integer14_p f7) rfl ?_
  rintro _ rfl
  refine ⟨.inr rfl,_,Outs.cell Tryz.results25 row30 rfl rfl rfl rfl rfl ⟨[],FzP.pure rfl⟩,?_⟩
  (exact congrArg (fun z=>AV.agg (gvA z)) (v_bin (R:=rowF r) hop hl2 (by assumption) (by assumption) (by first | (rw [hq56]; rfl) | (rw [hq64]; rfl) | (rw [hq72]; rfl) | (rw [hq80,ar7]; assumption) | (rw [show x.op_=8 by omega,ar8]; simp_all))))
 have hq80:¬ ((x.op_:Int)=(7:Int)):=by simpa using hc80
 have hd:=hrd (by omega)
 refine ArgG.mk (floor14_p (vS (rowF r) x.args_[0]).int_ (vS (rowF r) x.args_[1]).int_ (by omega) (by omega)) rfl ?_
 rintro _ ⟨f9,rfl,hf9⟩
 have h8:Rg ((vS (rowF r) x.args_[0]).int_ - (vS (rowF r) x.args_[1]).int_ * f9):=by have:=hrc; rw [show x.op_=8 by omega,ar8] at this; rw [hf9]; exact this
 unfold Rg at h8
 refine OpG.lk (LOp.mulI rfl rfl (by omega) (by omega)) ?_
 refine ⟨by omega,?_⟩
 refine ArgG.mk (integer14_p ((((vS (rowF r) x.args_[0]).int_) - (((vS (rowF r) x.args_[1]).int_ * f9))))) rfl ?_
 rintro _ rfl
 refine ⟨by kernel_rfl,?_⟩
 refine ⟨.inr rfl,_,Outs.cell Tryz.results25 row30 rfl rfl rfl rfl rfl ⟨[],FzP.pure rfl⟩,?_⟩
 (exact congrArg (fun z=>AV.agg (gvA z)) (v_bin (R:=rowF r) hop hl2 (by assumption) (by assumption) (by first | (rw [hq56]; rfl) | (rw [hq64]; rfl) | (rw [hq72]; rfl) | (rw [hq80,ar7]; assumption) | (rw [show x.op_=8 by omega,ar8]; simp_all))))
theorem value14_p (r:List GVal) (hr:FitL r (fun y=>FitVal y)) (e:List AV) (he:IsEx e):EvR r e→PRet Tryz.prog 25 [.agg (rwA e),.tree 3 (r.map gvA)] (fun q=>q=.agg (gvA (vS (rowF r) e))):=IsEx.ind (M:=fun e=>EvR r e→PRet Tryz.prog 25 [.agg (rwA e),.tree 3 (r.map gvA)] (fun q=>q=.agg (gvA (vS (rowF r) e)))) (fun x hx ih hev=>value14_w x hx r hr hev ih) he
end Go.Proofs.YtjdblmpkeilbaaaGreatDoor
namespace Go.Proofs.YtjdblmpkeilbaaaGreatDoor
set_option linter.unusedVariables false
set_option linter.unusedSimpArgs false
open Go.RowKit
section
variable {l:List PVar} {r:List GVal}
theorem ev_text (hr:RowL l r) {x:GEx} (h:TextE l (exA x)):EvR r (exA x):=by
 obtain ⟨_,⟨h1,j,hj,e,_⟩ | ⟨h1,_⟩⟩:=textE_open h
 ·exact .col x h1 j (by have:=hr.1; omega) e
 ·exact .val x h1
theorem ev_len (hr:RowL l r) {x a:GEx} (h9:x.op_=9) (ha:x.args_=[exA a]) (h:TextE l (exA a)∨(a.op_=1∧a.value_.kind_=0)):EvR r (exA x):=by
 refine .len x _ h9 ha ?_
 rcases h with h | h
 ·exact ev_text hr h
 ·exact .val a h.1
theorem bin_val {op:Int} {a b t:GTm} (h:4≤op∧op≤8) (ht:BinOk op a b t) (ρ:Int→Int→Int) (hz:ρ 2 0=0):arith op (tvL ρ (tmA a)) (tvL ρ (tmA b))=tvL ρ (tmA t):=by
 unfold arith
 split
 ·rename_i o; exact (ht.add o _).symm
 ·split
  ·rename_i o; exact (ht.sub o _).symm
  ·split
   ·rename_i o; exact (ht.mul o _).symm
   ·have hd:=ht.dv (by omega)
    have hb:tvL ρ (tmA b)=b.const_:=tv_const (by rw [hd.1]; simp) _
    rw [hb]
    split
    ·rename_i o; exact (ht.quo0 o _ hz).symm
    ·exact (ht.md0 (by omega) _ hz).symm
theorem nv_int {v:GVal} {n:Int} (h:NV v n) (hk:v.kind_≠0):v.int_=n:=by
 rcases h with h | h
 ·exact absurd h hk
 ·exact h.2
theorem ev_tm (hr:RowL l r) (hl:LOk l) {e:List AV} {t:GTm} (h:OfR e t) (hi:IntE l e):EvR r e:=by
 have hg:=good_row hr hl
 induction h with
 | len x t h h6=>
  rcases intE_open hi with g | g | ⟨_,a,g1,_,g⟩ | g | g
  ·have:=h.1; omega
  ·have:=h.1; omega
  ·exact ev_len hr h.1 g1 g
  ·have:=h.1; omega
  ·have:=h.1; omega
 | lit x h ha hk h6=>exact .val x h
 | col x h ha hi' h6=>
  rcases intE_open hi with g | ⟨_,_,j,hj,e2,e3⟩ | g | g | g
  ·omega
  ·exact .col x h j (by have:=hr.1; omega) e2
  ·omega
  ·omega
  ·omega
 | neg x r' s t h ha hr' ht h6 ih=>
  rcases intE_open hi with g | g | g | ⟨_,_,g⟩ | g
  ·omega
  ·omega
  ·omega
  ·have gi:=g r' (by rw [ha]; simp)
   exact .neg x r' h ha (ih gi) (fun hk=>by rw [nv_int (sem hr hl hr' gi) hk]; exact hr'.b6 _ hg)
  ·omega
 | bin x r' q a b t h ha hr' hq ht iha ihb=>
  rcases intE_open hi with g | g | g | g | ⟨_,_,g⟩
  ·omega
  ·omega
  ·omega
  ·omega
  ·have g1:=g r' (by rw [ha]; simp)
   have g2:=g q (by rw [ha]; simp)
   refine .bin x r' q h ha (iha g1) (ihb g2) (fun hk hq'=>?_)
   rw [nv_int (sem hr hl hr' g1) hk,nv_int (sem hr hl hq g2) hq',bin_val h ht _ rfl]
   refine ⟨hr'.b6 _ hg,hq.b6 _ hg,ht.b6 _ hg,fun h7=>?_⟩
   have hd:=ht.dv (by omega)
   rw [tv_const (by rw [hd.1]; simp)]
   exact hd.2
theorem null_int {e:List AV} (h:IntE l e) (hn:HasN e):(vS (rowF r) e).kind_=0:=by
 induction h with
 | lit x h ha hk _=>
  rw [vS_ex,if_pos h]
  rcases hasN_open.1 hn with g | ⟨q,hq,_⟩
  ·exact g.2
  ·rw [ha] at hq; exact absurd hq (by simp)
 | col x h ha hj=>
  rcases hasN_open.1 hn with g | ⟨q,hq,_⟩
  ·omega
  ·rw [ha] at hq; exact absurd hq (by simp)
 | len x a h ha haa ht=>
  rcases hasN_open.1 hn with g | ⟨q,hq,hq2⟩
  ·omega
  ·rw [ha,List.mem_singleton] at hq
   subst hq
   rcases hasN_open.1 hq2 with g | ⟨q,hq,_⟩
   ·have e:vS (rowF r) (exA a)=a.value_:=by rw [vS_ex,if_pos g.1]
    rw [vS_ex,if_neg (by omega),if_neg (by omega),ha]
    simp [vsS,opS,e,g.2,zV]
   ·rw [haa] at hq; exact absurd hq (by simp)
 | neg x h ha hs ih=>
  rcases hasN_open.1 hn with g | ⟨q,hq,hq2⟩
  ·omega
  ·obtain ⟨j,hj,rfl⟩:=List.getElem_of_mem hq
   obtain rfl:j=0:=by omega
   have e:=ih _ hq hq2
   rw [← v_null (R:=rowF r) (by omega) (by omega) hj e]; rfl
 | bin x h ha hs ih=>
  rcases hasN_open.1 hn with g | ⟨q,hq,hq2⟩
  ·omega
  ·obtain ⟨j,hj,rfl⟩:=List.getElem_of_mem hq
   have e:=ih _ hq hq2
   by_cases h0:(vS (rowF r) (x.args_[0]'(by omega))).kind_=0
   ·rw [← v_null (R:=rowF r) (by omega) (by omega) (by omega) h0]; rfl
   ·obtain rfl | rfl:j=0∨j=1:=by omega
    ·exact absurd e h0
    ·rw [← v_bin0 (R:=rowF r) h ha h0 e]; rfl
theorem ev_of (hr:RowL l r) (hl:LOk l) {e:List AV} (hi:IntE l e):∀ d,FitE d e→EvR r e:=by
 induction hi with
 | lit x h ha hk _=>intro d _; exact .val x h
 | col x h ha hj=>intro d _; obtain ⟨j,hj,e,_⟩:=hj; exact .col x h j (by have:=hr.1; omega) e
 | len x a h ha haa ht=>intro d _; exact ev_len hr h ha ht
 | neg x h ha hs ih=>
  intro d hf
  generalize e:exA x=q at hf
  cases hf with
  | tm d q t hn ho=>subst e; exact ev_tm hr hl ho.1 (.neg x h ha hs)
  | nul d y hn h' hc=>
   have:=exA_inj e; subst this
   obtain ⟨c,hc1⟩:∃ c,x.args_=[c]:=List.length_eq_one_iff.1 ha
   have hm:c∈x.args_:=by rw [hc1]; simp
   refine .neg x c h hc1 (ih c hm d (hc (by omega) c hm)) (fun hk=>absurd (null_int (hs c hm) ?_) hk)
   rcases hasN_open.1 hn with g | ⟨q,hq,hq2⟩
   ·omega
   ·rw [hc1,List.mem_singleton] at hq; subst hq; exact hq2
 | bin x h ha hs ih=>
  intro d hf
  generalize e:exA x=q at hf
  cases hf with
  | tm d q t hn ho=>subst e; exact ev_tm hr hl ho.1 (.bin x h ha hs)
  | nul d y hn h' hc=>
   have:=exA_inj e; subst this
   obtain ⟨a,b,hc1⟩:∃ a b,x.args_=[a,b]:=⟨_,_,two_list ha⟩
   have hm:a∈x.args_:=by rw [hc1]; simp
   have hm2:b∈x.args_:=by rw [hc1]; simp
   refine .bin x a b h hc1 (ih a hm d (hc (by omega) a hm)) (ih b hm2 d (hc (by omega) b hm2)) (fun hk hk2=>?_)
   exfalso
   rcases hasN_open.1 hn with g | ⟨q,hq,hq2⟩
   ·omega
   ·rw [hc1] at hq
    rcases List.mem_cons.1 hq with rfl | hq
    ·exact hk (null_int (hs _ hm) hq2)
    ·rw [List.mem_singleton] at hq; subst hq; exact hk2 (null_int (hs _ hm2) hq2)
/-- A valid operand can be evaluated. -/
theorem ev_op (hr:RowL l r) (hl:LOk l) {e:List AV} {d:Nat} (h:OpE l d e) (he:IsEx e):EvR r e:=by
 rcases h with ⟨x,rfl,h1,_⟩ | h | ⟨h1,h2⟩
 ·exact .val x h1
 ·obtain ⟨x,rfl,_⟩:=he.open_
  exact ev_text hr h.1
 ·exact ev_of hr hl h1 d h2
end
end Go.Proofs.YtjdblmpkeilbaaaGreatDoor
