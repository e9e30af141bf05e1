/- Texts of the claim. -/
import Derived.Shelf.SlicesE.Clone
import Derived.Test.YthpangmpihkniaaGreatDoorF4
import Derived.Test.YthpangmpihkniaaGreatDoorQ2
import Derived.Test.YthpangmpihkniaaGreatDoorV1
namespace Go.Proofs
open Go.Shelf
def Tryz.cloV_ren:Go.Shelf.Ren:=⟨fun | 41=>72 | n=>n,fun | 22=>52 | 23=>87 | 4=>4 | n=>n,fun | n=>n⟩
theorem Tryz.cloV:Go.Proofs.SlLaysE0.n41 Tryz.prog Tryz.cloV_ren:={
 mixed:=by kernel_rfl
 f41:=⟨Tryz.f72.name,by decide,Tryz.func72.trans (congrArg some (by kernel_rfl))⟩
 t4:=Tryz.underlying4
 a4:=Tryz.isAgg4
 z4:=Tryz.sizeOf4
 v4:=Tryz.zeroValue4
 t22:=Tryz.underlying52
 a22:=Tryz.isAgg52
 z22:=Tryz.sizeOf52
 v22:=Tryz.zeroValue52 }
end Go.Proofs
namespace Go.Proofs.YthpangmpihkniaaGreatDoor
open Go.Shelf in
theorem cl_V:CloneL Tryz.prog 72 5:=⟨⟨Tryz.cloV_ren,Tryz.t87,_,_,rfl,Tryz.cloV,by kernel_rfl,rfl,rfl,rfl,rfl,Tryz.sizeOf87,by decide⟩,by decide⟩
end Go.Proofs.YthpangmpihkniaaGreatDoor
namespace Go.Proofs.YthpangmpihkniaaGreatDoor
set_option linter.unusedVariables false
set_option linter.unusedSimpArgs false
open Go.RowKit
theorem row_cnA:RowF cnA 3:=⟨fun _=>rfl,fun _=>rfl,fun _ _=>rfl,fun _ _=>rfl,fun _ _=>rfl,fun _=>rfl⟩
theorem row_teA:RowF teA 4:=⟨fun _=>rfl,fun _=>rfl,fun _ _=>rfl,fun _ _=>rfl,fun _ _=>rfl,fun _=>rfl⟩
/-- A row of values of some variables. -/
def Bel (l:List PVar) (w:List GVal):Prop:=w.length=l.length∧∀ j (h1:j < w.length) (h2:j < l.length),fitB w[j] l[j]=true
theorem bel_row {t:GTab} {w:List GVal}:Bel (varsOf t) w↔RowFit t w:=by
 constructor
 ·rintro ⟨h1,h2⟩
  refine ⟨by rw [h1]; simp [varsOf],fun j hl h3=>?_⟩
  have e:(varsOf t)[j]'(by simpa [varsOf] using h3)=varC t.columns_[j]:=by simp [varsOf]
  rw [← e]; exact h2 j hl _
 rintro ⟨h1,h2⟩
 refine ⟨by rw [h1]; simp [varsOf],fun j hl h3=>?_⟩
 have e:(varsOf t)[j]=varC (t.columns_[j]'(by simpa [varsOf] using h3)):=by simp [varsOf]
 rw [e]; exact h2 j hl _
theorem bel_int {l:List PVar} {w:List GVal} {k:Nat} (h:Bel l w) (hl:LOk l) (hk:k < w.length) (h1:w[k].kind_=1):-2147483648≤w[k].int_∧w[k].int_≤2147483647:=by
 have h2:k < l.length:=by have:=h.1; omega
 rcases fitV_of (h.2 k hk h2) with g | g | g
 ·omega
 ·have:=hl _ (List.getElem_mem h2) g.2.1; omega
 omega
def nOf (v:GVal) (k:Int):List Int:=if v.kind_=0 then [k] else []
def mOf (v:GVal) (k:Int):List Int:=if v.kind_=0 then [] else [k]
def iOf (v:GVal) (k:Int):List PCon:=if v.kind_=0 then [] else if v.kind_=1 then [⟨⟨-v.int_,[⟨k,1⟩]⟩,true⟩] else []
def tOf (v:GVal) (k:Int):List PTest:=if v.kind_=0 then [] else if v.kind_=1 then [] else [⟨k,0,false,v.text_⟩]
/-- The parts of the clause of a row, of its first k values. -/
def exL {β:Type} (f:GVal→Int→List β) (w:List GVal):Nat→List β
 | 0=>[]
 | k+1=>exL f w k++f (w.getD k zV) ((k:Nat):Int)
/-- The clause of a row. -/
def exC (w:List GVal):PCl:=⟨exL nOf w w.length,exL mOf w w.length,[],exL iOf w w.length,exL tOf w w.length,[],[]⟩
noncomputable def exactS (tb:Int) (l:List PVar) (w:List GVal):PPred:=⟨tb,((l.length:Nat):Int),l,open Classical in if Bel l w then [exC w] else []⟩
theorem exact_no {tb:Int} {l:List PVar} {w:List GVal} (h:¬ Bel l w):exactS tb l w=⟨tb,((l.length:Nat):Int),l,[]⟩:=by unfold exactS; rw [if_neg h]
theorem exact_yes {tb:Int} {l:List PVar} {w:List GVal} (h:Bel l w):exactS tb l w=⟨tb,((l.length:Nat):Int),l,[exC w]⟩:=by unfold exactS; rw [if_pos h]
structure KX where
 k:Nat
 N:List Int
 M:List Int
 I:List PCon
 T:List PTest
structure XI (w:List GVal) (s:KX):Prop where
 n:s.N=exL nOf w s.k
 m:s.M=exL mOf w s.k
 i:s.I=exL iOf w s.k
 t:s.T=exL tOf w s.k
 b:s.N.length≤s.k∧s.M.length≤s.k∧s.I.length≤s.k∧s.T.length≤s.k
theorem xi_step {w:List GVal} {s:KX} (h:XI w s) (hk:s.k < w.length) {N M:List Int} {I:List PCon} {T:List PTest} (hN:N=s.N++nOf w[s.k] s.k) (hM:M=s.M++mOf w[s.k] s.k) (hI:I=s.I++iOf w[s.k] s.k) (hT:T=s.T++tOf w[s.k] s.k):XI w ⟨s.k+1,N,M,I,T⟩:=by
 have e:w.getD s.k zV=w[s.k]:=by simp [List.getD,hk]
 obtain ⟨b1,b2,b3,b4⟩:=h.b
 refine ⟨by show N=exL nOf w (s.k+1); rw [exL,e,← h.n,hN],by show M=exL mOf w (s.k+1); rw [exL,e,← h.m,hM],by show I=exL iOf w (s.k+1); rw [exL,e,← h.i,hI],by show T=exL tOf w (s.k+1); rw [exL,e,← h.t,hT],?_⟩
 have c1:(nOf w[s.k] s.k).length≤1:=by unfold nOf; split <;> simp
 have c2:(mOf w[s.k] s.k).length≤1:=by unfold mOf; split <;> simp
 have c3:(iOf w[s.k] s.k).length≤1:=by unfold iOf; split; simp; split <;> simp
 have c4:(tOf w[s.k] s.k).length≤1:=by unfold tOf; split; simp; split <;> simp
 show N.length≤s.k+1∧M.length≤s.k+1∧I.length≤s.k+1∧T.length≤s.k+1
 rw [hN,hM,hI,hT]
 simp only [List.length_append]
 omega
theorem by134:(Tryz.prog.info? 134).map (·.bytes)=some 40:=by kernel_rfl
theorem by160:(Tryz.prog.info? 160).map (·.bytes)=some 40:=by kernel_rfl
theorem row63:rowOf Tryz.prog 63=some (some 4):=by kernel_rfl
theorem sz134:sizeInfo Tryz.prog 134=some 4:=by kernel_rfl
theorem sz160:sizeInfo Tryz.prog 160=some 3:=by kernel_rfl
theorem sz169:sizeInfo Tryz.prog 169=some 2:=by kernel_rfl
theorem zr134:zeroOf Tryz.prog 134=some (.agg #[.int .i64 0,.int .i64 0,.bool false,.string ⟨#[]⟩]):=by kernel_rfl
theorem zr160:zeroOf Tryz.prog 160=some (.agg #[.int .i64 0,.slice none 0 0,.bool false]):=by kernel_rfl
theorem zr169:zeroOf Tryz.prog 169=some (.agg #[.int .i64 0,.int .i64 0]):=by kernel_rfl
set_option maxRecDepth 100000 in
set_option maxHeartbeats 4000000 in
theorem printableV_p (s:ByteArray) (hs:FitS s):PRet Tryz.prog 156 [.v (.string s)] (fun r=>r=.v (.bool (prnB s&&decide ((s.size:Int)≤16)))):=by
 refine PRet.of_vc infOk [] [] Tryz.func156 rfl Tryz.ntmps156 rfl (by kernel_rfl) (LpG.on (fun k0:Nat=>(⟨fL [(0,.v (.string s)),(5,.v (.int .i64 ((s.size:Nat):Int))),(6,.v (.int .i64 ((k0:Nat):Int)))],hLz [],0⟩:St)) (fun k0=>(s.size - k0)) (fun k0=>(k0≤s.size∧∀ j (hl:j < s.size),j < k0→prnP s j=true)) 0 (cO (.cons rfl rfl (.cons rfl rfl (.cons rfl rfl .nil))) .nil) ⟨Nat.zero_le _,fun j _ h=>absurd h (Nat.not_lt_zero j)⟩ ?_)
 rintro k0 hinv
 have hgr_k0:s.size≤140737488355328:=Nat.le_trans hs (by decide)
 obtain ⟨hle_k0,hj_k0⟩:=hinv
 refine cL (fun hlt7=>?_) (fun hge7=>?_)
 ·refine ⟨(by assumption),cB (fun hg13=>?_) (fun hg13=>?_)⟩
  ·refine cT (rV Tryz.results156 rfl ?_)
   (refine vb_eq (Eq.symm ?_); rw [show prnB s=false from allN_hit hlt7 (by simp only [prnP]; simp_all)]; rfl)
  refine ⟨(by assumption),cB (fun hc18=>?_) (fun hc18=>?_)⟩
  ·refine rV Tryz.results156 rfl ?_
   (refine vb_eq (Eq.symm ?_); rw [show prnB s=false from allN_hit hlt7 (by simp only [prnP]; simp_all)]; rfl)
  refine ⟨by omega,⟨(k0+1),by omega,(cO (.cons rfl rfl (.cons rfl rfl (.cons rfl rfl .nil))) .nil),?_⟩⟩
  refine ⟨by omega,fun j hl h=>?_⟩
  rcases Nat.lt_succ_iff_lt_or_eq.1 h with h | rfl
  ·exact hj_k0 j hl h
  simp only [prnP]; simp_all
 refine rV Tryz.results156 rfl ?_
 (refine vb_eq ?_; rw [show prnB s=true from allN_end hle_k0 hge7 (fun j h=>hj_k0 j (by omega) h)]; simp; done)
set_option maxRecDepth 100000 in
set_option maxHeartbeats 4000000 in
theorem validV_p (v:GVal) (hv:FitVal v):PRet Tryz.prog 118 [.agg (gvA v)] (fun r=>r=.v (.bool (valB v))):=by
 refine PRet.of_vc infOk [] [] Tryz.func118 rfl Tryz.ntmps118 rfl (by kernel_rfl) ?_
 refine cB (fun hc5=>?_) (fun hc5=>?_)
 ·have hq5:(v.kind_:Int)=(0:Int):=by simpa using hc5
  refine OpG.lk (LOp.eqVal rfl rfl) ?_
  refine rV Tryz.results118 rfl ?_
  refine vb_eq ?_
  unfold valB emptyB
  (simp_all; done)
 have hq5:¬ ((v.kind_:Int)=(0:Int)):=by simpa using hc5
 refine cB (fun hc10=>?_) (fun hc10=>?_)
 ·have hq10:(v.kind_:Int)=(1:Int):=by simpa using hc10
  refine rV Tryz.results118 rfl ?_
  refine vb_eq ?_
  unfold valB emptyB
  (simp_all; done)
 have hq10:¬ ((v.kind_:Int)=(1:Int)):=by simpa using hc10
 refine cB (fun hc15=>?_) (fun hc15=>?_)
 ·have hq15:(v.kind_:Int)=(2:Int):=by simpa using hc15
  refine cB (fun hg20=>?_) (fun hg20=>?_)
  ·have hq20:(v.int_:Int)=(0:Int):=by simpa using hg20
   refine ArgG.mk (printableV_p v.text_ hv.text_) rfl ?_
   rintro _ rfl
   refine rV Tryz.results118 rfl ?_
   refine vb_eq ?_
   unfold valB emptyB
   (simp_all; done)
  have hq20:¬ ((v.int_:Int)=(0:Int)):=by simpa using hg20
  refine rV Tryz.results118 rfl ?_
  refine vb_eq ?_
  unfold valB emptyB
  (simp_all; done)
 have hq15:¬ ((v.kind_:Int)=(2:Int)):=by simpa using hc15
 refine rV Tryz.results118 rfl ?_
 refine vb_eq ?_
 unfold valB emptyB
 (simp_all; done)
set_option maxRecDepth 100000 in
set_option maxHeartbeats 4000000 in
theorem fitsV_p (v:GVal) (hv:FitVal v) (x:PVar):PRet Tryz.prog 66 [.agg (gvA v),.agg (vA x)] (fun r=>r=.v (.bool (fitB v x))):=by
 refine PRet.of_vc infOk [] [] Tryz.func66 rfl Tryz.ntmps66 rfl (by kernel_rfl) ?_
 refine ArgG.mk (validV_p v hv) rfl ?_
 rintro _ rfl
 refine cB (fun hc7=>?_) (fun hc7=>?_)
 ·refine rV Tryz.results66 rfl ?_
  refine vb_eq ?_
  unfold fitB
  (simp_all; done)
 refine cB (fun hc10=>?_) (fun hc10=>?_)
 ·have hq10:(v.kind_:Int)=(0:Int):=by simpa using hc10
  refine rV Tryz.results66 rfl ?_
  refine vb_eq ?_
  unfold fitB
  (simp_all; done)
 have hq10:¬ ((v.kind_:Int)=(0:Int)):=by simpa using hc10
 refine cB (fun hc14=>?_) (fun hc14=>?_)
 ·have hq14:(v.kind_:Int)=(1:Int):=by simpa using hc14
  refine cB (fun hg19=>?_) (fun hg19=>?_)
  ·have hq19:(x.t:Int)=(1:Int):=by simpa using hg19
   refine cB (fun hg26=>?_) (fun hg26=>?_)
   ·have hq26:(v.int_:Int)≥(x.lo:Int):=of_decide_eq_true hg26
    refine rV Tryz.results66 rfl ?_
    refine vb_eq ?_
    unfold fitB
    (simp_all; done)
   have hq26:¬ ((v.int_:Int)≥(x.lo:Int)):=of_decide_eq_false hg26
   refine rV Tryz.results66 rfl ?_
   refine vb_eq ?_
   unfold fitB
   (simp_all; omega)
  have hq19:¬ ((x.t:Int)=(1:Int)):=by simpa using hg19
  refine cF (rV Tryz.results66 rfl ?_)
  refine vb_eq ?_
  unfold fitB
  (simp_all; done)
 have hq14:¬ ((v.kind_:Int)=(1:Int)):=by simpa using hc14
 refine cB (fun hg36=>?_) (fun hg36=>?_)
 ·have hq36:(x.t:Int)=(2:Int):=by simpa using hg36
  refine rV Tryz.results66 rfl ?_
  refine vb_eq ?_
  unfold fitB
  (simp_all; done)
 have hq36:¬ ((x.t:Int)=(2:Int)):=by simpa using hg36
 refine rV Tryz.results66 rfl ?_
 refine vb_eq ?_
 unfold fitB
 (simp_all; done)
set_option maxRecDepth 100000 in
set_option maxHeartbeats 4000000 in
theorem belongs_p (w:List GVal) (hw:FitL w (fun y=>FitVal y)) (l:List PVar) (hl:FitL l (fun y=>True)):PRet Tryz.prog 29 [.tree 3 (w.map gvA),.tree 5 (l.map vA)] (fun r=>∃ b:Bool,r=.v (.bool b)∧(b=true↔Bel l w)):=by
 refine PRet.of_vc infOk [] [] Tryz.func29 rfl Tryz.ntmps29 rfl (by kernel_rfl) (LenG.of ?_)
 refine LenG.of (cB (fun hc11=>?_) (fun hc11=>?_))
 ·have hq11:¬ (((w.length:Nat):Int)=((l.length:Nat):Int)):=by simpa using hc11
  have hlen:¬ w.length=l.length:=by have h:=hc11; simp at h; omega
  exact rV Tryz.results29 rfl ⟨_,rfl,fun h=>absurd h Bool.false_ne_true,fun h=>absurd h.1 hlen⟩
 have hq11:((w.length:Nat):Int)=((l.length:Nat):Int):=by simpa using hc11
 have hlen:w.length=l.length:=by have h:=hc11; simp at h; omega
 refine LenG.of (LpG.on (fun k0:Nat=>(⟨fL [(1,.tree 5 (l.map vA)),(12,.tree 3 (w.map gvA)),(13,.v (.int .i64 ((w.length:Nat):Int))),(14,.v (.int .i64 ((k0:Nat):Int)))],hLz [],0⟩:St)) (fun k0=>(w.length - k0)) (fun k0=>(k0≤w.length∧∀ j (hl:j < w.length),j < k0→∀ h2:j < l.length,fitB w[j] l[j]=true)) 0 (cO (.cons rfl rfl (.cons rfl rfl (.cons rfl rfl (.cons rfl rfl .nil)))) .nil) ⟨Nat.zero_le _,fun j _ h=>absurd h (Nat.not_lt_zero j)⟩ ?_)
 rintro k0 hinv
 have hgr_k0:w.length≤140737488355328:=hw.1
 obtain ⟨hle_k0,hj_k0⟩:=hinv
 refine cL (fun hlt15=>?_) (fun hge15=>?_)
 ·refine IdxG.of (by assumption) (IdxG.of (by omega) ?_)
  refine ArgG.mk (fitsV_p (w[k0]) (hw.2 _ (List.getElem_mem _)) (l[k0])) rfl ?_
  rintro _ rfl
  refine ⟨by kernel_rfl,cB (fun hc25=>?_) (fun hc25=>?_)⟩
  ·exact rV Tryz.results29 rfl ⟨_,rfl,fun h=>absurd h Bool.false_ne_true,fun h=>by have h1:=h.2 k0 (by omega) (by omega); simp [h1] at hc25⟩
  refine ⟨by omega,⟨(k0+1),by omega,(cO (.cons rfl rfl (.cons rfl rfl (.cons rfl rfl (.cons rfl rfl .nil)))) .nil),?_⟩⟩
  refine ⟨by omega,fun j hl h=>?_⟩
  rcases Nat.lt_succ_iff_lt_or_eq.1 h with h | rfl
  ·exact hj_k0 j hl h
  intro h2; exact nb hc25
 exact rV Tryz.results29 rfl ⟨_,rfl,fun _=>⟨hlen,fun j h1 h2=>hj_k0 j h1 (by omega) h2⟩,fun _=>rfl⟩
set_option maxRecDepth 100000 in
set_option maxHeartbeats 4000000 in
theorem exactly_p (tb:Int) (l:List PVar) (hl:FitL l (fun y=>True)) (w:List GVal) (hw:FitL w (fun y=>FitVal y)) (hlk:LOk l) (hl1:l.length≤1000):PRet Tryz.prog 34 [.v (.int .i64 tb),.tree 5 (l.map vA),.tree 3 (w.map gvA)] (fun r=>r=.agg (prA (exactS tb l w))):=by
 refine PRet.of_vc infOk [51,54] [15] Tryz.func34 rfl Tryz.ntmps34 rfl (by kernel_rfl) (LenG.of ?_)
 refine ArgG.mk (PRet.of_call (CloneL.tree cl_V (fun _=>rfl) l (by omega))) rfl ?_
 rintro _ rfl
 refine ArgG.mk (belongs_p w hw l hl) rfl ?_
 rintro _ ⟨b1,rfl,hb1⟩
 refine cB (fun hc20=>?_) (fun hc20=>?_)
 ·have hnb:¬ Bel l w:=fun h=>by rw [hb1.2 h] at hc20; simp at hc20
  refine ⟨.inr rfl,_,Outs.cell Tryz.results34 row63 rfl rfl rfl rfl rfl ⟨[],FzP.aggL (.cons (.pure rfl) (.cons (.pure rfl) (.cons (.pure rfl) (.cons (FzP.nil (n:=7)) .nil))))⟩,?_⟩
  rw [exact_no hnb]; rfl
 have hbel:=hb1.1 (nb hc20)
 have hwl:=hbel.1
 refine LenG.of (LpG.via (fun _ h=>AWP.lazyC 2 0 1 rfl rfl rfl rfl rfl 4 rfl h) ?_)
 refine LpG.via (fun _ h=>AWP.lazyC 2 1 1 rfl rfl rfl rfl rfl 5 rfl h) (LpG.via (fun _ h=>AWP.lazyC 2 3 3 rfl rfl rfl rfl rfl 6 rfl h) ?_)
 refine LpG.via (fun _ h=>AWP.lazyC 2 4 4 rfl rfl rfl rfl rfl 7 rfl h) (LpG.on (fun k0:KX=>(⟨fL [(6,.ptr 0 0 0),(7,.ptr 1 0 0),(8,.ptr 2 0 0),(22,.tree 3 (w.map gvA)),(23,.v (.int .i64 ((w.length:Nat):Int))),(24,.v (.int .i64 ((k0.k:Nat):Int)))],hLz [(0,⟨0,[.v (.int .i64 0),.v (.int .i64 0),.v (.slice none 0 0),.v (.slice none 0 0)],0,false⟩),(1,⟨0,[.v (.int .i64 tb),.v (.int .i64 ((l.length:Nat):Int)),.tree 5 (l.map vA),.v (.slice none 0 0)],0,false⟩),(2,⟨0,[.sl 3 k0.N.length 0 k0.N.length,.sl 4 k0.M.length 0 k0.M.length,.v (.slice none 0 0),.sl 5 k0.I.length 0 k0.I.length,.sl 6 k0.T.length 0 k0.T.length,.v (.slice none 0 0),.v (.slice none 0 0)],0,false⟩),(3,⟨k0.N.length,rF iA k0.N,1,Nat.beq k0.N.length 0⟩),(4,⟨k0.M.length,rF iA k0.M,1,Nat.beq k0.M.length 0⟩),(5,⟨k0.I.length,rF cnA k0.I,3,Nat.beq k0.I.length 0⟩),(6,⟨k0.T.length,rF teA k0.T,4,Nat.beq k0.T.length 0⟩)],7⟩:St)) (fun k0=>(w.length - k0.k)) (fun k0=>(k0.k≤w.length∧XI w k0)) (⟨0,[],[],[],[]⟩:KX) (cO (.cons rfl rfl (.cons rfl rfl (.cons rfl rfl (.cons rfl rfl (.cons rfl rfl (.cons rfl rfl .nil)))))) (.cons rfl rfl rfl (.cons rfl rfl rfl (.cons (by rfl) rfl rfl (.cons (by rfl) rfl (rF_low row_i _ _) (.cons (by rfl) rfl (rF_low row_i _ _) (.cons (by rfl) rfl (rF_low row_cnA _ _) (.cons (by rfl) rfl (rF_low row_teA _ _) .nil)))))))) ⟨Nat.zero_le _,⟨rfl,rfl,rfl,rfl,by simp⟩⟩ ?_)
 rintro k0 hinv
 have hgr_k0:w.length≤140737488355328:=hw.1
 obtain ⟨hle_k0,hi_k0⟩:=hinv
 refine cL (fun hlt25=>?_) (fun hge25=>?_)
 ·have hx:=hi_k0.b
  obtain ⟨hx1,hx2,hx3,hx4⟩:=hx
  refine IdxG.of (by assumption) (cE (fun hq31=>?_) (fun hq31=>?_))
  ·refine OpG.mk _ _ _ 9 (LOp.appRow row_i (a:=((k0.k:Nat):Int)) Tryz.underlying51 sz3 zr3 by3 rfl rfl rfl (Src.slB rfl rfl rfl rfl) rfl (by omega) (by omega) (by unfold TV; omega)) rfl rfl ⟨by omega,⟨(⟨k0.k+1,k0.N++[((k0.k:Nat):Int)],k0.M,k0.I,k0.T⟩:KX),(by show w.length - (k0.k+1) < w.length - k0.k; omega),(cO (.cons rfl rfl (.cons rfl rfl (.cons rfl rfl (.cons rfl rfl (.cons rfl rfl (.cons rfl rfl .nil)))))) (.cons rfl rfl rfl (.cons rfl rfl rfl (.cons (by (rw [List.length_append]; rfl)) rfl rfl (.cons (by (rw [List.length_append]; rfl)) rfl (rF_low row_i _ _) (.cons (by rfl) rfl (rF_low row_i _ _) (.cons (by rfl) rfl (rF_low row_cnA _ _) (.cons (by rfl) rfl (rF_low row_teA _ _) .nil)))))))),?_⟩⟩
   exact ⟨by show k0.k+1≤_; omega,xi_step hi_k0 hlt25 (by simp [nOf,mOf,iOf,tOf, *]) (by simp [nOf,mOf,iOf,tOf, *]) (by simp [nOf,mOf,iOf,tOf, *]) (by simp [nOf,mOf,iOf,tOf, *])⟩
  refine OpG.mk _ _ _ 9 (LOp.appRow row_i (a:=((k0.k:Nat):Int)) Tryz.underlying51 sz3 zr3 by3 rfl rfl rfl (Src.slB rfl rfl rfl rfl) rfl (by omega) (by omega) (by unfold TV; omega)) rfl rfl (cE (fun hq46=>?_) (fun hq46=>?_))
  ·have hir:=bel_int hbel hlk hlt25 (by assumption)
   refine OpG.lk (LOp.negI rfl (by omega) (by omega)) (OpG.nw (LOp.fzN (LOp.bs Tryz.underlying156 sz169 zr169 rfl rfl rfl rfl) (fun η' h=>FzP.slMap (f:=cfA) (l:=[(⟨((k0.k:Nat):Int),1⟩:PCoef)]) (List.mem_singleton.2 rfl) h rfl rfl rfl rfl rfl (fun a _=>⟨rfl,rfl⟩))) rfl ?_)
   refine OpG.mk _ _ _ 11 (LOp.appRow row_cnA (a:=(⟨⟨-w[k0.k].int_,[(⟨((k0.k:Nat):Int),1⟩:PCoef)]⟩,true⟩:PCon)) Tryz.underlying96 sz160 zr160 by160 rfl rfl rfl (Src.slB rfl rfl rfl rfl) rfl (by omega) (by omega) (by unfold TV; omega)) rfl rfl ⟨by omega,⟨(⟨k0.k+1,k0.N,k0.M++[((k0.k:Nat):Int)],k0.I++[(⟨⟨-w[k0.k].int_,[(⟨((k0.k:Nat):Int),1⟩:PCoef)]⟩,true⟩:PCon)],k0.T⟩:KX),(by show w.length - (k0.k+1) < w.length - k0.k; omega),(cO (.cons rfl rfl (.cons rfl rfl (.cons rfl rfl (.cons rfl rfl (.cons rfl rfl (.cons rfl rfl .nil)))))) (.cons rfl rfl rfl (.cons rfl rfl rfl (.cons (by (rw [List.length_append,List.length_append]; rfl)) rfl rfl (.cons (by rfl) rfl (rF_low row_i _ _) (.cons (by (rw [List.length_append]; rfl)) rfl (rF_low row_i _ _) (.cons (by (rw [List.length_append,List.length_append]; rfl)) rfl (rF_low row_cnA _ _) (.cons (by rfl) rfl (rF_low row_teA _ _) .nil)))))))),?_⟩⟩
   exact ⟨by show k0.k+1≤_; omega,xi_step hi_k0 hlt25 (by simp [nOf,mOf,iOf,tOf, *]) (by simp [nOf,mOf,iOf,tOf, *]) (by simp [nOf,mOf,iOf,tOf, *]) (by simp [nOf,mOf,iOf,tOf, *])⟩
  refine OpG.mk _ _ _ 10 (LOp.appRow row_teA (a:=(⟨((k0.k:Nat):Int),0,false,w[k0.k].text_⟩:PTest)) Tryz.underlying97 sz134 zr134 by134 rfl rfl rfl (Src.slB rfl rfl rfl rfl) rfl (by omega) (by omega) (by unfold TV; omega)) rfl rfl ⟨by omega,⟨(⟨k0.k+1,k0.N,k0.M++[((k0.k:Nat):Int)],k0.I,k0.T++[(⟨((k0.k:Nat):Int),0,false,w[k0.k].text_⟩:PTest)]⟩:KX),(by show w.length - (k0.k+1) < w.length - k0.k; omega),(cO (.cons rfl rfl (.cons rfl rfl (.cons rfl rfl (.cons rfl rfl (.cons rfl rfl (.cons rfl rfl .nil)))))) (.cons rfl rfl rfl (.cons rfl rfl rfl (.cons (by (rw [List.length_append,List.length_append]; rfl)) rfl rfl (.cons (by rfl) rfl (rF_low row_i _ _) (.cons (by (rw [List.length_append]; rfl)) rfl (rF_low row_i _ _) (.cons (by rfl) rfl (rF_low row_cnA _ _) (.cons (by (rw [List.length_append,List.length_append]; rfl)) rfl (rF_low row_teA _ _) .nil)))))))),?_⟩⟩
  exact ⟨by show k0.k+1≤_; omega,xi_step hi_k0 hlt25 (by simp [nOf,mOf,iOf,tOf, *]) (by simp [nOf,mOf,iOf,tOf, *]) (by simp [nOf,mOf,iOf,tOf, *]) (by simp [nOf,mOf,iOf,tOf, *])⟩
 refine RegG.via (fun _ h=>AWP.freezeB [3,4,5,6] 2 0 0 [.sl 3 k0.N.length 0 k0.N.length,.sl 4 k0.M.length 0 k0.M.length,.v (.slice none 0 0),.sl 5 k0.I.length 0 k0.I.length,.sl 6 k0.T.length 0 k0.T.length,.v (.slice none 0 0),.v (.slice none 0 0)] [.tree 1 (k0.N.map iA),.tree 1 (k0.M.map iA),.tree 4 [],.tree 3 (k0.I.map cnA),.tree 4 (k0.T.map teA),.tree 2 [],.tree 2 []] rfl rfl (.fz (FzP.rows row_i (by simp) rfl) (.fz (FzP.rows row_i (by simp) rfl) (.fz FzP.nil (.fz (FzP.rows row_cnA (by simp) rfl) (.fz (FzP.rows row_teA (by simp) rfl) (.fz FzP.nil (.fz FzP.nil (.same _)))))))) rfl h) (RegG.go ?_)
 refine ⟨.inr rfl,_,Outs.cell Tryz.results34 row63 rfl rfl rfl rfl rfl ⟨[7],FzP.aggL (.cons (.pure rfl) (.cons (.pure rfl) (.cons (.pure rfl) (.cons (FzP.slMap (f:=clA) (l:=[(⟨k0.N,k0.M,[],k0.I,k0.T,[],[]⟩:PCl)]) (List.mem_singleton.2 rfl) rfl rfl rfl rfl rfl rfl (fun a _=>⟨rfl,rfl⟩)) .nil))))⟩,?_⟩
 have e0:k0.k=w.length:=by omega
 have e1:=hi_k0.n
 have e2:=hi_k0.m
 have e3:=hi_k0.i
 have e4:=hi_k0.t
 rw [e0] at e1 e2 e3 e4
 rw [exact_yes hbel,e1,e2,e3,e4]; rfl
end Go.Proofs.YthpangmpihkniaaGreatDoor
namespace Go.Proofs.YthpangmpihkniaaGreatDoor
set_option linter.unusedVariables false
set_option linter.unusedSimpArgs false
open Go.RowKit
structure PAcc where
 w:Bool
 p:PPred
abbrev acA (a:PAcc):List AV:=.v (.bool a.w) :: prA a.p
theorem row_acA:RowF acA 5:=⟨fun _=>rfl,fun _=>rfl,fun _ _=>rfl,fun _ _=>rfl,fun _ _=>rfl,fun _=>rfl⟩
theorem by65:(Tryz.prog.info? 65).map (·.bytes)=some 72:=by kernel_rfl
theorem sz65:sizeInfo Tryz.prog 65=some 5:=by kernel_rfl
theorem zr65:zeroOf Tryz.prog 65=some (.agg #[.bool false,.int .i64 0,.int .i64 0,.slice none 0 0,.slice none 0 0]):=by kernel_rfl
end Go.Proofs.YthpangmpihkniaaGreatDoor
namespace Go.Proofs.YthpangmpihkniaaGreatDoor
set_option linter.unusedVariables false
set_option linter.unusedSimpArgs false
open Go.RowKit
theorem LOp.mul1 {P:Program} {τ:Nat→AV} {η:Heap} {d:Option Tmp} {ty:TypeId} {pos:String} {af:Array Edge} {g:Option (Nat×Bool)} {t t':Nat} {x y:Operand} {a n:Int} (hx:aev τ x=.v (.int .i64 a)) (hy:aev τ y=.v (.int .i64 n)) (ha:a=1) (h1:-9223372036854775808≤n) (h2:n≤9223372036854775807) :
  LOp P ⟨d,.binOp .mul t x y t',ty,pos,af,g⟩ τ η [] [] (.v (.int .i64 n)):=by
 subst ha
 have:=LOp.mulI (P:=P) (τ:=τ) (η:=η) (d:=d) (ty:=ty) (pos:=pos) (af:=af) (g:=g) (t:=t) (t':=t') hx hy (by omega) (by omega)
 rwa [Int.one_mul] at this
/-- A clause of equalities over n columns. -/
structure HC (n:Nat) (c:PCl):Prop where
 nul:∀ v∈c.nul,0≤v∧v < n
 nn:∀ v∈c.nn,0≤v∧v < n
 aux:c.aux=[]
 same:c.same=[]
 diff:c.diff=[]
 ints:∀ k∈c.ints,∃ v m:Int,k=⟨⟨-m,[⟨v,1⟩]⟩,true⟩∧(0≤v∧v < n)∧-2147483648≤m∧m≤2147483647
 tests:∀ t∈c.tests,t.kd=0∧t.ng=false∧0≤t.v∧t.v < n
 l1:c.nul.length≤1000
 l2:c.nn.length≤1000
 l3:c.ints.length≤1000
 l4:c.tests.length≤1000
/-- The numbers of a row are such as columns hold. -/
def RowI (w:List GVal):Prop:=∀ j (h:j < w.length),w[j].kind_=1→-2147483648≤w[j].int_∧w[j].int_≤2147483647
theorem bel_rowI {l:List PVar} {w:List GVal} (h:Bel l w) (hl:LOk l):RowI w:=fun j hj h1=>bel_int h hl hj h1
def nulH (w:List GVal) (v:Int):Prop:=(rowF w v).kind_=0
def nnH (w:List GVal) (v:Int):Prop:=¬ (rowF w v).kind_=0
def intH (w:List GVal) (k:PCon):Prop:=∃ v m:Int,k=⟨⟨-m,[⟨v,1⟩]⟩,true⟩∧(rowF w v).kind_=1∧(rowF w v).int_=m
def tesH (w:List GVal) (t:PTest):Prop:=(rowF w t.v).kind_=2∧(rowF w t.v).text_=t.s
structure HoldsS (c:PCl) (w:List GVal):Prop where
 nul:∀ v∈c.nul,nulH w v
 nn:∀ v∈c.nn,nnH w v
 ints:∀ k∈c.ints,intH w k
 tests:∀ t∈c.tests,tesH w t
theorem rF_nat {w:List GVal} {j:Nat} {v:Int} (hv:v=((j:Nat):Int)) (hj:j < w.length):rowF w v=w[j]:=by subst hv; exact rowF_at hj
theorem intNo {w:List GVal} {k:PCon} {v m:Int} {j:Nat} (hk:k=⟨⟨-m,[⟨v,1⟩]⟩,true⟩) (hv:v=((j:Nat):Int)) (hj:j < w.length) (hn:¬ (w[j].kind_=1∧w[j].int_=m)):¬ intH w k:=by
 rintro ⟨v',m',e,h1,h2⟩
 rw [hk] at e
 simp only [PCon.mk.injEq,PLin.mk.injEq,List.cons.injEq,PCoef.mk.injEq,and_true] at e
 obtain ⟨e1,e2⟩:=e
 subst e2
 rw [rF_nat hv hj] at h1 h2
 exact hn ⟨h1,by omega⟩
theorem bod31:bodied Tryz.prog 31=true:=by kernel_rfl
set_option maxRecDepth 100000 in
set_option maxHeartbeats 4000000 in
theorem integerD_p (w:List GVal) (hw:FitL w (fun y=>FitVal y)) (v:Int) (j:Nat) (hv:v=((j:Nat):Int)) (hj:j < w.length):PRet Tryz.prog 119 [.v (.int .i64 v),.tree 3 (w.map gvA),.v (.slice none 0 0)] (fun r=>∃ (x:Int) (b:Bool),r=.tup [.v (.int .i64 x),.v (.bool b)]∧x=w[j].int_∧(b=true↔w[j].kind_=1)):=by
 refine PRet.of_vc infOk [21,26] [] Tryz.func119 rfl Tryz.ntmps119 rfl (by kernel_rfl) ?_
 refine LenG.of (cB (fun hc11=>?_) (fun hc11=>?_))
 ·exfalso; have:=of_decide_eq_true hc11; omega
 have hq11:¬ ((v:Int)≥((w.length:Nat):Int)):=of_decide_eq_false hc11
 refine OpG.lk (LOp.indexI Tryz.underlying26 sz45 rfl rfl hv hj) ?_
 refine OpG.lk (LOp.indexI Tryz.underlying26 sz45 rfl rfl hv hj) ?_
 refine ⟨by kernel_rfl,?_⟩
 refine ⟨.inr rfl,_,Outs.two Tryz.results119 (OutR.tmp ⟨[],FzP.pure rfl⟩) (OutR.tmp ⟨[],FzP.pure rfl⟩),?_⟩
 exact ⟨_,_,rfl,rfl,by simp⟩
set_option maxRecDepth 100000 in
set_option maxHeartbeats 4000000 in
theorem computeD_p (w:List GVal) (hw:FitL w (fun y=>FitVal y)) (v m:Int) (j:Nat) (hv:v=((j:Nat):Int)) (hj:j < w.length) (hm:-2147483648≤m∧m≤2147483647) (hri:RowI w):PRet Tryz.prog 69 [.agg (liA (⟨-m,[(⟨v,1⟩:PCoef)]⟩:PLin)),.tree 3 (w.map gvA),.v (.slice none 0 0)] (fun r=>∃ (x:Int) (b:Bool),r=.tup [.v (.int .i64 x),.v (.bool b)]∧(b=true→w[j].kind_=1∧x=w[j].int_ - m)∧(b=false→¬ w[j].kind_=1)):=by
 have e1:(⟨-m,[⟨v,1⟩]⟩:PLin).k=-m:=rfl
 refine PRet.of_vc infOk [36] [] Tryz.func69 rfl Tryz.ntmps69 rfl (by kernel_rfl) (LenG.of ?_)
 refine LpG.unr (ULp.step ?_)
 refine cT (IdxG.of (j:=0) (by exact Nat.zero_lt_one) ?_)
 refine ArgG.mk (integerD_p w hw v j hv hj) rfl ?_
 rintro _ ⟨x0,b0,rfl,hx0,hb0⟩
 refine cB (fun hc31=>?_) (fun hc31=>?_)
 ·exact ⟨.inr rfl,_,Outs.two Tryz.results69 (OutR.tmp ⟨[],FzP.pure rfl⟩) (OutR.tmp ⟨[],FzP.pure rfl⟩),⟨_,_,rfl,fun h=>absurd h Bool.false_ne_true,fun _ h=>by rw [hb0.2 h] at hc31; simp at hc31⟩⟩
 have hbt:=nb hc31
 have hk1:=hb0.1 hbt
 have hrw:=hri j hj hk1
 refine OpG.lk (LOp.mul1 rfl rfl rfl (by omega) (by omega)) ⟨by omega,⟨by omega,?_⟩⟩
 refine ULp.step (cF ?_)
 exact ⟨.inr rfl,_,Outs.two Tryz.results69 (OutR.tmp ⟨[],FzP.pure rfl⟩) (OutR.tmp ⟨[],FzP.pure rfl⟩),⟨_,_,rfl,fun _=>⟨hk1,by omega⟩,fun h=>absurd h.symm Bool.false_ne_true⟩⟩
set_option maxRecDepth 100000 in
set_option maxHeartbeats 4000000 in
theorem auxiliaryD_p (c:PCl) (w:List GVal) (hw:FitL w (fun y=>FitVal y)) (ha:c.aux=[]):PRet Tryz.prog 68 [.agg (clA c),.tree 3 (w.map gvA)] (fun r=>r=.tup [.v (.slice none 0 0),.v (.bool true)]):=by
 refine PRet.of_vc infOk [] [] Tryz.func68 rfl Tryz.ntmps68 rfl (by kernel_rfl) (LenG.of ?_)
 refine LpG.exit (cB (fun hc16=>?_) (fun hc16=>?_))
 ·exfalso; have:=of_decide_eq_true hc16; rw [ha] at this; exact absurd this (by decide)
 have hq16:¬ ((0:Int) < ((c.aux.length:Nat):Int)):=of_decide_eq_false hc16
 refine ⟨.inr rfl,_,Outs.two Tryz.results68 (OutR.tmp ⟨[],FzP.pure rfl⟩) (OutR.tmp ⟨[],FzP.pure rfl⟩),?_⟩
 rfl
set_option maxRecDepth 100000 in
set_option maxHeartbeats 4000000 in
theorem passesD_p (t:PTest) (s:ByteArray) (hs:FitS s) (hk:t.kd=0):PRet Tryz.prog 70 [.agg (teA t),.v (.string s)] (fun r=>r=.v (.bool (s.toList==t.s.toList))):=by
 refine PRet.of_vc infOk [] [] Tryz.func70 rfl Tryz.ntmps70 rfl (by kernel_rfl) (cB (fun hc7=>?_) (fun hc7=>?_))
 ·have hq7:(t.kd:Int)=(0:Int):=by simpa using hc7
  exact rV Tryz.results70 rfl rfl
 exfalso; rw [hk] at hc7; exact absurd hc7 (by decide)
set_option maxRecDepth 100000 in
set_option maxHeartbeats 4000000 in
theorem holdsD_p (c:PCl) (w:List GVal) (hw:FitL w (fun y=>FitVal y)) (hc:HC w.length c) (hri:RowI w):PRet Tryz.prog 32 [.agg (clA c),.tree 3 (w.map gvA)] (fun r=>∃ b:Bool,r=.v (.bool b)∧(b=true↔HoldsS c w)):=by
 have hc1:=hc.l1
 have hc2:=hc.l2
 have hc3:=hc.l3
 have hc4:=hc.l4
 refine PRet.of_vc infOk [30,44,97,106] [] Tryz.func32 rfl Tryz.ntmps32 rfl (by kernel_rfl) ?_
 refine LenG.of (LpG.on (fun k0:Nat=>(⟨fL [(1,.tree 3 (w.map gvA)),(2,.ptr 0 0 0),(22,.tree 1 (c.nul.map iA)),(23,.v (.int .i64 ((c.nul.length:Nat):Int))),(24,.v (.int .i64 ((k0:Nat):Int)))],hLz [(0,⟨0,clA c,0,false⟩)],1⟩:St)) (fun k0=>(c.nul.length - k0)) (fun k0=>(k0≤c.nul.length∧∀ j (hl:j < c.nul.length),j < k0→nulH w c.nul[j])) 0 (cO (.cons rfl rfl (.cons rfl rfl (.cons rfl rfl (.cons rfl rfl (.cons rfl rfl .nil))))) (.cons rfl rfl rfl .nil)) ⟨Nat.zero_le _,fun j _ h=>absurd h (Nat.not_lt_zero j)⟩ ?_)
 rintro k0 hinv
 obtain ⟨hle_k0,hj_k0⟩:=hinv
 refine cL (fun hlt25=>?_) (fun hge25=>?_)
 ·obtain ⟨j1,hj1,hj1l⟩:∃ j:Nat,c.nul[k0]=((j:Nat):Int)∧j < w.length:=⟨(c.nul[k0]).toNat,by have:=hc.nul _ (List.getElem_mem hlt25); omega,by have:=hc.nul _ (List.getElem_mem hlt25); omega⟩
  refine IdxG.of (by assumption) (OpG.lk (LOp.indexI Tryz.underlying26 sz45 rfl rfl hj1 hj1l) ?_)
  refine cB (fun hc33=>?_) (fun hc33=>?_)
  ·have hq33:¬ ((w[j1].kind_:Int)=(0:Int)):=by simpa using hc33
   exact rV Tryz.results32 rfl ⟨_,rfl,fun h=>absurd h Bool.false_ne_true,fun h=>by have h1:=h.nul _ (List.getElem_mem hlt25); unfold nulH at h1; rw [rF_nat hj1 hj1l] at h1; exact absurd h1 hq33⟩
  have hq33:(w[j1].kind_:Int)=(0:Int):=by simpa using hc33
  refine ⟨by omega,?_⟩
  refine ⟨(k0+1),by omega,(cO (.cons rfl rfl (.cons rfl rfl (.cons rfl rfl (.cons rfl rfl (.cons rfl rfl .nil))))) (.cons rfl rfl rfl .nil)),?_⟩
  refine ⟨by omega,fun j hl h=>?_⟩
  rcases Nat.lt_succ_iff_lt_or_eq.1 h with h | rfl
  ·exact hj_k0 j hl h
  show (rowF w _).kind_=0; rw [rF_nat hj1 hj1l]; simpa using hc33
 refine LenG.of (LpG.on (fun k2:Nat=>(⟨fL [(1,.tree 3 (w.map gvA)),(2,.ptr 0 0 0),(36,.tree 1 (c.nn.map iA)),(37,.v (.int .i64 ((c.nn.length:Nat):Int))),(38,.v (.int .i64 ((k2:Nat):Int)))],hLz [(0,⟨0,clA c,0,false⟩)],1⟩:St)) (fun k2=>(c.nn.length - k2)) (fun k2=>(k2≤c.nn.length∧∀ j (hl:j < c.nn.length),j < k2→nnH w c.nn[j])) 0 (cO (.cons rfl rfl (.cons rfl rfl (.cons rfl rfl (.cons rfl rfl (.cons rfl rfl .nil))))) (.cons rfl rfl rfl .nil)) ⟨Nat.zero_le _,fun j _ h=>absurd h (Nat.not_lt_zero j)⟩ ?_)
 rintro k2 hinv
 obtain ⟨hle_k2,hj_k2⟩:=hinv
 refine cL (fun hlt39=>?_) (fun hge39=>?_)
 ·obtain ⟨j1,hj1,hj1l⟩:∃ j:Nat,c.nn[k2]=((j:Nat):Int)∧j < w.length:=⟨(c.nn[k2]).toNat,by have:=hc.nn _ (List.getElem_mem hlt39); omega,by have:=hc.nn _ (List.getElem_mem hlt39); omega⟩
  refine IdxG.of (by assumption) (OpG.lk (LOp.indexI Tryz.underlying26 sz45 rfl rfl hj1 hj1l) ?_)
  refine cB (fun hc47=>?_) (fun hc47=>?_)
  ·have hq47:(w[j1].kind_:Int)=(0:Int):=by simpa using hc47
   exact rV Tryz.results32 rfl ⟨_,rfl,fun h=>absurd h Bool.false_ne_true,fun h=>by have h1:=h.nn _ (List.getElem_mem hlt39); unfold nnH at h1; rw [rF_nat hj1 hj1l] at h1; exact absurd hq47 h1⟩
  have hq47:¬ ((w[j1].kind_:Int)=(0:Int)):=by simpa using hc47
  refine ⟨by omega,?_⟩
  refine ⟨(k2+1),by omega,(cO (.cons rfl rfl (.cons rfl rfl (.cons rfl rfl (.cons rfl rfl (.cons rfl rfl .nil))))) (.cons rfl rfl rfl .nil)),?_⟩
  refine ⟨by omega,fun j hl h=>?_⟩
  rcases Nat.lt_succ_iff_lt_or_eq.1 h with h | rfl
  ·exact hj_k2 j hl h
  show ¬ (rowF w _).kind_=0; rw [rF_nat hj1 hj1l]; simpa using hc47
 refine ArgG.mk (auxiliaryD_p c w hw hc.aux) rfl ?_
 rintro _ rfl
 refine cB (fun hc56=>?_) (fun hc56=>?_)
 ·exact absurd hc56 (by decide)
 refine LenG.of (LpG.on (fun k4:Nat=>(⟨fL [(1,.tree 3 (w.map gvA)),(2,.ptr 0 0 0),(9,.v (.slice none 0 0)),(58,.tree 3 (c.ints.map cnA)),(59,.v (.int .i64 ((c.ints.length:Nat):Int))),(60,.v (.int .i64 ((k4:Nat):Int)))],hLz [(0,⟨0,clA c,0,false⟩)],1⟩:St)) (fun k4=>(c.ints.length - k4)) (fun k4=>(k4≤c.ints.length∧∀ j (hl:j < c.ints.length),j < k4→intH w c.ints[j])) 0 (cO (.cons rfl rfl (.cons rfl rfl (.cons rfl rfl (.cons rfl rfl (.cons rfl rfl (.cons rfl rfl .nil)))))) (.cons rfl rfl rfl .nil)) ⟨Nat.zero_le _,fun j _ h=>absurd h (Nat.not_lt_zero j)⟩ ?_)
 rintro k4 hinv
 obtain ⟨hle_k4,hj_k4⟩:=hinv
 refine cL (fun hlt61=>?_) (fun hge61=>?_)
 ·obtain ⟨v1,m1,hk1,hv1,hm1⟩:=hc.ints _ (List.getElem_mem hlt61)
  obtain ⟨j1,hj1,hj1l⟩:∃ j:Nat,v1=((j:Nat):Int)∧j < w.length:=⟨(v1).toNat,by have:=hv1; omega,by have:=hv1; omega⟩
  refine IdxG.of (by assumption) (ArgG.mk ((show PRet Tryz.prog 69 [.agg (liA c.ints[k4].l),.tree 3 (w.map gvA),.v (.slice none 0 0)] _ by rw [hk1]; exact computeD_p w hw v1 m1 j1 hj1 hj1l hm1 hri)) rfl ?_)
  rintro _ ⟨x1,b1,rfl,hbt1,hbf1⟩
  refine cB (fun hg74=>?_) (fun hg74=>?_)
  ·refine cT (cT ?_)
   exact rV Tryz.results32 rfl ⟨_,rfl,fun h=>absurd h Bool.false_ne_true,fun h=>absurd (h.ints _ (List.getElem_mem hlt61)) (intNo hk1 hj1 hj1l (fun hh=>hbf1 (by simpa using hg74) hh.1))⟩
  refine cD (fun hq78=>?_) (fun hq78=>?_)
  ·exact cT (rV Tryz.results32 rfl ⟨_,rfl,fun h=>absurd h Bool.false_ne_true,fun h=>absurd (h.ints _ (List.getElem_mem hlt61)) (intNo hk1 hj1 hj1l (fun hh=>by have:=(hbt1 (nb hg74)).2; omega))⟩)
  refine cB (fun hg81=>?_) (fun hg81=>?_)
  ·refine cN (fun hq85=>?_) (fun hq85=>?_)
   ·exact rV Tryz.results32 rfl ⟨_,rfl,fun h=>absurd h Bool.false_ne_true,fun h=>absurd (h.ints _ (List.getElem_mem hlt61)) (intNo hk1 hj1 hj1l (fun hh=>by have:=(hbt1 (nb hg74)).2; omega))⟩
   refine ⟨by omega,?_⟩
   refine ⟨(k4+1),by omega,(cO (.cons rfl rfl (.cons rfl rfl (.cons rfl rfl (.cons rfl rfl (.cons rfl rfl (.cons rfl rfl .nil)))))) (.cons rfl rfl rfl .nil)),?_⟩
   refine ⟨by omega,fun j hl h=>?_⟩
   rcases Nat.lt_succ_iff_lt_or_eq.1 h with h | rfl
   ·exact hj_k4 j hl h
   exact ⟨v1,m1,hk1,by rw [rF_nat hj1 hj1l]; exact (hbt1 (nb hg74)).1,by rw [rF_nat hj1 hj1l]; have:=(hbt1 (nb hg74)).2; omega⟩
  exfalso; rw [hk1] at hg81; exact Bool.noConfusion hg81
 refine LenG.of (LpG.on (fun k6:Nat=>(⟨fL [(1,.tree 3 (w.map gvA)),(2,.ptr 0 0 0),(88,.tree 4 (c.tests.map teA)),(89,.v (.int .i64 ((c.tests.length:Nat):Int))),(90,.v (.int .i64 ((k6:Nat):Int)))],hLz [(0,⟨0,clA c,0,false⟩)],1⟩:St)) (fun k6=>(c.tests.length - k6)) (fun k6=>(k6≤c.tests.length∧∀ j (hl:j < c.tests.length),j < k6→tesH w c.tests[j])) 0 (cO (.cons rfl rfl (.cons rfl rfl (.cons rfl rfl (.cons rfl rfl (.cons rfl rfl .nil))))) (.cons rfl rfl rfl .nil)) ⟨Nat.zero_le _,fun j _ h=>absurd h (Nat.not_lt_zero j)⟩ ?_)
 rintro k6 hinv
 obtain ⟨hle_k6,hj_k6⟩:=hinv
 refine cL (fun hlt91=>?_) (fun hge91=>?_)
 ·obtain ⟨ht1,ht2,ht3⟩:=hc.tests _ (List.getElem_mem hlt91)
  obtain ⟨j1,hj1,hj1l⟩:∃ j:Nat,c.tests[k6].v=((j:Nat):Int)∧j < w.length:=⟨(c.tests[k6].v).toNat,by have:=ht3; omega,by have:=ht3; omega⟩
  refine IdxG.of (by assumption) (OpG.lk (LOp.indexI Tryz.underlying26 sz45 rfl rfl hj1 hj1l) ?_)
  refine cB (fun hg101=>?_) (fun hg101=>?_)
  ·have hq101:¬ ((w[j1].kind_:Int)=(2:Int)):=by simpa using hg101
   refine ⟨by kernel_rfl,?_⟩
   exact cT (rV Tryz.results32 rfl ⟨_,rfl,fun h=>absurd h Bool.false_ne_true,fun h=>by have h1:=(h.tests _ (List.getElem_mem hlt91)).1; rw [rF_nat hj1 hj1l] at h1; exact absurd h1 hq101⟩)
  have hq101:(w[j1].kind_:Int)=(2:Int):=by simpa using hg101
  refine OpG.lk (LOp.indexI Tryz.underlying26 sz45 rfl rfl hj1 hj1l) ?_
  refine ArgG.mk (passesD_p c.tests[k6] w[j1].text_ (hw.2 _ (List.getElem_mem hj1l)).text_ ht1) rfl ?_
  rintro _ rfl
  refine ⟨by kernel_rfl,?_⟩
  refine cB (fun hc113=>?_) (fun hc113=>?_)
  ·exact rV Tryz.results32 rfl ⟨_,rfl,fun h=>absurd h Bool.false_ne_true,fun h=>by have h1:=(h.tests _ (List.getElem_mem hlt91)).2; rw [rF_nat hj1 hj1l] at h1; have h2:=hc113; rw [ht2,h1] at h2; simp at h2⟩
  refine ⟨by omega,?_⟩
  refine ⟨(k6+1),by omega,(cO (.cons rfl rfl (.cons rfl rfl (.cons rfl rfl (.cons rfl rfl (.cons rfl rfl .nil))))) (.cons rfl rfl rfl .nil)),?_⟩
  refine ⟨by omega,fun j hl h=>?_⟩
  rcases Nat.lt_succ_iff_lt_or_eq.1 h with h | rfl
  ·exact hj_k6 j hl h
  refine ⟨by rw [rF_nat hj1 hj1l]; simpa using hg101,?_⟩
  rw [rF_nat hj1 hj1l]
  have h:=hc113
  rw [ht2] at h
  simp at h
  exact toList_inj h
 refine LenG.of (LpG.exit ?_)
 refine cB (fun hc119=>?_) (fun hc119=>?_)
 ·exfalso; have:=of_decide_eq_true hc119; rw [hc.same] at this; exact absurd this (by decide)
 have hq119:¬ ((0:Int) < ((c.same.length:Nat):Int)):=of_decide_eq_false hc119
 refine LenG.of (LpG.exit ?_)
 refine cB (fun hc158=>?_) (fun hc158=>?_)
 ·exfalso; have:=of_decide_eq_true hc158; rw [hc.diff] at this; exact absurd this (by decide)
 have hq158:¬ ((0:Int) < ((c.diff.length:Nat):Int)):=of_decide_eq_false hc158
 exact rV Tryz.results32 rfl ⟨_,rfl,fun _=>⟨fun v hv=>by obtain ⟨j,hj,rfl⟩:=List.getElem_of_mem hv; exact hj_k0 j hj (by omega),fun v hv=>by obtain ⟨j,hj,rfl⟩:=List.getElem_of_mem hv; exact hj_k2 j hj (by omega),fun v hv=>by obtain ⟨j,hj,rfl⟩:=List.getElem_of_mem hv; exact hj_k4 j hj (by omega),fun v hv=>by obtain ⟨j,hj,rfl⟩:=List.getElem_of_mem hv; exact hj_k6 j hj (by omega)⟩,fun _=>rfl⟩
set_option maxRecDepth 100000 in
set_option maxHeartbeats 4000000 in
theorem matchesC_p (c:PCl) (w:List GVal) (hw:FitL w (fun y=>FitVal y)) (hc:HC w.length c) (hri:RowI w):PRet Tryz.prog 31 [.agg (clA c),.tp [.tree 3 (w.map gvA)] 0] (fun r=>∃ b:Bool,r=.v (.bool b)∧(b=true↔HoldsS c w)):=by
 refine PRet.of_vc infOk [] [] Tryz.func31 rfl Tryz.ntmps31 rfl (by kernel_rfl) (ArgG.mk (holdsD_p c w hw hc hri) rfl ?_)
 rintro _ ⟨b0,rfl,hb0⟩
 exact rV Tryz.results31 rfl ⟨_,rfl,hb0⟩
set_option maxRecDepth 100000 in
set_option maxHeartbeats 4000000 in
theorem indexD_p (l:List PCl) (hl:FitL l (fun y=>True)) (w:List GVal) (hw:FitL w (fun y=>FitVal y)) (hcl:∀ c∈l,HC w.length c) (hri:RowI w) (hl1:l.length≤1000):PRet Tryz.prog 67 [.tree 7 (l.map clA),.clo 31 [.tp [.tree 3 (w.map gvA)] 0]] (fun r=>∃ i:Int,r=.v (.int .i64 i)∧(0≤i↔∃ c∈l,HoldsS c w)):=by
 refine PRet.of_vc infOk [16] [] Tryz.func67 rfl Tryz.ntmps67 rfl (by kernel_rfl) (LenG.of ?_)
 refine LpG.on (fun k0:Nat=>(⟨fL [(0,.tree 7 (l.map clA)),(1,.clo 31 [.tp [.tree 3 (w.map gvA)] 0]),(7,.v (.int .i64 ((l.length:Nat):Int))),(8,.v (.int .i64 ((k0:Nat):Int)))],hLz [],0⟩:St)) (fun k0=>(l.length - k0)) (fun k0=>(k0≤l.length∧∀ j (hl:j < l.length),j < k0→¬ HoldsS l[j] w)) 0 (cO (.cons rfl rfl (.cons rfl rfl (.cons rfl rfl (.cons rfl rfl .nil)))) .nil) ⟨Nat.zero_le _,fun j _ h=>absurd h (Nat.not_lt_zero j)⟩ ?_
 rintro k0 hinv
 have hgr_k0:l.length≤140737488355328:=hl.1
 obtain ⟨hle_k0,hj_k0⟩:=hinv
 refine cL (fun hlt9=>?_) (fun hge9=>?_)
 ·obtain ⟨_,⟨b16,rfl,hb16⟩,hcl16⟩:=matchesC_p l[k0] w hw (hcl _ (List.getElem_mem hlt9)) hri
  refine IdxG.of (by assumption) (OpG.lk (LOp.callVP bod31 rfl rfl rfl hcl16) ?_)
  refine cB (fun hc16=>?_) (fun hc16=>?_)
  ·exact rV Tryz.results67 rfl ⟨_,rfl,fun _=>⟨_,List.getElem_mem hlt9,hb16.1 hc16⟩,fun _=>by omega⟩
  refine ⟨by omega,⟨(k0+1),by omega,(cO (.cons rfl rfl (.cons rfl rfl (.cons rfl rfl (.cons rfl rfl .nil)))) .nil),?_⟩⟩
  refine ⟨by omega,fun j hl h=>?_⟩
  rcases Nat.lt_succ_iff_lt_or_eq.1 h with h | rfl
  ·exact hj_k0 j hl h
  exact fun h=>by rw [hb16.2 h] at hc16; cases hc16
 exact rV Tryz.results67 rfl ⟨_,rfl,fun h=>absurd h (by decide),fun ⟨c,hc,h⟩=>by obtain ⟨j,hj,rfl⟩:=List.getElem_of_mem hc; exact absurd h (hj_k0 j hj (by omega))⟩
set_option maxRecDepth 100000 in
set_option maxHeartbeats 4000000 in
theorem containsD_p (l:List PCl) (hl:FitL l (fun y=>True)) (w:List GVal) (hw:FitL w (fun y=>FitVal y)) (hcl:∀ c∈l,HC w.length c) (hri:RowI w) (hl1:l.length≤1000):PRet Tryz.prog 30 [.tree 7 (l.map clA),.clo 31 [.tp [.tree 3 (w.map gvA)] 0]] (fun r=>∃ b:Bool,r=.v (.bool b)∧(b=true↔∃ c∈l,HoldsS c w)):=by
 refine PRet.of_vc infOk [] [] Tryz.func30 rfl Tryz.ntmps30 rfl (by kernel_rfl) (ArgG.mk (indexD_p l hl w hw hcl hri hl1) rfl ?_)
 rintro _ ⟨i0,rfl,hi0⟩
 exact rV Tryz.results30 rfl ⟨_,rfl,by rw [← hi0]; simp⟩
set_option maxRecDepth 100000 in
set_option maxHeartbeats 4000000 in
theorem matches_p (p:PPred) (w:List GVal) (hw:FitL w (fun y=>FitVal y)) (hcols:p.cols=((p.vars.length:Nat):Int)) (hvf:FitL p.vars (fun _=>True)) (hlk:LOk p.vars) (hpc:∀ c∈p.cls,HC p.vars.length c) (hp1:p.cls.length≤1000):PRet Tryz.prog 11 [.agg (prA p),.tree 3 (w.map gvA)] (fun r=>∃ b:Bool,r=.v (.bool b)∧(b=true↔Bel p.vars w∧∃ c∈p.cls,HoldsS c w)):=by
 refine PRet.of_vc infOk [12,25] [5] Tryz.func11 rfl Tryz.ntmps11 rfl (by kernel_rfl) (OpG.lk (LOp.takeT2 (n:=p.vars.length) Tryz.underlying52 sz87 rfl rfl hcols (Nat.le_refl _)) ?_)
 refine ArgG.mk (belongs_p w hw (p.vars.take p.vars.length) (by rw [List.take_length]; exact hvf)) rfl ?_
 rintro _ ⟨b0,rfl,hb0⟩
 refine cB (fun hc16=>?_) (fun hc16=>?_)
 ·exact rV Tryz.results11 rfl ⟨_,rfl,fun h=>absurd h Bool.false_ne_true,fun h=>by have h1:=hb0.2 (by rw [List.take_length]; exact h.1); rw [h1] at hc16; simp at hc16⟩
 refine LenG.of (cB (fun hc22=>?_) (fun hc22=>?_))
 ·have hq22:((p.vars.length:Nat):Int)=(p.cols:Int):=by simpa using hc22
  refine RegG.via (fun _ h=>AWP.freeze [1] 3 (.tp [.tree 3 (w.map gvA)] 0) (FzP.ptr (b:=⟨0,[.tree 3 (w.map gvA)],0,false⟩) (List.mem_singleton.2 rfl) rfl rfl rfl rfl (fun i h1 h2=>match i,h1 with | 0,_=>FzP.pure rfl)) rfl h) (RegG.go ?_)
  refine OpG.lk (LOp.makeFunc) (ArgG.mk (containsD_p p.cls ⟨by have:=hp1; omega,fun _ _=>trivial⟩ w hw (fun c h=>by rw [hb0.1 (nb hc16) |>.1]; rw [List.take_length]; exact hpc c h) (bel_rowI (hb0.1 (nb hc16)) (by rw [List.take_length]; exact hlk)) hp1) rfl ?_)
  rintro _ ⟨b1,rfl,hb1⟩
  refine rV Tryz.results11 rfl ?_
  have hbel:=hb0.1 (nb hc16)
  rw [List.take_length] at hbel
  exact ⟨_,rfl,fun h=>⟨hbel,hb1.1 h⟩,fun h=>hb1.2 h.2⟩
 exfalso; rw [hcols] at hc22; simp at hc22
end Go.Proofs.YthpangmpihkniaaGreatDoor
namespace Go.Proofs.YthpangmpihkniaaGreatDoor
set_option linter.unusedVariables false
set_option linter.unusedSimpArgs false
open Go.RowKit
section
variable {β:Type} {f:GVal→Int→List β} {w w':List GVal} {l:List PVar}
theorem mem_exL {x:β}:∀ {k:Nat},x∈exL f w k↔∃ i:Nat,i < k∧x∈f (w.getD i zV) ((i:Nat):Int)
 | 0=>by simp [exL]
 | k+1=>by
  rw [exL,List.mem_append,mem_exL]
  constructor
  ·rintro (⟨i,h1,h2⟩ | h)
   ·exact ⟨i,by omega,h2⟩
   ·exact ⟨k,by omega,h⟩
  ·rintro ⟨i,h1,h2⟩
   by_cases e:i=k
   ·subst e; exact .inr h2
   ·exact .inl ⟨i,by omega,h2⟩
theorem at_w {i:Nat} (h:i < w.length):w.getD i zV=w[i]:=by simp [List.getD,h]
theorem mem_full {x:β}:x∈exL f w w.length↔∃ i:Nat,∃ h:i < w.length,x∈f w[i] ((i:Nat):Int):=by
 rw [mem_exL]
 constructor
 ·rintro ⟨i,h1,h2⟩; exact ⟨i,h1,by rw [at_w h1] at h2; exact h2⟩
 rintro ⟨i,h1,h2⟩; exact ⟨i,h1,by rw [at_w h1]; exact h2⟩
theorem exL_len (hf:∀ v i,(f v i).length≤1):∀ k,(exL f w k).length≤k
 | 0=>Nat.le_refl _
 | k+1=>by rw [exL,List.length_append]; have:=exL_len hf k; have:=hf (w.getD k zV) k; omega
end
theorem n1 (v:GVal) (i:Int):(nOf v i).length≤1:=by unfold nOf; split <;> simp
theorem m1 (v:GVal) (i:Int):(mOf v i).length≤1:=by unfold mOf; split <;> simp
theorem i1 (v:GVal) (i:Int):(iOf v i).length≤1:=by unfold iOf; split; simp; split <;> simp
theorem t1 (v:GVal) (i:Int):(tOf v i).length≤1:=by unfold tOf; split; simp; split <;> simp
/-- An ascending list of numbers below n. -/
structure AscL (L:List Int) (n:Int):Prop where
 rng:∀ x∈L,0≤x∧x < n
 inc:∀ i (h:i+1 < L.length),L[i] < L[i+1]
theorem AscL.snoc {L:List Int} {n:Int} (h:AscL L n) (hn:0≤n):AscL (L++[n]) (n+1):=by
 refine ⟨fun x hx=>?_,fun i hi=>?_⟩
 ·rcases List.mem_append.1 hx with hx | hx
  ·have:=h.rng x hx; omega
  rw [List.mem_singleton.1 hx]; omega
 have hi':i+1 < L.length+1:=by simpa using hi
 rw [List.getElem_append_left (by omega)]
 by_cases e:i+1 < L.length
 ·rw [List.getElem_append_left e]; exact h.inc i e
 rw [List.getElem_append_right (by omega)]
 have:=h.rng L[i] (List.getElem_mem _)
 have e2:i+1 - L.length=0:=by omega
 simp [e2]; omega
theorem AscL.up {L:List Int} {n m:Int} (h:AscL L n) (hm:n≤m):AscL L m:=⟨fun x hx=>by have:=h.rng x hx; omega,h.inc⟩
theorem asc_exL {f:GVal→Int→List Int} (hf:∀ v i,f v i=[]∨f v i=[i]) {w:List GVal}:∀ k:Nat,AscL (exL f w k) k
 | 0=>⟨by simp [exL],fun i h=>by simp [exL] at h⟩
 | k+1=>by
  have ih:=asc_exL hf (w:=w) k
  rw [exL]
  rcases hf (w.getD k zV) k with e | e
  ·rw [e,List.append_nil]; exact ih.up (by omega)
  ·rw [e]; have:=ih.snoc (by omega); simpa using this
theorem ascB_of {L:List Int} {n:Int} (h:AscL L n):ascB L n=true:=by
 unfold ascB
 rw [allN_iff]
 intro j hj
 unfold ascP
 rw [getD_at hj]
 have h1:=h.rng L[j] (List.getElem_mem _)
 simp only [Bool.not_eq_true',Bool.or_eq_false_iff,Bool.and_eq_false_iff,decide_eq_false_iff_not]
 refine ⟨⟨by omega,by omega⟩,?_⟩
 by_cases e:0 < j
 ·right
  obtain ⟨i,rfl⟩:∃ i,j=i+1:=⟨j - 1,by omega⟩
  rw [Nat.add_sub_cancel,getD_at (by omega)]
  have:=h.inc i hj
  omega
 left; omega
theorem hasB_of {L:List Int} {v:Int} (h:v∈L):hasB L v=true:=by
 unfold hasB
 cases hb:allN L.length (hasP L v) with
 | false=>rfl
 | true=>
  rw [allN_iff] at hb
  obtain ⟨j,hj,rfl⟩:=List.getElem_of_mem h
  have:=hb j hj
  unfold hasP at this
  rw [getD_at hj] at this
  simp at this
theorem nf (v:GVal) (i:Int):nOf v i=[]∨nOf v i=[i]:=by unfold nOf; split <;> simp
theorem mf (v:GVal) (i:Int):mOf v i=[]∨mOf v i=[i]:=by unfold mOf; split <;> simp
/-- What is known of a value that fits a variable. -/
theorem fit_cases {v:GVal} {x:PVar} (h:fitB v x=true):(v.kind_=0∧v.int_=0∧emptyB v.text_=true∧x.nl=true)∨(v.kind_=1∧emptyB v.text_=true∧x.t=1∧x.lo≤v.int_∧v.int_≤x.hi)∨(v.kind_=2∧v.int_=0∧prnB v.text_=true∧v.text_.size≤16∧x.t=2):=by
 unfold fitB at h
 split at h
 ·rename_i hv
  unfold valB at hv
  split at hv
  ·rename_i h0
   rw [if_pos h0] at h
   simp at hv
   exact .inl ⟨h0,hv.1,hv.2,h⟩
  rename_i h0
  rw [if_neg h0] at h
  split at hv
  ·rename_i h1
   rw [if_pos h1] at h
   simp at h
   exact .inr (.inl ⟨h1,hv,h.1.1,by omega,by omega⟩)
  rename_i h1
  rw [if_neg h1] at h
  split at hv
  ·rename_i h2
   simp at h hv
   exact .inr (.inr ⟨h2,hv.1.1,hv.1.2,by omega,h.1⟩)
  cases hv
 cases h
theorem txt_eq {a b:ByteArray} (h1:emptyB a=true) (h2:emptyB b=true):a=b:=by
 unfold emptyB at h1 h2
 rw [beq_iff_eq] at h1 h2
 exact toList_inj (h1.trans h2.symm)
section
variable {l:List PVar} {w w':List GVal}
theorem bel_at (h:Bel l w) {i:Nat} (hi:i < w.length):fitB w[i] (l[i]'(by have:=h.1; omega))=true:=h.2 i hi _
theorem mem_m {i:Nat} (hi:i < w.length) (h:¬ w[i].kind_=0):((i:Nat):Int)∈exL mOf w w.length:=mem_full.2 ⟨i,hi,by unfold mOf; rw [if_neg h]; simp⟩
theorem exC_hc (h:Bel l w) (hl:LOk l) (hn:w.length≤1000):HC w.length (exC w) where
 nul:=fun v hv=>by
  obtain ⟨i,hi,hx⟩:=mem_full.1 hv
  unfold nOf at hx
  split at hx
  ·rw [List.mem_singleton.1 hx]; omega
  ·simp at hx
 nn:=fun v hv=>by
  obtain ⟨i,hi,hx⟩:=mem_full.1 hv
  unfold mOf at hx
  split at hx
  ·simp at hx
  ·rw [List.mem_singleton.1 hx]; omega
 aux:=rfl
 same:=rfl
 diff:=rfl
 ints:=fun k hk=>by
  obtain ⟨i,hi,hx⟩:=mem_full.1 hk
  unfold iOf at hx
  split at hx
  ·simp at hx
  ·split at hx
   ·rename_i h1
    exact ⟨_,_,List.mem_singleton.1 hx,by omega,bel_int h hl hi h1⟩
   ·simp at hx
 tests:=fun t ht=>by
  obtain ⟨i,hi,hx⟩:=mem_full.1 ht
  unfold tOf at hx
  split at hx
  ·simp at hx
  ·split at hx
   ·simp at hx
   ·rw [List.mem_singleton.1 hx]
    exact ⟨rfl,rfl,by show (0:Int)≤((i:Nat):Int); omega,by show ((i:Nat):Int) < _; omega⟩
 l1:=Nat.le_trans (exL_len n1 _) hn
 l2:=Nat.le_trans (exL_len m1 _) hn
 l3:=Nat.le_trans (exL_len i1 _) hn
 l4:=Nat.le_trans (exL_len t1 _) hn
theorem exC_holds (h:Bel l w) (h':Bel l w'):HoldsS (exC w) w'↔w=w':=by
 have hlen:w.length=w'.length:=by rw [h.1,h'.1]
 constructor
 ·intro hh
  refine List.ext_getElem hlen fun i hi hi'=>?_
  have hr:rowF w' ((i:Nat):Int)=w'[i]:=rowF_at hi'
  rcases fit_cases (bel_at h hi) with ⟨k0,g1,g2,_⟩ | ⟨k1,g1,_⟩ | ⟨k2,g1,_⟩
  ·have hz:=hh.nul ((i:Nat):Int) (mem_full.2 ⟨i,hi,by unfold nOf; rw [if_pos k0]; simp⟩)
   unfold nulH at hz
   rw [hr] at hz
   rcases fit_cases (bel_at h' hi') with ⟨k0',g1',g2',_⟩ | ⟨k1',_⟩ | ⟨k2',_⟩
   ·generalize w[i]=a at *
    generalize w'[i]=b at *
    obtain ⟨ak,ai,at_⟩:=a
    obtain ⟨bk,bi,bt⟩:=b
    simp only at *
    subst k0; subst g1; subst k0'; subst g1'
    rw [txt_eq g2 g2']
   ·omega
   omega
  ·obtain ⟨v,m,e,z1,z2⟩:=hh.ints ⟨⟨-w[i].int_,[⟨((i:Nat):Int),1⟩]⟩,true⟩ (mem_full.2 ⟨i,hi,by unfold iOf; rw [if_neg (by omega),if_pos k1]; simp⟩)
   simp only [PCon.mk.injEq,PLin.mk.injEq,List.cons.injEq,PCoef.mk.injEq,and_true] at e
   obtain ⟨e1,e2⟩:=e
   subst e2
   rw [hr] at z1 z2
   rcases fit_cases (bel_at h' hi') with ⟨k0',_⟩ | ⟨k1',g1',_⟩ | ⟨k2',_⟩
   ·omega
   ·have e3:w[i].int_=w'[i].int_:=by omega
    generalize w[i]=a at *
    generalize w'[i]=b at *
    obtain ⟨ak,ai,at_⟩:=a
    obtain ⟨bk,bi,bt⟩:=b
    simp only at *
    subst k1; subst k1'; subst e3
    rw [txt_eq g1 g1']
   omega
  obtain ⟨z1,z2⟩:=hh.tests ⟨((i:Nat):Int),0,false,w[i].text_⟩ (mem_full.2 ⟨i,hi,by unfold tOf; rw [if_neg (by omega),if_neg (by omega)]; simp⟩)
  have z1:(rowF w' ((i:Nat):Int)).kind_=2:=z1
  have z2:(rowF w' ((i:Nat):Int)).text_=w[i].text_:=z2
  rw [hr] at z1 z2
  rcases fit_cases (bel_at h' hi') with ⟨k0',_⟩ | ⟨k1',_⟩ | ⟨k2',g1',_⟩
  ·omega
  ·omega
  generalize w[i]=a at *
  generalize w'[i]=b at *
  obtain ⟨ak,ai,at_⟩:=a
  obtain ⟨bk,bi,bt⟩:=b
  simp only at *
  subst k2; subst k2'; subst g1; subst g1'; subst z2; rfl
 intro e
 subst e
 refine ⟨fun v hv=>?_,fun v hv=>?_,fun k hk=>?_,fun t ht=>?_⟩
 ·obtain ⟨i,hi,hx⟩:=mem_full.1 hv
  unfold nOf at hx
  split at hx
  ·rename_i h0
   rw [List.mem_singleton.1 hx]; unfold nulH; rw [rowF_at hi]; exact h0
  simp at hx
 ·obtain ⟨i,hi,hx⟩:=mem_full.1 hv
  unfold mOf at hx
  split at hx
  ·simp at hx
  rename_i h0
  rw [List.mem_singleton.1 hx]; unfold nnH; rw [rowF_at hi]; exact h0
 ·obtain ⟨i,hi,hx⟩:=mem_full.1 hk
  unfold iOf at hx
  split at hx
  ·simp at hx
  split at hx
  ·rename_i h1
   exact ⟨_,_,List.mem_singleton.1 hx,by rw [rowF_at hi]; exact h1,by rw [rowF_at hi]⟩
  simp at hx
 obtain ⟨i,hi,hx⟩:=mem_full.1 ht
 unfold tOf at hx
 split at hx
 ·simp at hx
 split at hx
 ·simp at hx
 rename_i h0 h1
 rw [List.mem_singleton.1 hx]
 refine ⟨?_,?_⟩
 ·show (rowF w ((i:Nat):Int)).kind_=2
  rw [rowF_at hi]
  rcases fit_cases (bel_at h hi) with ⟨k,_⟩ | ⟨k,_⟩ | ⟨k,_⟩
  ·exact absurd k h0
  ·exact absurd k h1
  exact k
 show (rowF w ((i:Nat):Int)).text_=w[i].text_
 rw [rowF_at hi]
theorem absI_1:absI 1=1:=rfl
theorem exC_ok (h:Bel l w) (hl:LOk l):clB (exC w) l=true:=by
 have hlen:=h.1
 have a1:ascB (exC w).nul l.length=true:=ascB_of (by rw [← hlen]; exact asc_exL nf _)
 have a2:ascB (exC w).nn l.length=true:=ascB_of (by rw [← hlen]; exact asc_exL mf _)
 have hnn:∀ i (hi:i < w.length),¬ w[i].kind_=0→hasB (exC w).nn ((i:Nat):Int)=true:=fun i hi hk=>hasB_of (mem_m hi hk)
 have a3:allN (exC w).ints.length (intP (exC w) l)=true:=by
  rw [allN_iff]
  intro j hj
  unfold intP
  rw [getD_at hj]
  obtain ⟨i,hi,hx⟩:=mem_full.1 (show (exC w).ints[j]∈exL iOf w w.length from List.getElem_mem hj)
  unfold iOf at hx
  split at hx
  ·simp at hx
  ·split at hx
   ·rename_i h0 h1
    rw [List.mem_singleton.1 hx]
    have hb:=bel_int h hl hi h1
    have hil:i < l.length:=by omega
    have ht:(l.getD i default).t=1:=by
     rw [getD_at hil]
     rcases fit_cases (bel_at h hi) with ⟨k,_⟩ | ⟨k,_,k2,_⟩ | ⟨k,_⟩
     ·omega
     ·exact k2
     ·omega
    have ha:absI (-w[i].int_)≤2147483648∧0≤absI (-w[i].int_):=by unfold absI; split <;> omega
    have e0:bsAt (exC w) l (exC w).aux.length=[]:=rfl
    rw [e0]
    have eB:fB ⟨-w[i].int_,[⟨((i:Nat):Int),1⟩]⟩ l [] 0=2147483648:=by
     unfold fB
     rw [if_neg]
     show ¬ ((i:Nat):Int)≥_
     omega
    have eS:fS ⟨-w[i].int_,[⟨((i:Nat):Int),1⟩]⟩ l [] 1=absI (-w[i].int_)+2147483648:=by
     show absI (-w[i].int_)+absI 1 * fB _ l [] 0=_
     rw [eB,absI_1]; omega
    have e1:fOk ⟨-w[i].int_,[⟨((i:Nat):Int),1⟩]⟩ (exC w).nn l [] 0=true:=by
     unfold fOk
     rw [eB,eS]
     have c1:fBad ⟨-w[i].int_,[⟨((i:Nat):Int),1⟩]⟩ l [] 0=false:=by
      show (decide (((i:Nat):Int) < 0)||decide (((i:Nat):Int)≥(l.length:Int)+(([]:List Int).length:Int))||(decide (0 < 0)&&_)||(1:Int)==0||!wiB 1 (-1048576) 1048576)=false
      have q1:decide (((i:Nat):Int) < 0)=false:=decide_eq_false (by omega)
      have q2:decide (((i:Nat):Int)≥(l.length:Int)+(([]:List Int).length:Int))=false:=decide_eq_false (by simp; omega)
      rw [q1,q2]; rfl
     have c2:fTy ⟨-w[i].int_,[⟨((i:Nat):Int),1⟩]⟩ (exC w).nn l 0=false:=by
      show (decide (((i:Nat):Int) < (l.length:Int))&&(!((l.getD ((i:Nat):Int).toNat default).t==1)||!hasB (exC w).nn ((i:Nat):Int)))=false
      rw [hnn i hi (by omega),Int.toNat_natCast,ht]; simp
     rw [c1,c2]
     show (!false&&!false&&decide ((2147483648:Int)≤1152921504606846977 / absI 1)&&decide (absI (-w[i].int_)+2147483648≤1152921504606846977))=true
     rw [absI_1]
     simp; omega
    have e2:fV ⟨-w[i].int_,[⟨((i:Nat):Int),1⟩]⟩ (exC w).nn l []=absI (-w[i].int_)+2147483648:=by
     unfold fV
     have q:wiB (-w[i].int_) (-1099511627777) 1099511627777=true:=by unfold wiB; simp; omega
     have q2:allN 1 (fOk ⟨-w[i].int_,[⟨((i:Nat):Int),1⟩]⟩ (exC w).nn l [])=true:=by
      rw [allN_iff]; intro j hj
      obtain rfl:j=0:=by omega
      exact e1
     show (if (wiB (-w[i].int_) (-1099511627777) 1099511627777&&allN 1 _)=true then fS _ l [] 1 else -1)=_
     rw [q,q2,eS]; rfl
    show (!decide (fV _ _ l [] < 0))=true
    rw [e2]
    simp; omega
   ·simp at hx
 have a4:allN (exC w).tests.length (tstP (exC w) l)=true:=by
  rw [allN_iff]
  intro j hj
  unfold tstP
  rw [getD_at hj]
  obtain ⟨i,hi,hx⟩:=mem_full.1 (show (exC w).tests[j]∈exL tOf w w.length from List.getElem_mem hj)
  unfold tOf at hx
  split at hx
  ·simp at hx
  ·split at hx
   ·simp at hx
   ·rename_i h0 h1
    rw [List.mem_singleton.1 hx]
    have hil:i < l.length:=by omega
    rcases fit_cases (bel_at h hi) with ⟨k,_⟩ | ⟨k,_⟩ | ⟨k,g1,g2,g3,g4⟩
    ·exact absurd k h0
    ·exact absurd k h1
    ·have b1:tesB ⟨((i:Nat):Int),0,false,w[i].text_⟩=true:=by
      unfold tesB
      unfold prnB at g2
      simp only [g2]
      simp; omega
     have b2:txtB ((i:Nat):Int) (exC w).nn l=true:=by
      unfold txtB
      rw [hnn i hi h0,Int.toNat_natCast,getD_at hil,g4]
      simp; omega
     simp only [b1,b2,Bool.and_self]
 unfold clB
 rw [a1,a2,a3,a4]
 rfl
theorem exact_ref {tb:Int} {n:Int} (h:Bel l w) (hl:LOk l) (hv:∀ x∈l,varB x=true) (h0:0≤tb) (hn:n=((l.length:Nat):Int)) (h1:1≤l.length) (h64:l.length≤64):refB (exactS tb l w) n=true:=by
 rw [exact_yes h]
 subst hn
 have d:domB l=true:=by
  unfold domB
  have:allN l.length (domP l)=true:=by
   rw [allN_iff]; intro j hj
   unfold domP; rw [getD_at hj]; exact hv _ (List.getElem_mem _)
  rw [this]; simp; omega
 have b:badP ⟨tb,((l.length:Nat):Int),l,[exC w]⟩ ((l.length:Nat):Int)=false:=by
  unfold badP
  simp only [d]
  simp; omega
 unfold refB
 rw [b]
 have c:allN [exC w].length (clsP ⟨tb,((l.length:Nat):Int),l,[exC w]⟩)=true:=by
  rw [allN_iff]; intro j hj
  obtain rfl:j=0:=by simp at hj; omega
  exact exC_ok h hl
 simp only [c]; rfl
end
end Go.Proofs.YthpangmpihkniaaGreatDoor
namespace Go.Proofs.YthpangmpihkniaaGreatDoor
set_option linter.unusedVariables false
set_option linter.unusedSimpArgs false
open Go.RowKit
theorem varC_ok {c:GCol} (h:ColOk c):varB (varC c)=true:=by
 unfold ColOk at h
 unfold varB varC
 rcases h with h | h
 ·simp only [h.1,if_true]; simp; omega
 simp only [h.1]; simp; omega
theorem TabS.vars {t:GTab} (h:TabS t):∀ x∈varsOf t,varB x=true:=fun x hx=>by
 obtain ⟨c,hc,rfl⟩:=List.mem_map.1 hx
 exact varC_ok (h.col c hc)
theorem varsLen (t:GTab):(varsOf t).length=t.columns_.length:=by simp [varsOf]
theorem exC_pok {w:List GVal} (hn:w.length≤1000) (hs:∀ v∈w,¬ v.kind_=0→¬ v.kind_=1→v.text_.size≤1000):(exC w).Ok where
 nul:=Nat.le_trans (exL_len n1 _) hn
 nn:=Nat.le_trans (exL_len m1 _) hn
 aux:=Nat.zero_le _
 ints:=Nat.le_trans (exL_len i1 _) hn
 tests:=Nat.le_trans (exL_len t1 _) hn
 same:=Nat.zero_le _
 diff:=Nat.zero_le _
 auxc:=fun a h=>absurd h (by simp [exC])
 intc:=fun a h=>by
  obtain ⟨i,hi,hx⟩:=mem_full.1 h
  unfold iOf at hx
  split at hx
  ·simp at hx
  ·split at hx
   ·rw [List.mem_singleton.1 hx]; simp
   ·simp at hx
 tes:=fun a h=>by
  obtain ⟨i,hi,hx⟩:=mem_full.1 h
  unfold tOf at hx
  split at hx
  ·simp at hx
  ·split at hx
   ·simp at hx
   ·rename_i g0 g1
    rw [List.mem_singleton.1 hx]; exact hs _ (List.getElem_mem hi) g0 g1
theorem bel_txt {l:List PVar} {w:List GVal} (h:Bel l w):∀ v∈w,¬ v.kind_=0→¬ v.kind_=1→v.text_.size≤1000:=fun v hv h0 h1=>by
 obtain ⟨i,hi,rfl⟩:=List.getElem_of_mem hv
 rcases fit_cases (bel_at h hi) with ⟨k,_⟩ | ⟨k,_⟩ | ⟨k,_,_,g,_⟩
 ·exact absurd k h0
 ·exact absurd k h1
 omega
set_option maxRecDepth 100000 in
set_option maxHeartbeats 4000000 in
theorem fits29_p (a:PAcc) (s:List GTab) (hs:FitL s (fun y=>FitTab y)) (t:Int) (wr:Bool) (j:Nat) (ht:t=((j:Nat):Int)) (hj:j < s.length) (hok:a.p.Ok):PRet Tryz.prog 10 [.agg (acA a),.tree 5 (s.map tabA),.v (.int .i64 t),.v (.bool wr)] (fun r=>∃ b:Bool,r=.v (.bool b)∧(b=true↔a.w=wr∧a.p.tab=t∧refB a.p ((s[j].columns_.length:Nat):Int)=true)):=by
 refine PRet.of_vc infOk [25] [] Tryz.func10 rfl Tryz.ntmps10 rfl (by kernel_rfl) ?_
 refine cB (fun hg13=>?_) (fun hg13=>?_)
 ·refine cE (fun hq20=>?_) (fun hq20=>?_)
  ·refine OpG.lk (LOp.indexI Tryz.underlying23 sz35 rfl rfl ht hj) ?_
   refine LenG.of (ArgG.mk (PRet.of_call (ref_p a.p _ hok)) rfl ?_)
   rintro _ rfl
   refine ⟨by kernel_rfl,?_⟩
   exact rV Tryz.results10 rfl ⟨_,rfl,by simp_all⟩
  refine ⟨by kernel_rfl,?_⟩
  exact rV Tryz.results10 rfl ⟨_,rfl,by simp_all⟩
 exact cF ⟨by kernel_rfl,rV Tryz.results10 rfl ⟨_,rfl,by simp_all⟩⟩
end Go.Proofs.YthpangmpihkniaaGreatDoor
