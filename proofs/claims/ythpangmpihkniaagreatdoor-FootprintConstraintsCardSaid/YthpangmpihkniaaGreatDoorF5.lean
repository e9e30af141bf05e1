/- Texts of the claim. -/
import Derived.Shelf.SlicesE.Clone
import Derived.Test.YthpangmpihkniaaGreatDoorF4
import Derived.Test.YthpangmpihkniaaGreatDoorQ2
import Derived.Test.YthpangmpihkniaaGreatDoorV1
namespace Go.Proofs
open Go.Shelf
def Tryz.cloV_ren:Go.Shelf.Ren:=⟨fun | 41=>72 | n=>n,fun | 22=>52 | 23=>87 | 4=>4 | n=>n,fun | n=>n⟩
theorem Tryz.cloV:Go.Proofs.SlLaysE0.n41 Tryz.prog Tryz.cloV_ren:={
 mixed:=by kernel_rfl
 f41:=⟨Tryz.f72.name,by decide,Tryz.func72.trans (congrArg some (by kernel_rfl))⟩
 t4:=Tryz.underlying4
 a4:=Tryz.isAgg4
 z4:=Tryz.sizeOf4
 v4:=Tryz.zeroValue4
 t22:=Tryz.underlying52
 a22:=Tryz.isAgg52
 z22:=Tryz.sizeOf52
 v22:=Tryz.zeroValue52 }
end Go.Proofs
namespace Go.Proofs.YthpangmpihkniaaGreatDoor
set_option maxRecDepth 1000000
set_option maxHeartbeats 0
open Go.Shelf in
theorem cl_V:CloneL Tryz.prog 72 5:=⟨⟨Tryz.cloV_ren,Tryz.t87,_,_,rfl,Tryz.cloV,by kernel_rfl,rfl,rfl,rfl,rfl,Tryz.sizeOf87,by decide⟩,by decide⟩
set_option linter.unusedVariables false
set_option linter.unusedSimpArgs false
open Go.RowKit
theorem l9:RowF cnA 3:=⟨fun _=>rfl,fun _=>rfl,fun _ _=>rfl,fun _ _=>rfl,fun _ _=>rfl,fun _=>rfl⟩
theorem l8:RowF teA 4:=⟨fun _=>rfl,fun _=>rfl,fun _ _=>rfl,fun _ _=>rfl,fun _ _=>rfl,fun _=>rfl⟩
/-- A row of values of some variables. -/
def Bel (l:List PVar) (w:List GVal):Prop:=w.length=l.length/\∀ j (h1:j < w.length) (h2:j < l.length),na w[j] l[j]=true
theorem Y7 {t:GTab} {w:List GVal}:Bel (ap t) w↔n9 t w:=by
 constructor
 ·rintro ⟨h1,h2⟩
  refine ⟨by rw [h1]; simp [ap],fun j hl h3=>?_⟩
  have e:(ap t)[j]'(by simpa [ap] using h3)=wz t.columns_[j]:=by simp [ap]
  rw [<- e]; exact h2 j hl _
 rintro ⟨h1,h2⟩
 refine ⟨by rw [h1]; simp [ap],fun j hl h3=>?_⟩
 have e:(ap t)[j]=wz (t.columns_[j]'(by simpa [ap] using h3)):=by simp [ap]
 rw [e]; exact h2 j hl _
theorem Bz {l:List PVar} {w:List GVal} {k:Nat} (h:Bel l w) (hl:LOk l) (hk:k < w.length) (h1:w[k].kind_=1):-2147483648<=w[k].int_/\w[k].int_<=2147483647:=by
 have h2:k < l.length:=by have:=h.1; omega
 rcases I0 (h.2 k hk h2) with g | g | g
 ·omega
 ·have:=hl _ (Ze h2) g.2.1; omega
 omega
def nOf (v:GVal) (k:Int):List Int:=if v.kind_=0 then [k] else []
def mOf (v:GVal) (k:Int):List Int:=if v.kind_=0 then [] else [k]
def iOf (v:GVal) (k:Int):List PCon:=if v.kind_=0 then [] else if v.kind_=1 then [⟨⟨-v.int_,[⟨k,1⟩]⟩,true⟩] else []
def tOf (v:GVal) (k:Int):List PTest:=if v.kind_=0 then [] else if v.kind_=1 then [] else [⟨k,0,false,v.text_⟩]
theorem Yx:(Tryz.prog.info? 134).map (·.bytes)=some 40:=by kernel_rfl
theorem Yw:(Tryz.prog.info? 160).map (·.bytes)=some 40:=by kernel_rfl
theorem Tj:el Tryz.prog 63=some (some 4):=by kernel_rfl
theorem W4:aa Tryz.prog 134=some 4:=by kernel_rfl
theorem W3:aa Tryz.prog 160=some 3:=by kernel_rfl
theorem S8:aa Tryz.prog 169=some 2:=by kernel_rfl
theorem Wo:ax Tryz.prog 134=some (.agg #[.int .i64 0,.int .i64 0,.bool false,.string ⟨#[]⟩]):=by kernel_rfl
theorem Wn:ax Tryz.prog 160=some (.agg #[.int .i64 0,.slice none 0 0,.bool false]):=by kernel_rfl
theorem O8:ax Tryz.prog 169=some (.agg #[.int .i64 0,.int .i64 0]):=by kernel_rfl
theorem zh (s:ByteArray) (hs:lw s):PRet Tryz.prog 156 [.v (.string s)] (fun r=>r=.v (.bool (Kf s&&decide ((s.size:Int)<=16)))):=by
 refine PRet.of_vc ao [] [] Tryz.func156 rfl Tryz.ntmps156 rfl (by kernel_rfl) (LpG.on (fun k0:Nat=>(⟨fL [(0,.v (.string s)),(5,.v (.int .i64 ((s.size:Nat):Int))),(6,.v (.int .i64 ((k0:Nat):Int)))],bl [],0⟩:St)) (fun k0=>(s.size - k0)) (fun k0=>(k0<=s.size/\∀ j (hl:j < s.size),j < k0->zg s j=true)) 0 (cO (.cons rfl rfl (.cons rfl rfl (.cons rfl rfl .nil))) .nil) ⟨Nat.zero_le _,fun j _ h=>absurd h (Nat.not_lt_zero j)⟩ ?_)
 rintro k0 hinv
 have hgr_k0:s.size<=140737488355328:=Nat.le_trans hs (by decide)
 obtain ⟨hle_k0,hj_k0⟩:=hinv
 refine cL (fun hlt7=>?_) (fun hge7=>?_)
 ·refine ⟨(by assumption),cB (fun hg13=>?_) (fun hg13=>?_)⟩
  ·refine cT (rV Tryz.results156 rfl ?_)
   (refine ba (Eq.symm ?_); rw [show Kf s=false from cp hlt7 (by simp only [zg]; simp_all)]; rfl)
  refine ⟨(by assumption),cB (fun hc18=>?_) (fun hc18=>?_)⟩
  ·refine rV Tryz.results156 rfl ?_
   (refine ba (Eq.symm ?_); rw [show Kf s=false from cp hlt7 (by simp only [zg]; simp_all)]; rfl)
  refine ⟨by omega,⟨(k0+1),by omega,(cO (.cons rfl rfl (.cons rfl rfl (.cons rfl rfl .nil))) .nil),?_⟩⟩
  refine ⟨by omega,fun j hl h=>?_⟩
  rcases Nat.lt_succ_iff_lt_or_eq.1 h with h | rfl
  ·exact hj_k0 j hl h
  simp only [zg]; simp_all
 refine rV Tryz.results156 rfl ?_
 (refine ba ?_; rw [show Kf s=true from ci hle_k0 hge7 (fun j h=>hj_k0 j (by omega) h)]; simp; done)
theorem Kn (v:GVal) (hv:FitVal v):PRet Tryz.prog 118 [.agg (gvA v)] (fun r=>r=.v (.bool (vo v))):=by
 refine PRet.of_vc ao [] [] Tryz.func118 rfl Tryz.ntmps118 rfl (by kernel_rfl) ?_
 refine cB (fun hc5=>?_) (fun hc5=>?_)
 ·have hq5:(v.kind_:Int)=(0:Int):=by simpa using hc5
  refine OpG.lk (jp rfl rfl) ?_
  refine rV Tryz.results118 rfl ?_
  refine ba ?_
  unfold vo ey
  (simp_all; done)
 have hq5:¬ ((v.kind_:Int)=(0:Int)):=by simpa using hc5
 refine cB (fun hc10=>?_) (fun hc10=>?_)
 ·have hq10:(v.kind_:Int)=(1:Int):=by simpa using hc10
  refine rV Tryz.results118 rfl ?_
  refine ba ?_
  unfold vo ey
  (simp_all; done)
 have hq10:¬ ((v.kind_:Int)=(1:Int)):=by simpa using hc10
 refine cB (fun hc15=>?_) (fun hc15=>?_)
 ·have hq15:(v.kind_:Int)=(2:Int):=by simpa using hc15
  refine cB (fun hg20=>?_) (fun hg20=>?_)
  ·have hq20:(v.int_:Int)=(0:Int):=by simpa using hg20
   refine ArgG.mk (zh v.text_ hv.text_) rfl ?_
   rintro _ rfl
   refine rV Tryz.results118 rfl ?_
   refine ba ?_
   unfold vo ey
   (simp_all; done)
  have hq20:¬ ((v.int_:Int)=(0:Int)):=by simpa using hg20
  refine rV Tryz.results118 rfl ?_
  refine ba ?_
  unfold vo ey
  (simp_all; done)
 have hq15:¬ ((v.kind_:Int)=(2:Int)):=by simpa using hc15
 refine rV Tryz.results118 rfl ?_
 refine ba ?_
 unfold vo ey
 (simp_all; done)
theorem Q8 (v:GVal) (hv:FitVal v) (x:PVar):PRet Tryz.prog 66 [.agg (gvA v),.agg (vA x)] (fun r=>r=.v (.bool (na v x))):=by
 refine PRet.of_vc ao [] [] Tryz.func66 rfl Tryz.ntmps66 rfl (by kernel_rfl) ?_
 refine ArgG.mk (Kn v hv) rfl ?_
 rintro _ rfl
 refine cB (fun hc7=>?_) (fun hc7=>?_)
 ·refine rV Tryz.results66 rfl ?_
  refine ba ?_
  unfold na
  (simp_all; done)
 refine cB (fun hc10=>?_) (fun hc10=>?_)
 ·have hq10:(v.kind_:Int)=(0:Int):=by simpa using hc10
  refine rV Tryz.results66 rfl ?_
  refine ba ?_
  unfold na
  (simp_all; done)
 have hq10:¬ ((v.kind_:Int)=(0:Int)):=by simpa using hc10
 refine cB (fun hc14=>?_) (fun hc14=>?_)
 ·have hq14:(v.kind_:Int)=(1:Int):=by simpa using hc14
  refine cB (fun hg19=>?_) (fun hg19=>?_)
  ·have hq19:(x.t:Int)=(1:Int):=by simpa using hg19
   refine cB (fun hg26=>?_) (fun hg26=>?_)
   ·have hq26:(v.int_:Int)≥(x.lo:Int):=of_decide_eq_true hg26
    refine rV Tryz.results66 rfl ?_
    refine ba ?_
    unfold na
    (simp_all; done)
   have hq26:¬ ((v.int_:Int)≥(x.lo:Int)):=of_decide_eq_false hg26
   refine rV Tryz.results66 rfl ?_
   refine ba ?_
   unfold na
   (simp_all; omega)
  have hq19:¬ ((x.t:Int)=(1:Int)):=by simpa using hg19
  refine cF (rV Tryz.results66 rfl ?_)
  refine ba ?_
  unfold na
  (simp_all; done)
 have hq14:¬ ((v.kind_:Int)=(1:Int)):=by simpa using hc14
 refine cB (fun hg36=>?_) (fun hg36=>?_)
 ·have hq36:(x.t:Int)=(2:Int):=by simpa using hg36
  refine rV Tryz.results66 rfl ?_
  refine ba ?_
  unfold na
  (simp_all; done)
 have hq36:¬ ((x.t:Int)=(2:Int)):=by simpa using hg36
 refine rV Tryz.results66 rfl ?_
 refine ba ?_
 unfold na
 (simp_all; done)
theorem Jr (w:List GVal) (hw:bw w (fun y=>FitVal y)) (l:List PVar) (hl:bw l (fun y=>True)):PRet Tryz.prog 29 [.tree 3 (w.map gvA),.tree 5 (l.map vA)] (fun r=>∃ b:Bool,r=.v (.bool b)/\(b=true↔Bel l w)):=by
 refine PRet.of_vc ao [] [] Tryz.func29 rfl Tryz.ntmps29 rfl (by kernel_rfl) (LenG.of ?_)
 refine LenG.of (cB (fun hc11=>?_) (fun hc11=>?_))
 ·have hq11:¬ (((w.length:Nat):Int)=((l.length:Nat):Int)):=by simpa using hc11
  have hlen:¬ w.length=l.length:=by have h:=hc11; simp at h; omega
  exact rV Tryz.results29 rfl ⟨_,rfl,fun h=>absurd h Bool.false_ne_true,fun h=>absurd h.1 hlen⟩
 have hq11:((w.length:Nat):Int)=((l.length:Nat):Int):=by simpa using hc11
 have hlen:w.length=l.length:=by have h:=hc11; simp at h; omega
 refine LenG.of (LpG.on (fun k0:Nat=>(⟨fL [(1,.tree 5 (l.map vA)),(12,.tree 3 (w.map gvA)),(13,.v (.int .i64 ((w.length:Nat):Int))),(14,.v (.int .i64 ((k0:Nat):Int)))],bl [],0⟩:St)) (fun k0=>(w.length - k0)) (fun k0=>(k0<=w.length/\∀ j (hl:j < w.length),j < k0->∀ h2:j < l.length,na w[j] l[j]=true)) 0 (cO (.cons rfl rfl (.cons rfl rfl (.cons rfl rfl (.cons rfl rfl .nil)))) .nil) ⟨Nat.zero_le _,fun j _ h=>absurd h (Nat.not_lt_zero j)⟩ ?_)
 rintro k0 hinv
 have hgr_k0:w.length<=140737488355328:=hw.1
 obtain ⟨hle_k0,hj_k0⟩:=hinv
 refine cL (fun hlt15=>?_) (fun hge15=>?_)
 ·refine IdxG.of (by assumption) (IdxG.of (by omega) ?_)
  refine ArgG.mk (Q8 (w[k0]) (hw.2 _ (Ze _)) (l[k0])) rfl ?_
  rintro _ rfl
  refine ⟨by kernel_rfl,cB (fun hc25=>?_) (fun hc25=>?_)⟩
  ·exact rV Tryz.results29 rfl ⟨_,rfl,fun h=>absurd h Bool.false_ne_true,fun h=>by have h1:=h.2 k0 (by omega) (by omega); simp [h1] at hc25⟩
  refine ⟨by omega,⟨(k0+1),by omega,(cO (.cons rfl rfl (.cons rfl rfl (.cons rfl rfl (.cons rfl rfl .nil)))) .nil),?_⟩⟩
  refine ⟨by omega,fun j hl h=>?_⟩
  rcases Nat.lt_succ_iff_lt_or_eq.1 h with h | rfl
  ·exact hj_k0 j hl h
  intro h2; exact nb hc25
 exact rV Tryz.results29 rfl ⟨_,rfl,fun _=>⟨hlen,fun j h1 h2=>hj_k0 j h1 (by omega) h2⟩,fun _=>rfl⟩
structure PAcc where
 w:Bool
 p:PPred
abbrev acA (a:PAcc):List AV:=.v (.bool a.w) :: prA a.p
theorem dn:RowF acA 5:=⟨fun _=>rfl,fun _=>rfl,fun _ _=>rfl,fun _ _=>rfl,fun _ _=>rfl,fun _=>rfl⟩
theorem Vd:(Tryz.prog.info? 65).map (·.bytes)=some 72:=by kernel_rfl
theorem S7:aa Tryz.prog 65=some 5:=by kernel_rfl
theorem Sx:ax Tryz.prog 65=some (.agg #[.bool false,.int .i64 0,.int .i64 0,.slice none 0 0,.slice none 0 0]):=by kernel_rfl
theorem D6 {P:Program} {τ:Nat->AV} {η:au} {d:Option Tmp} {ty:TypeId} {pos:String} {af:Array Edge} {g:Option (Nat×Bool)} {t t':Nat} {x y:Operand} {a n:Int} (hx:aev τ x=.v (.int .i64 a)) (hy:aev τ y=.v (.int .i64 n)) (ha:a=1) (h1:-9223372036854775808<=n) (h2:n<=9223372036854775807) :
  LOp P ⟨d,.binOp .mul t x y t',ty,pos,af,g⟩ τ η [] [] (.v (.int .i64 n)):=by
 subst ha
 have:=dj (P:=P) (τ:=τ) (η:=η) (d:=d) (ty:=ty) (pos:=pos) (af:=af) (g:=g) (t:=t) (t':=t') hx hy (by omega) (by omega)
 rwa [Int.one_mul] at this
/-- A clause of equalities over n columns. -/
structure HC (n:Nat) (c:PCl):Prop where
 nul:∀ v∈c.nul,0<=v/\v < n
 nn:∀ v∈c.nn,0<=v/\v < n
 aux:c.aux=[]
 same:c.same=[]
 diff:c.diff=[]
 ints:∀ k∈c.ints,∃ v m:Int,k=⟨⟨-m,[⟨v,1⟩]⟩,true⟩/\(0<=v/\v < n)/\-2147483648<=m/\m<=2147483647
 tests:∀ t∈c.tests,t.kd=0/\t.ng=false/\0<=t.v/\t.v < n
 l1:c.nul.length<=1000
 l2:c.nn.length<=1000
 l3:c.ints.length<=1000
 l4:c.tests.length<=1000
/-- The numbers of a row are such as columns hold. -/
def Sv (w:List GVal):Prop:=∀ j (h:j < w.length),w[j].kind_=1->-2147483648<=w[j].int_/\w[j].int_<=2147483647
theorem M2 {l:List PVar} {w:List GVal} (h:Bel l w) (hl:LOk l):Sv w:=fun j hj h1=>Bz h hl hj h1
def Xz (w:List GVal) (v:Int):Prop:=(a8 w v).kind_=0
def nnH (w:List GVal) (v:Int):Prop:=¬ (a8 w v).kind_=0
def X6 (w:List GVal) (k:PCon):Prop:=∃ v m:Int,k=⟨⟨-m,[⟨v,1⟩]⟩,true⟩/\(a8 w v).kind_=1/\(a8 w v).int_=m
def tesH (w:List GVal) (t:PTest):Prop:=(a8 w t.v).kind_=2/\(a8 w t.v).text_=t.s
structure HoldsS (c:PCl) (w:List GVal):Prop where
 nul:∀ v∈c.nul,Xz w v
 nn:∀ v∈c.nn,nnH w v
 ints:∀ k∈c.ints,X6 w k
 tests:∀ t∈c.tests,tesH w t
theorem me {w:List GVal} {j:Nat} {v:Int} (hv:v=((j:Nat):Int)) (hj:j < w.length):a8 w v=w[j]:=by subst hv; exact ia hj
theorem Qw {w:List GVal} {k:PCon} {v m:Int} {j:Nat} (hk:k=⟨⟨-m,[⟨v,1⟩]⟩,true⟩) (hv:v=((j:Nat):Int)) (hj:j < w.length) (hn:¬ (w[j].kind_=1/\w[j].int_=m)):¬ X6 w k:=by
 rintro ⟨v',m',e,h1,h2⟩
 rw [hk] at e
 simp only [PCon.mk.injEq,PLin.mk.injEq,List.cons.injEq,PCoef.mk.injEq,and_true] at e
 obtain ⟨e1,e2⟩:=e
 subst e2
 rw [me hv hj] at h1 h2
 exact hn ⟨h1,by omega⟩
theorem Y4:co Tryz.prog 31=true:=by kernel_rfl
theorem Ew (w:List GVal) (hw:bw w (fun y=>FitVal y)) (v:Int) (j:Nat) (hv:v=((j:Nat):Int)) (hj:j < w.length):PRet Tryz.prog 119 [.v (.int .i64 v),.tree 3 (w.map gvA),.v (.slice none 0 0)] (fun r=>∃ (x:Int) (b:Bool),r=.tup [.v (.int .i64 x),.v (.bool b)]/\x=w[j].int_/\(b=true↔w[j].kind_=1)):=by
 refine PRet.of_vc ao [21,26] [] Tryz.func119 rfl Tryz.ntmps119 rfl (by kernel_rfl) ?_
 refine LenG.of (cB (fun hc11=>?_) (fun hc11=>?_))
 ·exfalso; have:=of_decide_eq_true hc11; omega
 have hq11:¬ ((v:Int)≥((w.length:Nat):Int)):=of_decide_eq_false hc11
 refine OpG.lk (ah Tryz.underlying26 vt rfl rfl hv hj) ?_
 refine OpG.lk (ah Tryz.underlying26 vt rfl rfl hv hj) ?_
 refine ⟨by kernel_rfl,?_⟩
 refine ⟨.inr rfl,_,ab Tryz.results119 (O3.tmp ⟨[],FzP.pure rfl⟩) (O3.tmp ⟨[],FzP.pure rfl⟩),?_⟩
 exact ⟨_,_,rfl,rfl,by simp⟩
theorem Fd (w:List GVal) (hw:bw w (fun y=>FitVal y)) (v m:Int) (j:Nat) (hv:v=((j:Nat):Int)) (hj:j < w.length) (hm:-2147483648<=m/\m<=2147483647) (hri:Sv w):PRet Tryz.prog 69 [.agg (liA (⟨-m,[(⟨v,1⟩:PCoef)]⟩:PLin)),.tree 3 (w.map gvA),.v (.slice none 0 0)] (fun r=>∃ (x:Int) (b:Bool),r=.tup [.v (.int .i64 x),.v (.bool b)]/\(b=true->w[j].kind_=1/\x=w[j].int_ - m)/\(b=false->¬ w[j].kind_=1)):=by
 have e1:(⟨-m,[⟨v,1⟩]⟩:PLin).k=-m:=rfl
 refine PRet.of_vc ao [36] [] Tryz.func69 rfl Tryz.ntmps69 rfl (by kernel_rfl) (LenG.of ?_)
 refine lf (ULp.step ?_)
 refine cT (IdxG.of (j:=0) (by exact Nat.zero_lt_one) ?_)
 refine ArgG.mk (Ew w hw v j hv hj) rfl ?_
 rintro _ ⟨x0,b0,rfl,hx0,hb0⟩
 refine cB (fun hc31=>?_) (fun hc31=>?_)
 ·exact ⟨.inr rfl,_,ab Tryz.results69 (O3.tmp ⟨[],FzP.pure rfl⟩) (O3.tmp ⟨[],FzP.pure rfl⟩),⟨_,_,rfl,fun h=>absurd h Bool.false_ne_true,fun _ h=>by rw [hb0.2 h] at hc31; simp at hc31⟩⟩
 have hbt:=nb hc31
 have hk1:=hb0.1 hbt
 have hrw:=hri j hj hk1
 refine OpG.lk (D6 rfl rfl rfl (by omega) (by omega)) ⟨by omega,⟨by omega,?_⟩⟩
 refine ULp.step (cF ?_)
 exact ⟨.inr rfl,_,ab Tryz.results69 (O3.tmp ⟨[],FzP.pure rfl⟩) (O3.tmp ⟨[],FzP.pure rfl⟩),⟨_,_,rfl,fun _=>⟨hk1,by omega⟩,fun h=>absurd h.symm Bool.false_ne_true⟩⟩
theorem Ah (c:PCl) (w:List GVal) (hw:bw w (fun y=>FitVal y)) (ha:c.aux=[]):PRet Tryz.prog 68 [.agg (clA c),.tree 3 (w.map gvA)] (fun r=>r=.tup [.v (.slice none 0 0),.v (.bool true)]):=by
 refine PRet.of_vc ao [] [] Tryz.func68 rfl Tryz.ntmps68 rfl (by kernel_rfl) (LenG.of ?_)
 refine LpG.exit (cB (fun hc16=>?_) (fun hc16=>?_))
 ·exfalso; have:=of_decide_eq_true hc16; rw [ha] at this; exact absurd this (by decide)
 have hq16:¬ ((0:Int) < ((c.aux.length:Nat):Int)):=of_decide_eq_false hc16
 refine ⟨.inr rfl,_,ab Tryz.results68 (O3.tmp ⟨[],FzP.pure rfl⟩) (O3.tmp ⟨[],FzP.pure rfl⟩),?_⟩
 rfl
theorem Hf (t:PTest) (s:ByteArray) (hs:lw s) (hk:t.kd=0):PRet Tryz.prog 70 [.agg (teA t),.v (.string s)] (fun r=>r=.v (.bool (s.toList==t.s.toList))):=by
 refine PRet.of_vc ao [] [] Tryz.func70 rfl Tryz.ntmps70 rfl (by kernel_rfl) (cB (fun hc7=>?_) (fun hc7=>?_))
 ·have hq7:(t.kd:Int)=(0:Int):=by simpa using hc7
  exact rV Tryz.results70 rfl rfl
 exfalso; rw [hk] at hc7; exact absurd hc7 (by decide)
theorem Mc (c:PCl) (w:List GVal) (hw:bw w (fun y=>FitVal y)) (hc:HC w.length c) (hri:Sv w):PRet Tryz.prog 32 [.agg (clA c),.tree 3 (w.map gvA)] (fun r=>∃ b:Bool,r=.v (.bool b)/\(b=true↔HoldsS c w)):=by
 have hc1:=hc.l1
 have hc2:=hc.l2
 have hc3:=hc.l3
 have hc4:=hc.l4
 refine PRet.of_vc ao [30,44,97,106] [] Tryz.func32 rfl Tryz.ntmps32 rfl (by kernel_rfl) ?_
 refine LenG.of (LpG.on (fun k0:Nat=>(⟨fL [(1,.tree 3 (w.map gvA)),(2,.ptr 0 0 0),(22,.tree 1 (c.nul.map iA)),(23,.v (.int .i64 ((c.nul.length:Nat):Int))),(24,.v (.int .i64 ((k0:Nat):Int)))],bl [(0,⟨0,clA c,0,false⟩)],1⟩:St)) (fun k0=>(c.nul.length - k0)) (fun k0=>(k0<=c.nul.length/\∀ j (hl:j < c.nul.length),j < k0->Xz w c.nul[j])) 0 (cO (.cons rfl rfl (.cons rfl rfl (.cons rfl rfl (.cons rfl rfl (.cons rfl rfl .nil))))) (.cons rfl rfl rfl .nil)) ⟨Nat.zero_le _,fun j _ h=>absurd h (Nat.not_lt_zero j)⟩ ?_)
 rintro k0 hinv
 obtain ⟨hle_k0,hj_k0⟩:=hinv
 refine cL (fun hlt25=>?_) (fun hge25=>?_)
 ·obtain ⟨j1,hj1,hj1l⟩:∃ j:Nat,c.nul[k0]=((j:Nat):Int)/\j < w.length:=⟨(c.nul[k0]).toNat,by have:=hc.nul _ (Ze hlt25); omega,by have:=hc.nul _ (Ze hlt25); omega⟩
  refine IdxG.of (by assumption) (OpG.lk (ah Tryz.underlying26 vt rfl rfl hj1 hj1l) ?_)
  refine cB (fun hc33=>?_) (fun hc33=>?_)
  ·have hq33:¬ ((w[j1].kind_:Int)=(0:Int)):=by simpa using hc33
   exact rV Tryz.results32 rfl ⟨_,rfl,fun h=>absurd h Bool.false_ne_true,fun h=>by have h1:=h.nul _ (Ze hlt25); unfold Xz at h1; rw [me hj1 hj1l] at h1; exact absurd h1 hq33⟩
  have hq33:(w[j1].kind_:Int)=(0:Int):=by simpa using hc33
  refine ⟨by omega,?_⟩
  refine ⟨(k0+1),by omega,(cO (.cons rfl rfl (.cons rfl rfl (.cons rfl rfl (.cons rfl rfl (.cons rfl rfl .nil))))) (.cons rfl rfl rfl .nil)),?_⟩
  refine ⟨by omega,fun j hl h=>?_⟩
  rcases Nat.lt_succ_iff_lt_or_eq.1 h with h | rfl
  ·exact hj_k0 j hl h
  show (a8 w _).kind_=0; rw [me hj1 hj1l]; simpa using hc33
 refine LenG.of (LpG.on (fun k2:Nat=>(⟨fL [(1,.tree 3 (w.map gvA)),(2,.ptr 0 0 0),(36,.tree 1 (c.nn.map iA)),(37,.v (.int .i64 ((c.nn.length:Nat):Int))),(38,.v (.int .i64 ((k2:Nat):Int)))],bl [(0,⟨0,clA c,0,false⟩)],1⟩:St)) (fun k2=>(c.nn.length - k2)) (fun k2=>(k2<=c.nn.length/\∀ j (hl:j < c.nn.length),j < k2->nnH w c.nn[j])) 0 (cO (.cons rfl rfl (.cons rfl rfl (.cons rfl rfl (.cons rfl rfl (.cons rfl rfl .nil))))) (.cons rfl rfl rfl .nil)) ⟨Nat.zero_le _,fun j _ h=>absurd h (Nat.not_lt_zero j)⟩ ?_)
 rintro k2 hinv
 obtain ⟨hle_k2,hj_k2⟩:=hinv
 refine cL (fun hlt39=>?_) (fun hge39=>?_)
 ·obtain ⟨j1,hj1,hj1l⟩:∃ j:Nat,c.nn[k2]=((j:Nat):Int)/\j < w.length:=⟨(c.nn[k2]).toNat,by have:=hc.nn _ (Ze hlt39); omega,by have:=hc.nn _ (Ze hlt39); omega⟩
  refine IdxG.of (by assumption) (OpG.lk (ah Tryz.underlying26 vt rfl rfl hj1 hj1l) ?_)
  refine cB (fun hc47=>?_) (fun hc47=>?_)
  ·have hq47:(w[j1].kind_:Int)=(0:Int):=by simpa using hc47
   exact rV Tryz.results32 rfl ⟨_,rfl,fun h=>absurd h Bool.false_ne_true,fun h=>by have h1:=h.nn _ (Ze hlt39); unfold nnH at h1; rw [me hj1 hj1l] at h1; exact absurd hq47 h1⟩
  have hq47:¬ ((w[j1].kind_:Int)=(0:Int)):=by simpa using hc47
  refine ⟨by omega,?_⟩
  refine ⟨(k2+1),by omega,(cO (.cons rfl rfl (.cons rfl rfl (.cons rfl rfl (.cons rfl rfl (.cons rfl rfl .nil))))) (.cons rfl rfl rfl .nil)),?_⟩
  refine ⟨by omega,fun j hl h=>?_⟩
  rcases Nat.lt_succ_iff_lt_or_eq.1 h with h | rfl
  ·exact hj_k2 j hl h
  show ¬ (a8 w _).kind_=0; rw [me hj1 hj1l]; simpa using hc47
 refine ArgG.mk (Ah c w hw hc.aux) rfl ?_
 rintro _ rfl
 refine cB (fun hc56=>?_) (fun hc56=>?_)
 ·exact absurd hc56 (by decide)
 refine LenG.of (LpG.on (fun k4:Nat=>(⟨fL [(1,.tree 3 (w.map gvA)),(2,.ptr 0 0 0),(9,.v (.slice none 0 0)),(58,.tree 3 (c.ints.map cnA)),(59,.v (.int .i64 ((c.ints.length:Nat):Int))),(60,.v (.int .i64 ((k4:Nat):Int)))],bl [(0,⟨0,clA c,0,false⟩)],1⟩:St)) (fun k4=>(c.ints.length - k4)) (fun k4=>(k4<=c.ints.length/\∀ j (hl:j < c.ints.length),j < k4->X6 w c.ints[j])) 0 (cO (.cons rfl rfl (.cons rfl rfl (.cons rfl rfl (.cons rfl rfl (.cons rfl rfl (.cons rfl rfl .nil)))))) (.cons rfl rfl rfl .nil)) ⟨Nat.zero_le _,fun j _ h=>absurd h (Nat.not_lt_zero j)⟩ ?_)
 rintro k4 hinv
 obtain ⟨hle_k4,hj_k4⟩:=hinv
 refine cL (fun hlt61=>?_) (fun hge61=>?_)
 ·obtain ⟨v1,m1,hk1,hv1,hm1⟩:=hc.ints _ (Ze hlt61)
  obtain ⟨j1,hj1,hj1l⟩:∃ j:Nat,v1=((j:Nat):Int)/\j < w.length:=⟨(v1).toNat,by have:=hv1; omega,by have:=hv1; omega⟩
  refine IdxG.of (by assumption) (ArgG.mk ((show PRet Tryz.prog 69 [.agg (liA c.ints[k4].l),.tree 3 (w.map gvA),.v (.slice none 0 0)] _ by rw [hk1]; exact Fd w hw v1 m1 j1 hj1 hj1l hm1 hri)) rfl ?_)
  rintro _ ⟨x1,b1,rfl,hbt1,hbf1⟩
  refine cB (fun hg74=>?_) (fun hg74=>?_)
  ·refine cT (cT ?_)
   exact rV Tryz.results32 rfl ⟨_,rfl,fun h=>absurd h Bool.false_ne_true,fun h=>absurd (h.ints _ (Ze hlt61)) (Qw hk1 hj1 hj1l (fun hh=>hbf1 (by simpa using hg74) hh.1))⟩
  refine cD (fun hq78=>?_) (fun hq78=>?_)
  ·exact cT (rV Tryz.results32 rfl ⟨_,rfl,fun h=>absurd h Bool.false_ne_true,fun h=>absurd (h.ints _ (Ze hlt61)) (Qw hk1 hj1 hj1l (fun hh=>by have:=(hbt1 (nb hg74)).2; omega))⟩)
  refine cB (fun hg81=>?_) (fun hg81=>?_)
  ·refine cN (fun hq85=>?_) (fun hq85=>?_)
   ·exact rV Tryz.results32 rfl ⟨_,rfl,fun h=>absurd h Bool.false_ne_true,fun h=>absurd (h.ints _ (Ze hlt61)) (Qw hk1 hj1 hj1l (fun hh=>by have:=(hbt1 (nb hg74)).2; omega))⟩
   refine ⟨by omega,?_⟩
   refine ⟨(k4+1),by omega,(cO (.cons rfl rfl (.cons rfl rfl (.cons rfl rfl (.cons rfl rfl (.cons rfl rfl (.cons rfl rfl .nil)))))) (.cons rfl rfl rfl .nil)),?_⟩
   refine ⟨by omega,fun j hl h=>?_⟩
   rcases Nat.lt_succ_iff_lt_or_eq.1 h with h | rfl
   ·exact hj_k4 j hl h
   exact ⟨v1,m1,hk1,by rw [me hj1 hj1l]; exact (hbt1 (nb hg74)).1,by rw [me hj1 hj1l]; have:=(hbt1 (nb hg74)).2; omega⟩
  exfalso; rw [hk1] at hg81; exact Bool.noConfusion hg81
 refine LenG.of (LpG.on (fun k6:Nat=>(⟨fL [(1,.tree 3 (w.map gvA)),(2,.ptr 0 0 0),(88,.tree 4 (c.tests.map teA)),(89,.v (.int .i64 ((c.tests.length:Nat):Int))),(90,.v (.int .i64 ((k6:Nat):Int)))],bl [(0,⟨0,clA c,0,false⟩)],1⟩:St)) (fun k6=>(c.tests.length - k6)) (fun k6=>(k6<=c.tests.length/\∀ j (hl:j < c.tests.length),j < k6->tesH w c.tests[j])) 0 (cO (.cons rfl rfl (.cons rfl rfl (.cons rfl rfl (.cons rfl rfl (.cons rfl rfl .nil))))) (.cons rfl rfl rfl .nil)) ⟨Nat.zero_le _,fun j _ h=>absurd h (Nat.not_lt_zero j)⟩ ?_)
 rintro k6 hinv
 obtain ⟨hle_k6,hj_k6⟩:=hinv
 refine cL (fun hlt91=>?_) (fun hge91=>?_)
 ·obtain ⟨ht1,ht2,ht3⟩:=hc.tests _ (Ze hlt91)
  obtain ⟨j1,hj1,hj1l⟩:∃ j:Nat,c.tests[k6].v=((j:Nat):Int)/\j < w.length:=⟨(c.tests[k6].v).toNat,by have:=ht3; omega,by have:=ht3; omega⟩
  refine IdxG.of (by assumption) (OpG.lk (ah Tryz.underlying26 vt rfl rfl hj1 hj1l) ?_)
  refine cB (fun hg101=>?_) (fun hg101=>?_)
  ·have hq101:¬ ((w[j1].kind_:Int)=(2:Int)):=by simpa using hg101
   refine ⟨by kernel_rfl,?_⟩
   exact cT (rV Tryz.results32 rfl ⟨_,rfl,fun h=>absurd h Bool.false_ne_true,fun h=>by have h1:=(h.tests _ (Ze hlt91)).1; rw [me hj1 hj1l] at h1; exact absurd h1 hq101⟩)
  have hq101:(w[j1].kind_:Int)=(2:Int):=by simpa using hg101
  refine OpG.lk (ah Tryz.underlying26 vt rfl rfl hj1 hj1l) ?_
  refine ArgG.mk (Hf c.tests[k6] w[j1].text_ (hw.2 _ (Ze hj1l)).text_ ht1) rfl ?_
  rintro _ rfl
  refine ⟨by kernel_rfl,?_⟩
  refine cB (fun hc113=>?_) (fun hc113=>?_)
  ·exact rV Tryz.results32 rfl ⟨_,rfl,fun h=>absurd h Bool.false_ne_true,fun h=>by have h1:=(h.tests _ (Ze hlt91)).2; rw [me hj1 hj1l] at h1; have h2:=hc113; rw [ht2,h1] at h2; simp at h2⟩
  refine ⟨by omega,?_⟩
  refine ⟨(k6+1),by omega,(cO (.cons rfl rfl (.cons rfl rfl (.cons rfl rfl (.cons rfl rfl (.cons rfl rfl .nil))))) (.cons rfl rfl rfl .nil)),?_⟩
  refine ⟨by omega,fun j hl h=>?_⟩
  rcases Nat.lt_succ_iff_lt_or_eq.1 h with h | rfl
  ·exact hj_k6 j hl h
  refine ⟨by rw [me hj1 hj1l]; simpa using hg101,?_⟩
  rw [me hj1 hj1l]
  have h:=hc113
  rw [ht2] at h
  simp at h
  exact toList_inj h
 refine LenG.of (LpG.exit ?_)
 refine cB (fun hc119=>?_) (fun hc119=>?_)
 ·exfalso; have:=of_decide_eq_true hc119; rw [hc.same] at this; exact absurd this (by decide)
 have hq119:¬ ((0:Int) < ((c.same.length:Nat):Int)):=of_decide_eq_false hc119
 refine LenG.of (LpG.exit ?_)
 refine cB (fun hc158=>?_) (fun hc158=>?_)
 ·exfalso; have:=of_decide_eq_true hc158; rw [hc.diff] at this; exact absurd this (by decide)
 have hq158:¬ ((0:Int) < ((c.diff.length:Nat):Int)):=of_decide_eq_false hc158
 exact rV Tryz.results32 rfl ⟨_,rfl,fun _=>⟨fun v hv=>by obtain ⟨j,hj,rfl⟩:=List.getElem_of_mem hv; exact hj_k0 j hj (by omega),fun v hv=>by obtain ⟨j,hj,rfl⟩:=List.getElem_of_mem hv; exact hj_k2 j hj (by omega),fun v hv=>by obtain ⟨j,hj,rfl⟩:=List.getElem_of_mem hv; exact hj_k4 j hj (by omega),fun v hv=>by obtain ⟨j,hj,rfl⟩:=List.getElem_of_mem hv; exact hj_k6 j hj (by omega)⟩,fun _=>rfl⟩
theorem Es (c:PCl) (w:List GVal) (hw:bw w (fun y=>FitVal y)) (hc:HC w.length c) (hri:Sv w):PRet Tryz.prog 31 [.agg (clA c),.tp [.tree 3 (w.map gvA)] 0] (fun r=>∃ b:Bool,r=.v (.bool b)/\(b=true↔HoldsS c w)):=by
 refine PRet.of_vc ao [] [] Tryz.func31 rfl Tryz.ntmps31 rfl (by kernel_rfl) (ArgG.mk (Mc c w hw hc hri) rfl ?_)
 rintro _ ⟨b0,rfl,hb0⟩
 exact rV Tryz.results31 rfl ⟨_,rfl,hb0⟩
theorem Mb (l:List PCl) (hl:bw l (fun y=>True)) (w:List GVal) (hw:bw w (fun y=>FitVal y)) (hcl:∀ c∈l,HC w.length c) (hri:Sv w) (hl1:l.length<=1000):PRet Tryz.prog 67 [.tree 7 (l.map clA),.clo 31 [.tp [.tree 3 (w.map gvA)] 0]] (fun r=>∃ i:Int,r=.v (.int .i64 i)/\(0<=i↔∃ c∈l,HoldsS c w)):=by
 refine PRet.of_vc ao [16] [] Tryz.func67 rfl Tryz.ntmps67 rfl (by kernel_rfl) (LenG.of ?_)
 refine LpG.on (fun k0:Nat=>(⟨fL [(0,.tree 7 (l.map clA)),(1,.clo 31 [.tp [.tree 3 (w.map gvA)] 0]),(7,.v (.int .i64 ((l.length:Nat):Int))),(8,.v (.int .i64 ((k0:Nat):Int)))],bl [],0⟩:St)) (fun k0=>(l.length - k0)) (fun k0=>(k0<=l.length/\∀ j (hl:j < l.length),j < k0->¬ HoldsS l[j] w)) 0 (cO (.cons rfl rfl (.cons rfl rfl (.cons rfl rfl (.cons rfl rfl .nil)))) .nil) ⟨Nat.zero_le _,fun j _ h=>absurd h (Nat.not_lt_zero j)⟩ ?_
 rintro k0 hinv
 have hgr_k0:l.length<=140737488355328:=hl.1
 obtain ⟨hle_k0,hj_k0⟩:=hinv
 refine cL (fun hlt9=>?_) (fun hge9=>?_)
 ·obtain ⟨_,⟨b16,rfl,hb16⟩,hcl16⟩:=Es l[k0] w hw (hcl _ (Ze hlt9)) hri
  refine IdxG.of (by assumption) (OpG.lk (F1 Y4 rfl rfl rfl hcl16) ?_)
  refine cB (fun hc16=>?_) (fun hc16=>?_)
  ·exact rV Tryz.results67 rfl ⟨_,rfl,fun _=>⟨_,Ze hlt9,hb16.1 hc16⟩,fun _=>by omega⟩
  refine ⟨by omega,⟨(k0+1),by omega,(cO (.cons rfl rfl (.cons rfl rfl (.cons rfl rfl (.cons rfl rfl .nil)))) .nil),?_⟩⟩
  refine ⟨by omega,fun j hl h=>?_⟩
  rcases Nat.lt_succ_iff_lt_or_eq.1 h with h | rfl
  ·exact hj_k0 j hl h
  exact fun h=>by rw [hb16.2 h] at hc16; cases hc16
 exact rV Tryz.results67 rfl ⟨_,rfl,fun h=>absurd h (by decide),fun ⟨c,hc,h⟩=>by obtain ⟨j,hj,rfl⟩:=List.getElem_of_mem hc; exact absurd h (hj_k0 j hj (by omega))⟩
theorem Bs (l:List PCl) (hl:bw l (fun y=>True)) (w:List GVal) (hw:bw w (fun y=>FitVal y)) (hcl:∀ c∈l,HC w.length c) (hri:Sv w) (hl1:l.length<=1000):PRet Tryz.prog 30 [.tree 7 (l.map clA),.clo 31 [.tp [.tree 3 (w.map gvA)] 0]] (fun r=>∃ b:Bool,r=.v (.bool b)/\(b=true↔∃ c∈l,HoldsS c w)):=by
 refine PRet.of_vc ao [] [] Tryz.func30 rfl Tryz.ntmps30 rfl (by kernel_rfl) (ArgG.mk (Mb l hl w hw hcl hri hl1) rfl ?_)
 rintro _ ⟨i0,rfl,hi0⟩
 exact rV Tryz.results30 rfl ⟨_,rfl,by rw [<- hi0]; simp⟩
theorem Hy (p:PPred) (w:List GVal) (hw:bw w (fun y=>FitVal y)) (hcols:p.cols=((p.vars.length:Nat):Int)) (hvf:bw p.vars (fun _=>True)) (hlk:LOk p.vars) (hpc:∀ c∈p.cls,HC p.vars.length c) (hp1:p.cls.length<=1000):PRet Tryz.prog 11 [.agg (prA p),.tree 3 (w.map gvA)] (fun r=>∃ b:Bool,r=.v (.bool b)/\(b=true↔Bel p.vars w/\∃ c∈p.cls,HoldsS c w)):=by
 refine PRet.of_vc ao [12,25] [5] Tryz.func11 rfl Tryz.ntmps11 rfl (by kernel_rfl) (OpG.lk (Fp (n:=p.vars.length) Tryz.underlying52 Nq rfl rfl hcols (Nat.le_refl _)) ?_)
 refine ArgG.mk (Jr w hw (p.vars.take p.vars.length) (by rw [List.take_length]; exact hvf)) rfl ?_
 rintro _ ⟨b0,rfl,hb0⟩
 refine cB (fun hc16=>?_) (fun hc16=>?_)
 ·exact rV Tryz.results11 rfl ⟨_,rfl,fun h=>absurd h Bool.false_ne_true,fun h=>by have h1:=hb0.2 (by rw [List.take_length]; exact h.1); rw [h1] at hc16; simp at hc16⟩
 refine LenG.of (cB (fun hc22=>?_) (fun hc22=>?_))
 ·have hq22:((p.vars.length:Nat):Int)=(p.cols:Int):=by simpa using hc22
  refine RegG.via (fun _ h=>fg [1] 3 (.tp [.tree 3 (w.map gvA)] 0) (FzP.ptr (b:=⟨0,[.tree 3 (w.map gvA)],0,false⟩) (Zj.2 rfl) rfl rfl rfl rfl (fun i h1 h2=>match i,h1 with | 0,_=>FzP.pure rfl)) rfl h) (cr ?_)
  refine OpG.lk (LOp.makeFunc) (ArgG.mk (Bs p.cls ⟨by have:=hp1; omega,fun _ _=>trivial⟩ w hw (fun c h=>by rw [hb0.1 (nb hc16) |>.1]; rw [List.take_length]; exact hpc c h) (M2 (hb0.1 (nb hc16)) (by rw [List.take_length]; exact hlk)) hp1) rfl ?_)
  rintro _ ⟨b1,rfl,hb1⟩
  refine rV Tryz.results11 rfl ?_
  have hbel:=hb0.1 (nb hc16)
  rw [List.take_length] at hbel
  exact ⟨_,rfl,fun h=>⟨hbel,hb1.1 h⟩,fun h=>hb1.2 h.2⟩
 exfalso; rw [hcols] at hc22; simp at hc22
section
variable {β:Type} {f:GVal->Int->List β} {w w':List GVal} {l:List PVar}
end
theorem n1 (v:GVal) (i:Int):(nOf v i).length<=1:=by unfold nOf; split <;> simp
theorem m1 (v:GVal) (i:Int):(mOf v i).length<=1:=by unfold mOf; split <;> simp
theorem i1 (v:GVal) (i:Int):(iOf v i).length<=1:=by unfold iOf; split; simp; split <;> simp
theorem t1 (v:GVal) (i:Int):(tOf v i).length<=1:=by unfold tOf; split; simp; split <;> simp
/-- An ascending list of numbers below n. -/
structure AscL (L:List Int) (n:Int):Prop where
 rng:∀ x∈L,0<=x/\x < n
 inc:∀ i (h:i+1 < L.length),L[i] < L[i+1]
theorem Sa {L:List Int} {n:Int} (h:AscL L n):O0 L n=true:=by
 unfold O0
 rw [ld]
 intro j hj
 unfold Jv
 rw [bu hj]
 have h1:=h.rng L[j] (Ze _)
 simp only [Bool.not_eq_true',Bool.or_eq_false_iff,Bool.and_eq_false_iff,decide_eq_false_iff_not]
 refine ⟨⟨by omega,by omega⟩,?_⟩
 by_cases e:0 < j
 ·right
  obtain ⟨i,rfl⟩:∃ i,j=i+1:=⟨j - 1,by omega⟩
  rw [Nat.add_sub_cancel,bu (by omega)]
  have:=h.inc i hj
  omega
 left; omega
theorem Q1 {L:List Int} {v:Int} (h:v∈L):Ii L v=true:=by
 unfold Ii
 cases hb:rq L.length (Sq L v) with
 | false=>rfl
 | true=>
  rw [ld] at hb
  obtain ⟨j,hj,rfl⟩:=List.getElem_of_mem h
  have:=hb j hj
  unfold Sq at this
  rw [bu hj] at this
  simp at this
/-- What is known of a value that fits a variable. -/
theorem um {v:GVal} {x:PVar} (h:na v x=true):(v.kind_=0/\v.int_=0/\ey v.text_=true/\x.nl=true)\/(v.kind_=1/\ey v.text_=true/\x.t=1/\x.lo<=v.int_/\v.int_<=x.hi)\/(v.kind_=2/\v.int_=0/\Kf v.text_=true/\v.text_.size<=16/\x.t=2):=by
 unfold na at h
 split at h
 ·rename_i hv
  unfold vo at hv
  split at hv
  ·rename_i h0
   rw [if_pos h0] at h
   simp at hv
   exact .inl ⟨h0,hv.1,hv.2,h⟩
  rename_i h0
  rw [if_neg h0] at h
  split at hv
  ·rename_i h1
   rw [if_pos h1] at h
   simp at h
   exact .inr (.inl ⟨h1,hv,h.1.1,by omega,by omega⟩)
  rename_i h1
  rw [if_neg h1] at h
  split at hv
  ·rename_i h2
   simp at h hv
   exact .inr (.inr ⟨h2,hv.1.1,hv.1.2,by omega,h.1⟩)
  cases hv
 cases h
theorem Nm {a b:ByteArray} (h1:ey a=true) (h2:ey b=true):a=b:=by
 unfold ey at h1 h2
 rw [beq_iff_eq] at h1 h2
 exact toList_inj (h1.trans h2.symm)
section
variable {l:List PVar} {w w':List GVal}
theorem Js (h:Bel l w) {i:Nat} (hi:i < w.length):na w[i] (l[i]'(by have:=h.1; omega))=true:=h.2 i hi _
theorem O2:cy 1=1:=rfl
end
theorem Pc {c:GCol} (h:yk c):Aw (wz c)=true:=by
 unfold yk at h
 unfold Aw wz
 rcases h with h | h
 ·simp only [h.1,if_true]; simp; omega
 simp only [h.1]; simp; omega
theorem TabS.vars {t:GTab} (h:TabS t):∀ x∈ap t,Aw x=true:=fun x hx=>by
 obtain ⟨c,hc,rfl⟩:=List.mem_map.1 hx
 exact Pc (h.col c hc)
theorem ji (t:GTab):(ap t).length=t.columns_.length:=by simp [ap]
theorem Mj (a:PAcc) (s:List GTab) (hs:bw s (fun y=>FitTab y)) (t:Int) (wr:Bool) (j:Nat) (ht:t=((j:Nat):Int)) (hj:j < s.length) (hok:a.p.Ok):PRet Tryz.prog 10 [.agg (acA a),.tree 5 (s.map ef),.v (.int .i64 t),.v (.bool wr)] (fun r=>∃ b:Bool,r=.v (.bool b)/\(b=true↔a.w=wr/\a.p.tab=t/\F6 a.p ((s[j].columns_.length:Nat):Int)=true)):=by
 refine PRet.of_vc ao [25] [] Tryz.func10 rfl Tryz.ntmps10 rfl (by kernel_rfl) ?_
 refine cB (fun hg13=>?_) (fun hg13=>?_)
 ·refine cE (fun hq20=>?_) (fun hq20=>?_)
  ·refine OpG.lk (ah Tryz.underlying23 sy rfl rfl ht hj) ?_
   refine LenG.of (ArgG.mk (PRet.of_call (Xf a.p _ hok)) rfl ?_)
   rintro _ rfl
   refine ⟨by kernel_rfl,?_⟩
   exact rV Tryz.results10 rfl ⟨_,rfl,by simp_all⟩
  refine ⟨by kernel_rfl,?_⟩
  exact rV Tryz.results10 rfl ⟨_,rfl,by simp_all⟩
 exact cF ⟨by kernel_rfl,rV Tryz.results10 rfl ⟨_,rfl,by simp_all⟩⟩
end Go.Proofs.YthpangmpihkniaaGreatDoor
