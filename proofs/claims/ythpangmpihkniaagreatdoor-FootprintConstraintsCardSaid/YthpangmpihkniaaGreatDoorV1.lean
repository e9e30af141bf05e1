/- Texts of the claim. -/
import Derived.IntWalk
import Derived.Test.YthpangmpihkniaaGreatDoorInf
import Derived.Test.YthpangmpihkniaaGreatDoorQ2
namespace Go.Proofs.YthpangmpihkniaaGreatDoor
set_option maxRecDepth 1000000
set_option maxHeartbeats 0
set_option linter.unusedVariables false
set_option linter.unusedSimpArgs false
open Go.RowKit
/-- Does a list hold a number? -/
def Sq (l:List Int) (v:Int) (j:Nat):Bool:=!(l.getD j 0==v)
def Ii (l:List Int) (v:Int):Bool:=!rq l.length (Sq l v)
/-- Does it ascend, from 0 to n - 1? -/
def Jv (l:List Int) (n:Int) (j:Nat):Bool:=!(decide (l.getD j 0 < 0)||decide (l.getD j 0≥n)||(decide (0 < j)&&decide (l.getD (j - 1) 0≥l.getD j 0)))
def O0 (l:List Int) (n:Int):Bool:=rq l.length (Jv l n)
theorem mixed:Tryz.prog.follows .mixedOrders=true:=by kernel_rfl
theorem Q0 (l:List Int) (v:Int) (hl:l.length<=1000):ep Tryz.prog 154 [isA l,.v (.int .i64 v)] (.v (.bool (Ii l v))):=by
 refine PRet.eq (PRet.of_vc ao [] [] Tryz.func154 rfl Tryz.ntmps154 rfl (by kernel_rfl) ?_)
 refine LpG.loop (fun n s=>∃ k:Nat,n=(l.length - k)/\s=⟨fL [(0,isA l),(1,.v (.int .i64 v)),(5,.v (.int .i64 ((k:Nat):Int)))],bl [],0⟩/\(k<=l.length/\∀ j,j < k->Sq l v j=true)) (n:=(l.length - 0)) (s1:=⟨fL [(0,isA l),(1,.v (.int .i64 v)),(5,.v (.int .i64 ((0:Nat):Int)))],bl [],0⟩) (cO (.cons rfl rfl (.cons rfl rfl (.cons rfl rfl .nil))) .nil) ⟨0,rfl,rfl,⟨Nat.zero_le _,fun j h=>absurd h (Nat.not_lt_zero j)⟩⟩ ?_
 rintro n s ⟨k,rfl,rfl,hinv⟩
 obtain ⟨hk,hj⟩:=hinv
 try refine LenG.of ?_
 refine cL (fun hlt=>?_) (fun hge=>?_)
 ·refine IdxG.of (by first | assumption | omega | decide) ?_
  refine cB (fun hc17=>?_) (fun hc17=>?_)
  ·refine rV Tryz.results154 rfl ?_
   refine ba ?_
   unfold Ii
   rw [cp hlt (by simp only [Sq,bu hlt]; simp_all)]
   rfl
  refine ⟨by omega,?_⟩
  refine ⟨(l.length - (k+1)),⟨fL [(0,isA l),(1,.v (.int .i64 v)),(5,.v (.int .i64 (((k+1):Nat):Int)))],bl [],0⟩,by omega,(cO (.cons rfl rfl (.cons rfl rfl (.cons rfl rfl .nil))) .nil),(k+1),rfl,rfl,?_⟩
  refine ⟨by omega,fun j h=>?_⟩
  rcases Nat.lt_succ_iff_lt_or_eq.1 h with h | rfl
  ·exact hj j h
  simp only [Sq,bu hlt]; simp_all
 refine rV Tryz.results154 rfl ?_
 refine ba ?_
 unfold Ii
 rw [ci hk hge hj]
 rfl
theorem Vw (l:List Int) (v:Int) (hl:l.length<=1000):ep Tryz.prog 112 [isA l,.v (.int .i64 v)] (.v (.bool (O0 l v))):=by
 refine PRet.eq (PRet.of_vc ao [31] [] Tryz.func112 rfl Tryz.ntmps112 rfl (by kernel_rfl) ?_)
 refine LpG.loop (fun n s=>∃ k:Nat,n=(l.length - k)/\s=⟨fL [(0,isA l),(1,.v (.int .i64 v)),(5,.v (.int .i64 ((k:Nat):Int)))],bl [],0⟩/\(k<=l.length/\∀ j,j < k->Jv l v j=true)) (n:=(l.length - 0)) (s1:=⟨fL [(0,isA l),(1,.v (.int .i64 v)),(5,.v (.int .i64 ((0:Nat):Int)))],bl [],0⟩) (cO (.cons rfl rfl (.cons rfl rfl (.cons rfl rfl .nil))) .nil) ⟨0,rfl,rfl,⟨Nat.zero_le _,fun j h=>absurd h (Nat.not_lt_zero j)⟩⟩ ?_
 rintro n s ⟨k,rfl,rfl,hinv⟩
 obtain ⟨hk,hj⟩:=hinv
 try refine LenG.of ?_
 refine cL (fun hlt=>?_) (fun hge=>?_)
 ·refine IdxG.of (by first | assumption | omega | decide) ?_
  refine cB (fun hg17=>?_) (fun hg17=>?_)
  ·refine cT ?_
   refine ⟨by kernel_rfl,?_⟩
   refine cT ?_
   refine rV Tryz.results112 rfl ?_
   (refine ba (Eq.symm (cp hlt ?_)); (first | simp only [Jv,bu hlt,ek1] | simp only [Jv,bu hlt]); simp_all)
  refine IdxG.of (by first | assumption | omega | decide) ?_
  refine cB (fun hg25=>?_) (fun hg25=>?_)
  ·refine ⟨by kernel_rfl,?_⟩
   refine cT ?_
   refine rV Tryz.results112 rfl ?_
   (refine ba (Eq.symm (cp hlt ?_)); (first | simp only [Jv,bu hlt,ek1] | simp only [Jv,bu hlt]); simp_all)
  refine cB (fun hg28=>?_) (fun hg28=>?_)
  ·obtain ⟨k',hk'⟩:∃ k',k=k'+1:=⟨k - 1,by simp at hg28; omega⟩
   have ek1:l.getD (k - 1) 0=l[k']'(by omega):=by rw [show k - 1=k' by omega]; exact bu (by omega)
   refine OpG.lk (wt rfl rfl hk' (by omega)) ?_
   refine IdxG.of (by first | assumption | omega | decide) ?_
   refine IdxG.of (by first | assumption | omega | decide) ?_
   refine ⟨by kernel_rfl,?_⟩
   refine cB (fun hc40=>?_) (fun hc40=>?_)
   ·refine rV Tryz.results112 rfl ?_
    (refine ba (Eq.symm (cp hlt ?_)); (first | simp only [Jv,bu hlt,ek1] | simp only [Jv,bu hlt]); simp_all)
   refine ⟨by omega,?_⟩
   refine ⟨(l.length - (k+1)),⟨fL [(0,isA l),(1,.v (.int .i64 v)),(5,.v (.int .i64 (((k+1):Nat):Int)))],bl [],0⟩,by omega,(cO (.cons rfl rfl (.cons rfl rfl (.cons rfl rfl .nil))) .nil),(k+1),rfl,rfl,?_⟩
   refine ⟨by omega,fun j h=>?_⟩
   rcases Nat.lt_succ_iff_lt_or_eq.1 h with h | rfl
   ·exact hj j h
   (simp only [Jv,bu hlt,ek1]); simp_all
  refine ⟨by kernel_rfl,?_⟩
  refine cF ?_
  refine ⟨by omega,?_⟩
  refine ⟨(l.length - (k+1)),⟨fL [(0,isA l),(1,.v (.int .i64 v)),(5,.v (.int .i64 (((k+1):Nat):Int)))],bl [],0⟩,by omega,(cO (.cons rfl rfl (.cons rfl rfl (.cons rfl rfl .nil))) .nil),(k+1),rfl,rfl,?_⟩
  refine ⟨by omega,fun j h=>?_⟩
  rcases Nat.lt_succ_iff_lt_or_eq.1 h with h | rfl
  ·exact hj j h
  (simp only [Jv,bu hlt]); simp_all
 exact rV Tryz.results112 rfl (ba (Eq.symm (ci hk hge hj)))
structure PVar where
 (t lo hi mx:Int) (nl:Bool)
structure PCoef where
 (v n:Int)
structure PLin where
 (k:Int) (cs:List PCoef)
structure PAux where
 (of_:PLin) (by_ tx:Int)
structure PCon where
 (l:PLin) (eq:Bool)
structure PTest where
 (v kd:Int) (ng:Bool) (s:ByteArray)
structure PCl where
 (nul nn:List Int) (aux:List PAux) (ints:List PCon) (tests:List PTest) (same diff:List (Int×Int))
structure PPred where
 (tab cols:Int) (vars:List PVar) (cls:List PCl)
instance:Inhabited PVar:=⟨⟨0,0,0,0,false⟩⟩
instance:Inhabited PCoef:=⟨⟨0,0⟩⟩
instance:Inhabited PAux:=⟨⟨⟨0,[]⟩,0,0⟩⟩
instance:Inhabited PCon:=⟨⟨⟨0,[]⟩,false⟩⟩
instance:Inhabited PTest:=⟨⟨0,0,false,⟨#[]⟩⟩⟩
instance:Inhabited PCl:=⟨⟨[],[],[],[],[],[],[]⟩⟩
abbrev vA (x:PVar):List AV:=[.v (.int .i64 x.t),.v (.int .i64 x.lo),.v (.int .i64 x.hi),.v (.int .i64 x.mx),.v (.bool x.nl)]
abbrev cfA (x:PCoef):List AV:=[.v (.int .i64 x.v),.v (.int .i64 x.n)]
abbrev csA (l:List PCoef):AV:=.tree 2 (l.map cfA)
abbrev liA (x:PLin):List AV:=[.v (.int .i64 x.k),csA x.cs]
abbrev axA (x:PAux):List AV:=[.v (.int .i64 x.of_.k),csA x.of_.cs,.v (.int .i64 x.by_),.v (.int .i64 x.tx)]
abbrev cnA (x:PCon):List AV:=[.v (.int .i64 x.l.k),csA x.l.cs,.v (.bool x.eq)]
abbrev teA (x:PTest):List AV:=[.v (.int .i64 x.v),.v (.int .i64 x.kd),.v (.bool x.ng),.v (.string x.s)]
abbrev paA (x:Int×Int):List AV:=[.v (.int .i64 x.1),.v (.int .i64 x.2)]
abbrev vsA (l:List PVar):AV:=.tree 5 (l.map vA)
abbrev psA (l:List (Int×Int)):AV:=.tree 2 (l.map paA)
abbrev clA (c:PCl):List AV:=[isA c.nul,isA c.nn,.tree 4 (c.aux.map axA),.tree 3 (c.ints.map cnA),.tree 4 (c.tests.map teA),psA c.same,psA c.diff]
abbrev prA (p:PPred):List AV:=[.v (.int .i64 p.tab),.v (.int .i64 p.cols),vsA p.vars,.tree 7 (p.cls.map clA)]
def cy (n:Int):Int:=if n < 0 then -n else n
def wiB (n lo hi:Int):Bool:=decide (n≥lo)&&decide (n<=hi)
/-- Is a variable valid? -/
def Aw (x:PVar):Bool:=if x.t=1 then decide (x.lo≥-2147483648)&&decide (x.lo<=x.hi)&&decide (x.hi<=2147483647)&&x.mx==0
 else x.t==2&&decide (x.mx≥0)&&decide (x.mx<=16)&&x.lo==0&&x.hi==0
def Sr (l:List PVar) (j:Nat):Bool:=Aw (l.getD j default)
def Ss (l:List PVar):Bool:=rq l.length (Sr l)&&decide ((l.length:Int)<=64)
/-- Is a variable a text that is not NULL? -/
def vb (v:Int) (nn:List Int) (l:List PVar):Bool:=decide (v≥0)&&decide (v < l.length)&&(l.getD v.toNat default).t==2&&Ii nn v
def zg (s:ByteArray) (j:Nat):Bool:=!(decide (((bAt s j).toNat:Int) < 32)||decide (((bAt s j).toNat:Int) > 126))
/-- Is a test valid? -/
def vd (x:PTest):Bool:=rq x.s.size (zg x.s)&&(decide (x.kd≥0)&&decide (x.kd<=3)&&decide ((x.s.size:Int)<=16))
def P8 (p:List (Int×Int)) (nn:List Int) (l:List PVar) (j:Nat):Bool:=vb (p.getD j default).1 nn l&&vb (p.getD j default).2 nn l&&decide ((p.getD j default).1 < (p.getD j default).2)
def Hi (p:List (Int×Int)) (nn:List Int) (l:List PVar):Bool:=rq p.length (P8 p nn l)
theorem yh (v:Int) (hv:v≠-9223372036854775808) (h1:-9223372036854775808<=v) (h2:v<=9223372036854775807):ep Tryz.prog 155 [.v (.int .i64 v)] (.v (.int .i64 (cy v))):=by
 refine PRet.eq (PRet.of_vc ao [] [] Tryz.func155 rfl Tryz.ntmps155 rfl (by kernel_rfl) ?_)
 refine cB (fun hc4=>?_) (fun hc4=>?_)
 ·refine OpG.lk (lP rfl (fun _ _=>nofun) (fun _=>rfl)) ?_
  refine rV Tryz.results155 rfl ?_
  refine g8 ?_; rw [Go.IntWalk.i64_in _ (by omega)]; unfold cy; rw [if_pos (of_decide_eq_true hc4)]; omega
 refine rV Tryz.results155 rfl ?_
 refine g8 ?_; unfold cy; rw [if_neg (of_decide_eq_false hc4)]
theorem V9 (v lo hi:Int):ep Tryz.prog 115 [.v (.int .i64 v),.v (.int .i64 lo),.v (.int .i64 hi)] (.v (.bool (wiB v lo hi))):=by
 refine PRet.eq (PRet.of_vc ao [] [] Tryz.func115 rfl Tryz.ntmps115 rfl (by kernel_rfl) ?_)
 refine cB (fun hg10=>?_) (fun hg10=>?_)
 ·refine rV Tryz.results115 rfl ?_
  refine ba ?_; simp_all [wiB]; try (intros; omega)
 refine rV Tryz.results115 rfl ?_
 refine ba ?_; simp_all [wiB]; try (intros; omega)
theorem Ws (x:PVar):ep Tryz.prog 111 [.agg (vA x)] (.v (.bool (Aw x))):=by
 refine PRet.eq (PRet.of_vc ao [] [] Tryz.func111 rfl Tryz.ntmps111 rfl (by kernel_rfl) ?_)
 refine cB (fun hc5=>?_) (fun hc5=>?_)
 ·refine cB (fun hg9=>?_) (fun hg9=>?_)
  ·refine cB (fun hg16=>?_) (fun hg16=>?_)
   ·refine cB (fun hg21=>?_) (fun hg21=>?_)
    ·refine rV Tryz.results111 rfl ?_
     refine ba ?_; unfold Aw; simp_all; try (intros; omega)
    refine rV Tryz.results111 rfl ?_
    refine ba ?_; unfold Aw; simp_all; try (intros; omega)
   refine cF (rV Tryz.results111 rfl ?_)
   refine ba ?_; unfold Aw; simp_all; try (intros; omega)
  refine cF (cF ?_)
  refine rV Tryz.results111 rfl ?_
  refine ba ?_; unfold Aw; simp_all; try (intros; omega)
 refine cB (fun hg29=>?_) (fun hg29=>?_)
 ·refine cB (fun hg34=>?_) (fun hg34=>?_)
  ·refine cB (fun hg39=>?_) (fun hg39=>?_)
   ·refine cB (fun hg44=>?_) (fun hg44=>?_)
    ·refine rV Tryz.results111 rfl ?_
     refine ba ?_; unfold Aw; simp_all; try (intros; omega)
    refine rV Tryz.results111 rfl ?_
    refine ba ?_; unfold Aw; simp_all; try (intros; omega)
   refine cF (rV Tryz.results111 rfl ?_)
   refine ba ?_; unfold Aw; simp_all; try (intros; omega)
  refine cF (cF ?_)
  refine rV Tryz.results111 rfl ?_
  refine ba ?_; unfold Aw; simp_all; try (intros; omega)
 refine cF (cF ?_)
 refine cF (rV Tryz.results111 rfl ?_)
 refine ba ?_; unfold Aw; simp_all; try (intros; omega)
theorem Yk (l:List PVar) (hl:l.length<=1000):ep Tryz.prog 64 [vsA l] (.v (.bool (Ss l))):=by
 refine PRet.eq (PRet.of_vc ao [] [] Tryz.func64 rfl Tryz.ntmps64 rfl (by kernel_rfl) ?_)
 refine LpG.loop (fun n s=>∃ k:Nat,n=(l.length - k)/\s=⟨fL [(0,vsA l),(3,.v (.int .i64 ((k:Nat):Int)))],bl [],0⟩/\(k<=l.length/\∀ j,j < k->Sr l j=true)) (n:=(l.length - 0)) (s1:=⟨fL [(0,vsA l),(3,.v (.int .i64 ((0:Nat):Int)))],bl [],0⟩) (cO (.cons rfl rfl (.cons rfl rfl .nil)) .nil) ⟨0,rfl,rfl,⟨Nat.zero_le _,fun j h=>absurd h (Nat.not_lt_zero j)⟩⟩ ?_
 rintro n s ⟨k,rfl,rfl,hinv⟩
 obtain ⟨hk,hj⟩:=hinv
 try refine LenG.of ?_
 refine cL (fun hlt=>?_) (fun hge=>?_)
 ·refine IdxG.of (by first | assumption | omega | decide) ?_
  refine ArgG.mk (PRet.of_call ((Ws l[k]))) rfl ?_
  rintro _ rfl
  refine cB (fun hc15=>?_) (fun hc15=>?_)
  ·refine rV Tryz.results64 rfl ?_
   refine ba ?_; unfold Ss; rw [cp hlt (by simp only [Sr,bu hlt]; simp_all)]; rfl
  refine ⟨by omega,?_⟩
  refine ⟨(l.length - (k+1)),⟨fL [(0,vsA l),(3,.v (.int .i64 (((k+1):Nat):Int)))],bl [],0⟩,by omega,(cO (.cons rfl rfl (.cons rfl rfl .nil)) .nil),(k+1),rfl,rfl,?_⟩
  refine ⟨by omega,fun j h=>?_⟩
  rcases Nat.lt_succ_iff_lt_or_eq.1 h with h | rfl
  ·exact hj j h
  simp only [Sr,bu hlt]; simp_all
 try refine LenG.of ?_
 refine rV Tryz.results64 rfl ?_
 refine ba ?_; unfold Ss; rw [ci hk hge hj]; rfl
theorem sz3:aa Tryz.prog 3=some 1:=by kernel_rfl
theorem Nq:aa Tryz.prog 87=some 5:=by kernel_rfl
theorem Ks (v:Int) (c:PCl) (l:List PVar) (hn:c.nn.length<=1000) (hl:l.length<=1000):ep Tryz.prog 113 [.v (.int .i64 v),.agg (clA c),vsA l] (.v (.bool (vb v c.nn l))):=by
 refine PRet.eq (PRet.of_vc ao [18] [] Tryz.func113 rfl Tryz.ntmps113 rfl (by kernel_rfl) ?_)
 refine cB (fun hg9=>?_) (fun hg9=>?_)
 ·try refine LenG.of ?_
  refine cB (fun hg15=>?_) (fun hg15=>?_)
  ·have h0:0<=v:=by simpa using hg9
   have h1:v < l.length:=by simpa using hg15
   obtain ⟨j,hj⟩:=Int.eq_ofNat_of_zero_le h0
   have hjl:j < l.length:=by omega
   have ev:l.getD v.toNat default=l[j]:=by rw [hj]; simp [List.getD,hjl]
   refine OpG.lk (ah Tryz.underlying52 Nq rfl rfl hj hjl) ?_
   refine cB (fun hg23=>?_) (fun hg23=>?_)
   ·refine ArgG.mk (PRet.of_call ((Q0 c.nn v hn))) rfl ?_
    rintro _ rfl
    refine ⟨.inr rfl,_,oV Tryz.results113 rfl rfl rfl,?_⟩
    refine ba ?_; first | (simp only [vb,ev]; simp_all; done) | (simp only [vb]; simp_all; done) | (simp only [vb]; simp_all; intros; omega)
   ·refine ⟨.inr rfl,_,oV Tryz.results113 rfl rfl rfl,?_⟩
    refine ba ?_; first | (simp only [vb,ev]; simp_all; done) | (simp only [vb]; simp_all; done) | (simp only [vb]; simp_all; intros; omega)
  ·refine cF ?_
   refine ⟨.inr rfl,_,oV Tryz.results113 rfl rfl rfl,?_⟩
   refine ba ?_; first | (simp only [vb,ev]; simp_all; done) | (simp only [vb]; simp_all; done) | (simp only [vb]; simp_all; intros; omega)
 ·refine cF ?_
  refine cF ?_
  refine ⟨.inr rfl,_,oV Tryz.results113 rfl rfl rfl,?_⟩
  refine ba ?_; first | (simp only [vb,ev]; simp_all; done) | (simp only [vb]; simp_all; done) | (simp only [vb]; simp_all; intros; omega)
theorem Wz (x:PTest) (hl:x.s.size<=1000):ep Tryz.prog 116 [.agg (teA x)] (.v (.bool (vd x))):=by
 refine PRet.eq (PRet.of_vc ao [] [] Tryz.func116 rfl Tryz.ntmps116 rfl (by kernel_rfl) ?_)
 refine LpG.loop (fun n s=>∃ k:Nat,n=(x.s.size - k)/\s=⟨fL [(1,.ptr 0 0 0),(3,.v (.int .i64 ((k:Nat):Int)))],bl [(0,⟨0,teA x,0,false⟩)],1⟩/\(k<=x.s.size/\∀ j,j < k->zg x.s j=true)) (n:=(x.s.size - 0)) (s1:=⟨fL [(1,.ptr 0 0 0),(3,.v (.int .i64 ((0:Nat):Int)))],bl [(0,⟨0,teA x,0,false⟩)],1⟩) (cO (.cons rfl rfl (.cons rfl rfl .nil)) (.cons rfl rfl rfl .nil)) ⟨0,rfl,rfl,⟨Nat.zero_le _,fun j h=>absurd h (Nat.not_lt_zero j)⟩⟩ ?_
 rintro n s ⟨k,rfl,rfl,hinv⟩
 obtain ⟨hk,hj⟩:=hinv
 refine cB (fun hc8=>?_) (fun hc8=>?_)
 ·have hlt:k < x.s.size:=Int.ofNat_lt.1 (of_decide_eq_true hc8)
  refine ⟨(by first | assumption | omega | exact Nat.lt_of_lt_of_le Nat.zero_lt_one (by omega)),?_⟩
  refine cB (fun hg16=>?_) (fun hg16=>?_)
  ·refine cT ?_
   refine ⟨.inr rfl,_,oV Tryz.results116 rfl rfl rfl,?_⟩
   first | (refine ba ?_; unfold vd; rw [cp hlt (by simp only [zg]; simp_all)]; rfl) | (refine ba ?_; unfold vd; rw [ci hk hge hj]; simp_all; done) | (refine ba ?_; unfold vd; rw [ci hk hge hj]; simp_all; intros; omega)
  ·refine ⟨(by first | assumption | omega | exact Nat.lt_of_lt_of_le Nat.zero_lt_one (by omega)),?_⟩
   refine cB (fun hc22=>?_) (fun hc22=>?_)
   ·refine ⟨.inr rfl,_,oV Tryz.results116 rfl rfl rfl,?_⟩
    first | (refine ba ?_; unfold vd; rw [cp hlt (by simp only [zg]; simp_all)]; rfl) | (refine ba ?_; unfold vd; rw [ci hk hge hj]; simp_all; done) | (refine ba ?_; unfold vd; rw [ci hk hge hj]; simp_all; intros; omega)
   ·refine ⟨by omega,?_⟩
    refine ⟨(x.s.size - (k+1)),⟨fL [(1,.ptr 0 0 0),(3,.v (.int .i64 (((k+1):Nat):Int)))],bl [(0,⟨0,teA x,0,false⟩)],1⟩,by omega,(cO (.cons rfl rfl (.cons rfl rfl .nil)) (.cons rfl rfl rfl .nil)),(k+1),rfl,rfl,?_⟩
    refine ⟨by omega,fun j h=>?_⟩
    rcases Nat.lt_succ_iff_lt_or_eq.1 h with h | rfl
    ·exact hj j h
    ·simp only [zg]; simp_all
 ·have hge:¬ k < x.s.size:=fun h=>of_decide_eq_false hc8 (Int.ofNat_lt.2 h)
  refine cB (fun hg26=>?_) (fun hg26=>?_)
  ·refine cB (fun hg31=>?_) (fun hg31=>?_)
   ·refine ⟨.inr rfl,_,oV Tryz.results116 rfl rfl rfl,?_⟩
    first | (refine ba ?_; unfold vd; rw [cp hlt (by simp only [zg]; simp_all)]; rfl) | (refine ba ?_; unfold vd; rw [ci hk hge hj]; simp_all; done) | (refine ba ?_; unfold vd; rw [ci hk hge hj]; simp_all; intros; omega)
   ·refine ⟨.inr rfl,_,oV Tryz.results116 rfl rfl rfl,?_⟩
    first | (refine ba ?_; unfold vd; rw [cp hlt (by simp only [zg]; simp_all)]; rfl) | (refine ba ?_; unfold vd; rw [ci hk hge hj]; simp_all; done) | (refine ba ?_; unfold vd; rw [ci hk hge hj]; simp_all; intros; omega)
  ·refine cF ?_
   refine ⟨.inr rfl,_,oV Tryz.results116 rfl rfl rfl,?_⟩
   first | (refine ba ?_; unfold vd; rw [cp hlt (by simp only [zg]; simp_all)]; rfl) | (refine ba ?_; unfold vd; rw [ci hk hge hj]; simp_all; done) | (refine ba ?_; unfold vd; rw [ci hk hge hj]; simp_all; intros; omega)
theorem Ts (p:List (Int×Int)) (c:PCl) (l:List PVar) (hp:p.length<=1000) (hn:c.nn.length<=1000) (hl:l.length<=1000):ep Tryz.prog 117 [psA p,.agg (clA c),vsA l] (.v (.bool (Hi p c.nn l))):=by
 refine PRet.eq (PRet.of_vc ao [] [] Tryz.func117 rfl Tryz.ntmps117 rfl (by kernel_rfl) ?_)
 refine LpG.loop (fun n s=>∃ k:Nat,n=(p.length - k)/\s=⟨fL [(0,psA p),(2,vsA l),(4,.ptr 0 0 0),(7,.v (.int .i64 ((k:Nat):Int)))],bl [(0,⟨0,clA c,0,false⟩)],1⟩/\(k<=p.length/\∀ j,j < k->P8 p c.nn l j=true)) (n:=(p.length - 0)) (s1:=⟨fL [(0,psA p),(2,vsA l),(4,.ptr 0 0 0),(7,.v (.int .i64 ((0:Nat):Int)))],bl [(0,⟨0,clA c,0,false⟩)],1⟩) (cO (.cons rfl rfl (.cons rfl rfl (.cons rfl rfl (.cons rfl rfl .nil)))) (.cons rfl rfl rfl .nil)) ⟨0,rfl,rfl,⟨Nat.zero_le _,fun j h=>absurd h (Nat.not_lt_zero j)⟩⟩ ?_
 rintro n s ⟨k,rfl,rfl,hinv⟩
 obtain ⟨hk,hj⟩:=hinv
 try refine LenG.of ?_
 refine cB (fun hc11=>?_) (fun hc11=>?_)
 ·have hlt:k < p.length:=Int.ofNat_lt.1 (of_decide_eq_true hc11)
  first | refine IdxG.of (by first | assumption | omega | decide) ?_ | refine ⟨(by first | assumption | omega | decide),?_⟩
  refine OpG.lk (ee Tryz.underlying113 sz3 rfl rfl rfl) ?_
  refine ArgG.mk (PRet.of_call ((Ks _ c l hn hl))) rfl ?_
  rintro _ rfl
  refine cB (fun hg23=>?_) (fun hg23=>?_)
  ·refine cT ?_
   refine ⟨by kernel_rfl,?_⟩
   refine cT ?_
   refine ⟨.inr rfl,_,oV Tryz.results117 rfl rfl rfl,?_⟩
   first | (refine ba ?_; unfold Hi; rw [cp hlt (by simp only [P8,bu hlt]; simp_all)]; done) | (refine ba ?_; unfold Hi; rw [ci hk hge hj])
  ·first | refine IdxG.of (by first | assumption | omega | decide) ?_ | refine ⟨(by first | assumption | omega | decide),?_⟩
   refine OpG.lk (ee Tryz.underlying113 sz3 rfl rfl rfl) ?_
   refine ArgG.mk (PRet.of_call ((Ks _ c l hn hl))) rfl ?_
   rintro _ rfl
   refine cB (fun hg34=>?_) (fun hg34=>?_)
   ·refine ⟨by kernel_rfl,?_⟩
    refine cT ?_
    refine ⟨.inr rfl,_,oV Tryz.results117 rfl rfl rfl,?_⟩
    first | (refine ba ?_; unfold Hi; rw [cp hlt (by simp only [P8,bu hlt]; simp_all)]; done) | (refine ba ?_; unfold Hi; rw [ci hk hge hj])
   ·first | refine IdxG.of (by first | assumption | omega | decide) ?_ | refine ⟨(by first | assumption | omega | decide),?_⟩
    refine OpG.lk (ee Tryz.underlying113 sz3 rfl rfl rfl) ?_
    first | refine IdxG.of (by first | assumption | omega | decide) ?_ | refine ⟨(by first | assumption | omega | decide),?_⟩
    refine OpG.lk (ee Tryz.underlying113 sz3 rfl rfl rfl) ?_
    refine ⟨by kernel_rfl,?_⟩
    refine cB (fun hc46=>?_) (fun hc46=>?_)
    ·refine ⟨.inr rfl,_,oV Tryz.results117 rfl rfl rfl,?_⟩
     first | (refine ba ?_; unfold Hi; rw [cp hlt (by simp only [P8,bu hlt]; simp_all)]; done) | (refine ba ?_; unfold Hi; rw [ci hk hge hj])
    ·refine ⟨by omega,?_⟩
     refine ⟨(p.length - (k+1)),⟨fL [(0,psA p),(2,vsA l),(4,.ptr 0 0 0),(7,.v (.int .i64 (((k+1):Nat):Int)))],bl [(0,⟨0,clA c,0,false⟩)],1⟩,by omega,(cO (.cons rfl rfl (.cons rfl rfl (.cons rfl rfl (.cons rfl rfl .nil)))) (.cons rfl rfl rfl .nil)),(k+1),rfl,rfl,?_⟩
     refine ⟨by omega,fun j h=>?_⟩
     rcases Nat.lt_succ_iff_lt_or_eq.1 h with h | rfl
     ·exact hj j h
     ·simp only [P8,bu hlt]; simp_all
 ·have hge:¬ k < p.length:=fun h=>of_decide_eq_false hc11 (Int.ofNat_lt.2 h)
  refine ⟨.inr rfl,_,oV Tryz.results117 rfl rfl rfl,?_⟩
  first | (refine ba ?_; unfold Hi; rw [cp hlt (by simp only [P8,bu hlt]; simp_all)]; done) | (refine ba ?_; unfold Hi; rw [ci hk hge hj])
section
variable {P:Program} {τ:Nat->AV} {η:au} {d:Option Tmp} {ty:TypeId} {pos:String} {af:Array Edge} {g:Option (Nat×Bool)}
theorem p8 {t t':Nat} {x y:Operand} {m n:Int} (hx:aev τ x=.v (.int .i64 m)) (hy:aev τ y=.v (.int .i64 n)) (h1:0<=m) (h2:m<=9223372036854775807) (h3:1<=n) :
  LOp P ⟨d,.binOp .quo t x y t',ty,pos,af,g⟩ τ η [] [] (.v (.int .i64 (m / n))) :=
 .look [] fun C a _ hxs _=>by
  have e1:=hxs x (by simp [Op.operands])
  have e2:=hxs y (by simp [Op.operands])
  rw [hx] at e1
  rw [hy] at e2
  refine ⟨.int .i64 (m / n),?_,VR.v C _⟩
  rw [<- Go.IntWalk.i64_quo m n ⟨h1,h2,h3⟩]
  have h0:¬ (n=0):=by omega
  simp only [execOp,e1.v_inv,e2.v_inv]
  simp [binOp,Op.intArith,Op.intDiv,eqGuard,h0,Sem.run_bind]
theorem dj {t t':Nat} {x y:Operand} {m n:Int} (hx:aev τ x=.v (.int .i64 m)) (hy:aev τ y=.v (.int .i64 n)) (h1:-9223372036854775808<=m * n) (h2:m * n<=9223372036854775807) :
  LOp P ⟨d,.binOp .mul t x y t',ty,pos,af,g⟩ τ η [] [] (.v (.int .i64 (m * n))) :=
 .look [] fun C a _ hxs _=>by
  have e1:=hxs x (by simp [Op.operands])
  have e2:=hxs y (by simp [Op.operands])
  rw [hx] at e1
  rw [hy] at e2
  refine ⟨.int .i64 (m * n),?_,VR.v C _⟩
  rw [<- Go.IntWalk.i64_in (m * n) ⟨h1,h2⟩]
  simp only [execOp,e1.v_inv,e2.v_inv]
  rfl
end
/-- The bound of a variable. -/
def fB (f:PLin) (l:List PVar) (bs:List Int) (j:Nat):Int:=if (f.cs.getD j default).v≥l.length then bs.getD ((f.cs.getD j default).v - l.length).toNat 0 else 2147483648
def fS (f:PLin) (l:List PVar) (bs:List Int):Nat->Int
 | 0=>cy f.k
 | j+1=>fS f l bs j+cy (f.cs.getD j default).n * fB f l bs j
def p4 (f:PLin) (l:List PVar) (bs:List Int) (j:Nat):Bool :=
 decide ((f.cs.getD j default).v < 0)||decide ((f.cs.getD j default).v≥(l.length:Int)+bs.length)||(decide (0 < j)&&decide ((f.cs.getD (j - 1) default).v≥(f.cs.getD j default).v))||(f.cs.getD j default).n==0||!wiB (f.cs.getD j default).n (-1048576) 1048576
def fTy (f:PLin) (nn:List Int) (l:List PVar) (j:Nat):Bool:=decide ((f.cs.getD j default).v < l.length)&&(!((l.getD (f.cs.getD j default).v.toNat default).t==1)||!Ii nn (f.cs.getD j default).v)
def fOk (f:PLin) (nn:List Int) (l:List PVar) (bs:List Int) (j:Nat):Bool :=
 !p4 f l bs j&&!fTy f nn l j&&decide (fB f l bs j<=1152921504606846977 / cy (f.cs.getD j default).n)&&decide (fS f l bs (j+1)<=1152921504606846977)
/-- The bound of a linear form, or -1. -/
def fV (f:PLin) (nn:List Int) (l:List PVar) (bs:List Int):Int:=if wiB f.k (-1099511627777) 1099511627777&&rq f.cs.length (fOk f nn l bs) then fS f l bs f.cs.length else -1
theorem j8 (v:Int):0<=cy v:=by unfold cy; split <;> omega
theorem Yf {f:PLin} {l:List PVar} {bs:List Int} (hbs:∀ b∈bs,0<=b/\b<=4611686018427387904) (j:Nat):0<=fB f l bs j:=by
 unfold fB
 split
 ·by_cases h:((f.cs.getD j default).v - l.length).toNat < bs.length
  ·rw [bu h]; exact (hbs _ (Ze _)).1
  rw [Ik h]; exact Int.le_refl 0
 omega
theorem I3 {f:PLin} {nn:List Int} {l:List PVar} {bs:List Int} (hw:wiB f.k (-1099511627777) 1099511627777=true) (hbs:∀ b∈bs,0<=b/\b<=4611686018427387904) {k:Nat} (hj:∀ j,j < k->fOk f nn l bs j=true):∀ i,i<=k->0<=fS f l bs i/\fS f l bs i<=1152921504606846977
 | 0,_=>by
  have h1:=j8 f.k
  simp only [wiB,Bool.and_eq_true,decide_eq_true_eq] at hw
  refine ⟨h1,?_⟩
  show cy f.k<=_
  unfold cy
  split <;> omega
 | i+1,h=>by
  have ih:=I3 hw hbs hj i (by omega)
  have h1:=hj i (by omega)
  simp only [fOk,Bool.and_eq_true,decide_eq_true_eq] at h1
  refine ⟨?_,h1.2⟩
  have h2:=Int.mul_nonneg (j8 (f.cs.getD i default).n) (Yf (f:=f) (l:=l) hbs i)
  show 0<=fS f l bs i+cy (f.cs.getD i default).n * fB f l bs i
  omega
theorem fV_k {f:PLin} {nn:List Int} {l:List PVar} {bs:List Int} (h:wiB f.k (-1099511627777) 1099511627777=false):-1=fV f nn l bs:=by unfold fV; rw [h]; rfl
theorem gr {f:PLin} {nn:List Int} {l:List PVar} {bs:List Int} {k:Nat} (hlt:k < f.cs.length) (h:fOk f nn l bs k=false):-1=fV f nn l bs:=by unfold fV; rw [cp hlt h]; simp
theorem Uv {f:PLin} {nn:List Int} {l:List PVar} {bs:List Int} {k:Nat} (h0:wiB f.k (-1099511627777) 1099511627777=true) (hk:k<=f.cs.length) (hge:¬ k < f.cs.length) (hj:∀ j,j < k->fOk f nn l bs j=true):fS f l bs k=fV f nn l bs:=by
 unfold fV; rw [ci hk hge hj,h0]
 have:k=f.cs.length:=by omega
 subst this; rfl
theorem p6:co Tryz.prog 155=true:=by kernel_rfl
theorem D2:co Tryz.prog 115=true:=by kernel_rfl
theorem sz2:aa Tryz.prog 2=some 1:=by kernel_rfl
theorem Oh (f:PLin) (c:PCl) (l:List PVar) (bs:List Int) (hf:f.cs.length<=1000) (hn:c.nn.length<=1000) (hl:l.length<=1000) (hb:bs.length<=1000) (hbs:∀ b∈bs,0<=b/\b<=4611686018427387904):ep Tryz.prog 114 [.agg (liA f),.agg (clA c),vsA l,isA bs] (.v (.int .i64 (fV f c.nn l bs))):=by
 refine PRet.eq (PRet.of_vc ao [15,19,52,69,83,88,103,104,109,111,112] [] Tryz.func114 rfl Tryz.ntmps114 rfl (by kernel_rfl) ?_)
 refine OpG.lk (LOp.call D2 rfl (V9 f.k (-1099511627777) 1099511627777)) ?_
 refine cB (fun hc16=>?_) (fun hc16=>?_)
 ·exact rV Tryz.results114 rfl (g8 (fV_k (by simpa using hc16)))
 have hw:wiB f.k (-1099511627777) 1099511627777=true:=by simpa using hc16
 have hk0:f.k≠-9223372036854775808/\-9223372036854775808<=f.k/\f.k<=9223372036854775807:=by simp [wiB] at hw; omega
 refine OpG.lk (LOp.call p6 rfl (yh f.k hk0.1 hk0.2.1 hk0.2.2)) ?_
 refine LpG.loop (fun n s=>∃ k:Nat,n=(f.cs.length - k)/\s=⟨fL [(2,vsA l),(3,isA bs),(4,.ptr 0 0 0),(5,.ptr 1 0 0),(9,.v (.int .i64 (fS f l bs k))),(10,.v (.int .i64 ((k:Nat):Int)))],bl [(0,⟨0,liA f,0,false⟩),(1,⟨0,clA c,0,false⟩)],2⟩/\(k<=f.cs.length/\∀ j,j < k->fOk f c.nn l bs j=true)) (n:=(f.cs.length - 0)) (s1:=⟨fL [(2,vsA l),(3,isA bs),(4,.ptr 0 0 0),(5,.ptr 1 0 0),(9,.v (.int .i64 (fS f l bs 0))),(10,.v (.int .i64 ((0:Nat):Int)))],bl [(0,⟨0,liA f,0,false⟩),(1,⟨0,clA c,0,false⟩)],2⟩) (cO (.cons rfl rfl (.cons rfl rfl (.cons rfl rfl (.cons rfl rfl (.cons (by rfl) rfl (.cons rfl rfl .nil)))))) (.cons rfl rfl rfl (.cons rfl rfl rfl .nil))) ⟨0,rfl,rfl,⟨Nat.zero_le _,fun j h=>absurd h (Nat.not_lt_zero j)⟩⟩ ?_
 rintro n s ⟨k,rfl,rfl,hinv⟩
 obtain ⟨hk,hj⟩:=hinv
 have hsum:∀ i,i<=k->0<=fS f l bs i/\fS f l bs i<=1152921504606846977:=I3 hw hbs hj
 try refine LenG.of ?_
 refine cL (fun hlt=>?_) (fun hge=>?_)
 ·have ex:f.cs.getD k default=f.cs[k]:=bu hlt
  refine IdxG.of (by first | assumption | omega | decide) ?_
  refine cB (fun hg35=>?_) (fun hg35=>?_)
  ·refine cT ?_
   refine cT ?_
   refine cT ?_
   refine ⟨by kernel_rfl,?_⟩
   refine cT ?_
   refine rV Tryz.results114 rfl ?_
   ((have hbad:p4 f l bs k=true:=by (first | (simp only [p4,ex,ek1]; simp_all; done) | (simp only [p4,ex]; simp_all; done))); exact g8 (gr hlt (by simp [fOk,hbad])))
  try refine LenG.of ?_
  try refine LenG.of ?_
  refine ⟨by omega,?_⟩
  refine cB (fun hg45=>?_) (fun hg45=>?_)
  ·refine cT ?_
   refine cT ?_
   refine ⟨by kernel_rfl,?_⟩
   refine cT ?_
   refine rV Tryz.results114 rfl ?_
   ((have hbad:p4 f l bs k=true:=by (first | (simp only [p4,ex,ek1]; simp_all; done) | (simp only [p4,ex]; simp_all; done))); exact g8 (gr hlt (by simp [fOk,hbad])))
  refine cB (fun hg48=>?_) (fun hg48=>?_)
  ·obtain ⟨k',hk'⟩:∃ k',k=k'+1:=⟨k - 1,by simp at hg48; omega⟩
   have ek1:f.cs.getD (k - 1) default=f.cs[k']'(by omega):=by rw [show k - 1=k' by omega]; exact bu (by omega)
   refine OpG.lk (wt rfl rfl hk' (by omega)) ?_
   refine IdxG.of (by first | assumption | omega | decide) ?_
   refine cB (fun hg61=>?_) (fun hg61=>?_)
   ·refine cT ?_
    refine ⟨by kernel_rfl,?_⟩
    refine cT ?_
    refine rV Tryz.results114 rfl ?_
    ((have hbad:p4 f l bs k=true:=by (first | (simp only [p4,ex,ek1]; simp_all; done) | (simp only [p4,ex]; simp_all; done))); exact g8 (gr hlt (by simp [fOk,hbad])))
   refine cB (fun hg66=>?_) (fun hg66=>?_)
   ·refine ⟨by kernel_rfl,?_⟩
    refine cT ?_
    refine rV Tryz.results114 rfl ?_
    ((have hbad:p4 f l bs k=true:=by (first | (simp only [p4,ex,ek1]; simp_all; done) | (simp only [p4,ex]; simp_all; done))); exact g8 (gr hlt (by simp [fOk,hbad])))
   refine OpG.lk (LOp.call D2 rfl (V9 f.cs[k].n (-1048576) 1048576)) ?_
   refine ⟨by kernel_rfl,?_⟩
   refine cB (fun hc71=>?_) (fun hc71=>?_)
   ·refine rV Tryz.results114 rfl ?_
    ((have hbad:p4 f l bs k=true:=by (first | (simp only [p4,ex,ek1]; simp_all; done) | (simp only [p4,ex]; simp_all; done))); exact g8 (gr hlt (by simp [fOk,hbad])))
   have hbad:p4 f l bs k=false:=by (simp only [p4,ex,ek1]; simp_all; done)
   have hx:0<=f.cs[k].v/\f.cs[k].v < (l.length:Int)+bs.length/\f.cs[k].n≠0/\-1048576<=f.cs[k].n/\f.cs[k].n<=1048576:=by
    simp only [p4,ex,wiB,Bool.or_eq_false_iff,decide_eq_false_iff_not,beq_eq_false_iff_ne,Bool.not_eq_false',Bool.and_eq_true,decide_eq_true_eq] at hbad
    omega
   have ha:1<=cy f.cs[k].n:=by unfold cy; split <;> omega
   try refine LenG.of ?_
   refine cB (fun hc76=>?_) (fun hc76=>?_)
   ·have hge2:f.cs[k].v≥l.length:=of_decide_eq_true hc76
    obtain ⟨j,hjv⟩:=Int.eq_ofNat_of_zero_le (show 0<=f.cs[k].v - l.length by omega)
    have hjl:j < bs.length:=by omega
    have hfb:fB f l bs k=bs[j]:=by unfold fB; rw [ex,if_pos hge2,hjv]; simp [List.getD,hjl]
    have hfbb:0<=fB f l bs k/\fB f l bs k<=4611686018427387904:=by rw [hfb]; exact hbs _ (Ze _)
    have hty:fTy f c.nn l k=false:=by unfold fTy; rw [ex]; simp; intro; omega
    try refine LenG.of ?_
    refine ⟨by omega,?_⟩
    refine OpG.lk (ah Tryz.underlying153 sz2 rfl rfl hjv hjl) ?_
    refine OpG.lk (LOp.call p6 rfl (yh f.cs[k].n (by omega) (by omega) (by omega))) ?_
    refine OpG.lk (p8 rfl rfl (by decide) (by decide) ha) ?_
    refine cB (fun hc105=>?_) (fun hc105=>?_)
    ·exact rV Tryz.results114 rfl (g8 (gr hlt (by have:=of_decide_eq_true hc105; rw [<- hfb] at this; simp only [fOk,ex,Bool.and_eq_false_iff,decide_eq_false_iff_not]; left; right; omega)))
    have hq:fB f l bs k<=1152921504606846977 / cy f.cs[k].n:=by rw [hfb]; have:=of_decide_eq_false hc105; omega
    have hq1:0<=cy f.cs[k].n * fB f l bs k/\cy f.cs[k].n * fB f l bs k<=1152921504606846977:=⟨Int.mul_nonneg (j8 _) hfbb.1,by have:=Int.mul_le_mul_of_nonneg_left hq (j8 f.cs[k].n); have h2:=Int.mul_ediv_self_le (x:=1152921504606846977) (k:=cy f.cs[k].n) (by omega); omega⟩
    have hs:fS f l bs (k+1)=fS f l bs k+cy f.cs[k].n * fB f l bs k:=by show fS f l bs k+cy (f.cs.getD k default).n * fB f l bs k=_; rw [ex]
    have hsk:0<=fS f l bs k/\fS f l bs k<=1152921504606846977:=hsum k (Nat.le_refl _)
    refine OpG.lk (LOp.call p6 rfl (yh f.cs[k].n (by omega) (by omega) (by omega))) ?_
    refine OpG.lk (dj rfl rfl (by rw [<- hfb]; omega) (by rw [<- hfb]; omega)) ?_
    refine OpG.lk (lJ rfl rfl (by rw [<- hfb]; omega) (by rw [<- hfb]; omega)) ?_
    refine cB (fun hc114=>?_) (fun hc114=>?_)
    ·exact rV Tryz.results114 rfl (g8 (gr hlt (by have:=of_decide_eq_true hc114; simp only [fOk,hs,Bool.and_eq_false_iff,decide_eq_false_iff_not]; right; rw [hfb]; omega)))
    refine ⟨by omega,?_⟩
    refine ⟨(f.cs.length - (k+1)),⟨fL [(2,vsA l),(3,isA bs),(4,.ptr 0 0 0),(5,.ptr 1 0 0),(9,.v (.int .i64 (fS f l bs (k+1)))),(10,.v (.int .i64 (((k+1):Nat):Int)))],bl [(0,⟨0,liA f,0,false⟩),(1,⟨0,clA c,0,false⟩)],2⟩,by omega,(cO (.cons rfl rfl (.cons rfl rfl (.cons rfl rfl (.cons rfl rfl (.cons (by exact g8 (by rw [hs,hfb])) rfl (.cons rfl rfl .nil)))))) (.cons rfl rfl rfl (.cons rfl rfl rfl .nil))),(k+1),rfl,rfl,?_⟩
    refine ⟨by omega,fun j h=>?_⟩
    rcases Nat.lt_succ_iff_lt_or_eq.1 h with h | rfl
    ·exact hj j h
    simp only [fOk,hbad,hty,Bool.not_false,Bool.true_and,Bool.and_eq_true,decide_eq_true_eq]; exact ⟨by rw [ex]; exact hq,by rw [hs,hfb]; have:=of_decide_eq_false hc114; omega⟩
   have hlt2:f.cs[k].v < l.length:=by have:=of_decide_eq_false hc76; omega
   obtain ⟨j,hjv⟩:=Int.eq_ofNat_of_zero_le hx.1
   have hjl:j < l.length:=by omega
   have hfb:fB f l bs k=2147483648:=by unfold fB; rw [ex,if_neg (by omega)]
   have hfbb:0<=fB f l bs k/\fB f l bs k<=4611686018427387904:=by rw [hfb]; decide
   have ev:l.getD f.cs[k].v.toNat default=l[j]:=by rw [hjv]; simp [List.getD,hjl]
   refine OpG.lk (ah Tryz.underlying52 Nq rfl rfl hjv hjl) ?_
   refine cB (fun hg92=>?_) (fun hg92=>?_)
   ·refine cT ?_
    refine rV Tryz.results114 rfl ?_
    ((have hty:fTy f c.nn l k=true:=by (simp only [fTy,ex,ev]; simp_all; done)); exact g8 (gr hlt (by simp [fOk,hty])))
   refine ArgG.mk (PRet.of_call ((Q0 c.nn f.cs[k].v hn))) rfl ?_
   rintro _ rfl
   refine cB (fun hc99=>?_) (fun hc99=>?_)
   ·refine rV Tryz.results114 rfl ?_
    ((have hty:fTy f c.nn l k=true:=by (simp only [fTy,ex,ev]; simp_all; done)); exact g8 (gr hlt (by simp [fOk,hty])))
   have hty:fTy f c.nn l k=false:=by simp only [fTy,ex,ev]; simp_all
   refine OpG.lk (LOp.call p6 rfl (yh f.cs[k].n (by omega) (by omega) (by omega))) ?_
   refine OpG.lk (p8 rfl rfl (by decide) (by decide) ha) ?_
   refine cB (fun hc105=>?_) (fun hc105=>?_)
   ·exact rV Tryz.results114 rfl (g8 (gr hlt (by have:=of_decide_eq_true hc105; rw [<- hfb] at this; simp only [fOk,ex,Bool.and_eq_false_iff,decide_eq_false_iff_not]; left; right; omega)))
   have hq:fB f l bs k<=1152921504606846977 / cy f.cs[k].n:=by rw [hfb]; have:=of_decide_eq_false hc105; omega
   have hq1:0<=cy f.cs[k].n * fB f l bs k/\cy f.cs[k].n * fB f l bs k<=1152921504606846977:=⟨Int.mul_nonneg (j8 _) hfbb.1,by have:=Int.mul_le_mul_of_nonneg_left hq (j8 f.cs[k].n); have h2:=Int.mul_ediv_self_le (x:=1152921504606846977) (k:=cy f.cs[k].n) (by omega); omega⟩
   have hs:fS f l bs (k+1)=fS f l bs k+cy f.cs[k].n * fB f l bs k:=by show fS f l bs k+cy (f.cs.getD k default).n * fB f l bs k=_; rw [ex]
   have hsk:0<=fS f l bs k/\fS f l bs k<=1152921504606846977:=hsum k (Nat.le_refl _)
   refine OpG.lk (LOp.call p6 rfl (yh f.cs[k].n (by omega) (by omega) (by omega))) ?_
   refine OpG.lk (dj rfl rfl (by rw [<- hfb]; omega) (by rw [<- hfb]; omega)) ?_
   refine OpG.lk (lJ rfl rfl (by rw [<- hfb]; omega) (by rw [<- hfb]; omega)) ?_
   refine cB (fun hc114=>?_) (fun hc114=>?_)
   ·exact rV Tryz.results114 rfl (g8 (gr hlt (by have:=of_decide_eq_true hc114; simp only [fOk,hs,Bool.and_eq_false_iff,decide_eq_false_iff_not]; right; rw [hfb]; omega)))
   refine ⟨by omega,?_⟩
   refine ⟨(f.cs.length - (k+1)),⟨fL [(2,vsA l),(3,isA bs),(4,.ptr 0 0 0),(5,.ptr 1 0 0),(9,.v (.int .i64 (fS f l bs (k+1)))),(10,.v (.int .i64 (((k+1):Nat):Int)))],bl [(0,⟨0,liA f,0,false⟩),(1,⟨0,clA c,0,false⟩)],2⟩,by omega,(cO (.cons rfl rfl (.cons rfl rfl (.cons rfl rfl (.cons rfl rfl (.cons (by exact g8 (by rw [hs,hfb])) rfl (.cons rfl rfl .nil)))))) (.cons rfl rfl rfl (.cons rfl rfl rfl .nil))),(k+1),rfl,rfl,?_⟩
   refine ⟨by omega,fun j h=>?_⟩
   rcases Nat.lt_succ_iff_lt_or_eq.1 h with h | rfl
   ·exact hj j h
   simp only [fOk,hbad,hty,Bool.not_false,Bool.true_and,Bool.and_eq_true,decide_eq_true_eq]; exact ⟨by rw [ex]; exact hq,by rw [hs,hfb]; have:=of_decide_eq_false hc114; omega⟩
  refine cF ?_
  refine cB (fun hg66=>?_) (fun hg66=>?_)
  ·refine ⟨by kernel_rfl,?_⟩
   refine cT ?_
   refine rV Tryz.results114 rfl ?_
   ((have hbad:p4 f l bs k=true:=by (first | (simp only [p4,ex,ek1]; simp_all; done) | (simp only [p4,ex]; simp_all; done))); exact g8 (gr hlt (by simp [fOk,hbad])))
  refine OpG.lk (LOp.call D2 rfl (V9 f.cs[k].n (-1048576) 1048576)) ?_
  refine ⟨by kernel_rfl,?_⟩
  refine cB (fun hc71=>?_) (fun hc71=>?_)
  ·refine rV Tryz.results114 rfl ?_
   ((have hbad:p4 f l bs k=true:=by (first | (simp only [p4,ex,ek1]; simp_all; done) | (simp only [p4,ex]; simp_all; done))); exact g8 (gr hlt (by simp [fOk,hbad])))
  have hbad:p4 f l bs k=false:=by (simp only [p4,ex]; simp_all; done)
  have hx:0<=f.cs[k].v/\f.cs[k].v < (l.length:Int)+bs.length/\f.cs[k].n≠0/\-1048576<=f.cs[k].n/\f.cs[k].n<=1048576:=by
   simp only [p4,ex,wiB,Bool.or_eq_false_iff,decide_eq_false_iff_not,beq_eq_false_iff_ne,Bool.not_eq_false',Bool.and_eq_true,decide_eq_true_eq] at hbad
   omega
  have ha:1<=cy f.cs[k].n:=by unfold cy; split <;> omega
  try refine LenG.of ?_
  refine cB (fun hc76=>?_) (fun hc76=>?_)
  ·have hge2:f.cs[k].v≥l.length:=of_decide_eq_true hc76
   obtain ⟨j,hjv⟩:=Int.eq_ofNat_of_zero_le (show 0<=f.cs[k].v - l.length by omega)
   have hjl:j < bs.length:=by omega
   have hfb:fB f l bs k=bs[j]:=by unfold fB; rw [ex,if_pos hge2,hjv]; simp [List.getD,hjl]
   have hfbb:0<=fB f l bs k/\fB f l bs k<=4611686018427387904:=by rw [hfb]; exact hbs _ (Ze _)
   have hty:fTy f c.nn l k=false:=by unfold fTy; rw [ex]; simp; intro; omega
   try refine LenG.of ?_
   refine ⟨by omega,?_⟩
   refine OpG.lk (ah Tryz.underlying153 sz2 rfl rfl hjv hjl) ?_
   refine OpG.lk (LOp.call p6 rfl (yh f.cs[k].n (by omega) (by omega) (by omega))) ?_
   refine OpG.lk (p8 rfl rfl (by decide) (by decide) ha) ?_
   refine cB (fun hc105=>?_) (fun hc105=>?_)
   ·exact rV Tryz.results114 rfl (g8 (gr hlt (by have:=of_decide_eq_true hc105; rw [<- hfb] at this; simp only [fOk,ex,Bool.and_eq_false_iff,decide_eq_false_iff_not]; left; right; omega)))
   have hq:fB f l bs k<=1152921504606846977 / cy f.cs[k].n:=by rw [hfb]; have:=of_decide_eq_false hc105; omega
   have hq1:0<=cy f.cs[k].n * fB f l bs k/\cy f.cs[k].n * fB f l bs k<=1152921504606846977:=⟨Int.mul_nonneg (j8 _) hfbb.1,by have:=Int.mul_le_mul_of_nonneg_left hq (j8 f.cs[k].n); have h2:=Int.mul_ediv_self_le (x:=1152921504606846977) (k:=cy f.cs[k].n) (by omega); omega⟩
   have hs:fS f l bs (k+1)=fS f l bs k+cy f.cs[k].n * fB f l bs k:=by show fS f l bs k+cy (f.cs.getD k default).n * fB f l bs k=_; rw [ex]
   have hsk:0<=fS f l bs k/\fS f l bs k<=1152921504606846977:=hsum k (Nat.le_refl _)
   refine OpG.lk (LOp.call p6 rfl (yh f.cs[k].n (by omega) (by omega) (by omega))) ?_
   refine OpG.lk (dj rfl rfl (by rw [<- hfb]; omega) (by rw [<- hfb]; omega)) ?_
   refine OpG.lk (lJ rfl rfl (by rw [<- hfb]; omega) (by rw [<- hfb]; omega)) ?_
   refine cB (fun hc114=>?_) (fun hc114=>?_)
   ·exact rV Tryz.results114 rfl (g8 (gr hlt (by have:=of_decide_eq_true hc114; simp only [fOk,hs,Bool.and_eq_false_iff,decide_eq_false_iff_not]; right; rw [hfb]; omega)))
   refine ⟨by omega,?_⟩
   refine ⟨(f.cs.length - (k+1)),⟨fL [(2,vsA l),(3,isA bs),(4,.ptr 0 0 0),(5,.ptr 1 0 0),(9,.v (.int .i64 (fS f l bs (k+1)))),(10,.v (.int .i64 (((k+1):Nat):Int)))],bl [(0,⟨0,liA f,0,false⟩),(1,⟨0,clA c,0,false⟩)],2⟩,by omega,(cO (.cons rfl rfl (.cons rfl rfl (.cons rfl rfl (.cons rfl rfl (.cons (by exact g8 (by rw [hs,hfb])) rfl (.cons rfl rfl .nil)))))) (.cons rfl rfl rfl (.cons rfl rfl rfl .nil))),(k+1),rfl,rfl,?_⟩
   refine ⟨by omega,fun j h=>?_⟩
   rcases Nat.lt_succ_iff_lt_or_eq.1 h with h | rfl
   ·exact hj j h
   simp only [fOk,hbad,hty,Bool.not_false,Bool.true_and,Bool.and_eq_true,decide_eq_true_eq]; exact ⟨by rw [ex]; exact hq,by rw [hs,hfb]; have:=of_decide_eq_false hc114; omega⟩
  have hlt2:f.cs[k].v < l.length:=by have:=of_decide_eq_false hc76; omega
  obtain ⟨j,hjv⟩:=Int.eq_ofNat_of_zero_le hx.1
  have hjl:j < l.length:=by omega
  have hfb:fB f l bs k=2147483648:=by unfold fB; rw [ex,if_neg (by omega)]
  have hfbb:0<=fB f l bs k/\fB f l bs k<=4611686018427387904:=by rw [hfb]; decide
  have ev:l.getD f.cs[k].v.toNat default=l[j]:=by rw [hjv]; simp [List.getD,hjl]
  refine OpG.lk (ah Tryz.underlying52 Nq rfl rfl hjv hjl) ?_
  refine cB (fun hg92=>?_) (fun hg92=>?_)
  ·refine cT ?_
   refine rV Tryz.results114 rfl ?_
   ((have hty:fTy f c.nn l k=true:=by (simp only [fTy,ex,ev]; simp_all; done)); exact g8 (gr hlt (by simp [fOk,hty])))
  refine ArgG.mk (PRet.of_call ((Q0 c.nn f.cs[k].v hn))) rfl ?_
  rintro _ rfl
  refine cB (fun hc99=>?_) (fun hc99=>?_)
  ·refine rV Tryz.results114 rfl ?_
   ((have hty:fTy f c.nn l k=true:=by (simp only [fTy,ex,ev]; simp_all; done)); exact g8 (gr hlt (by simp [fOk,hty])))
  have hty:fTy f c.nn l k=false:=by simp only [fTy,ex,ev]; simp_all
  refine OpG.lk (LOp.call p6 rfl (yh f.cs[k].n (by omega) (by omega) (by omega))) ?_
  refine OpG.lk (p8 rfl rfl (by decide) (by decide) ha) ?_
  refine cB (fun hc105=>?_) (fun hc105=>?_)
  ·exact rV Tryz.results114 rfl (g8 (gr hlt (by have:=of_decide_eq_true hc105; rw [<- hfb] at this; simp only [fOk,ex,Bool.and_eq_false_iff,decide_eq_false_iff_not]; left; right; omega)))
  have hq:fB f l bs k<=1152921504606846977 / cy f.cs[k].n:=by rw [hfb]; have:=of_decide_eq_false hc105; omega
  have hq1:0<=cy f.cs[k].n * fB f l bs k/\cy f.cs[k].n * fB f l bs k<=1152921504606846977:=⟨Int.mul_nonneg (j8 _) hfbb.1,by have:=Int.mul_le_mul_of_nonneg_left hq (j8 f.cs[k].n); have h2:=Int.mul_ediv_self_le (x:=1152921504606846977) (k:=cy f.cs[k].n) (by omega); omega⟩
  have hs:fS f l bs (k+1)=fS f l bs k+cy f.cs[k].n * fB f l bs k:=by show fS f l bs k+cy (f.cs.getD k default).n * fB f l bs k=_; rw [ex]
  have hsk:0<=fS f l bs k/\fS f l bs k<=1152921504606846977:=hsum k (Nat.le_refl _)
  refine OpG.lk (LOp.call p6 rfl (yh f.cs[k].n (by omega) (by omega) (by omega))) ?_
  refine OpG.lk (dj rfl rfl (by rw [<- hfb]; omega) (by rw [<- hfb]; omega)) ?_
  refine OpG.lk (lJ rfl rfl (by rw [<- hfb]; omega) (by rw [<- hfb]; omega)) ?_
  refine cB (fun hc114=>?_) (fun hc114=>?_)
  ·exact rV Tryz.results114 rfl (g8 (gr hlt (by have:=of_decide_eq_true hc114; simp only [fOk,hs,Bool.and_eq_false_iff,decide_eq_false_iff_not]; right; rw [hfb]; omega)))
  refine ⟨by omega,?_⟩
  refine ⟨(f.cs.length - (k+1)),⟨fL [(2,vsA l),(3,isA bs),(4,.ptr 0 0 0),(5,.ptr 1 0 0),(9,.v (.int .i64 (fS f l bs (k+1)))),(10,.v (.int .i64 (((k+1):Nat):Int)))],bl [(0,⟨0,liA f,0,false⟩),(1,⟨0,clA c,0,false⟩)],2⟩,by omega,(cO (.cons rfl rfl (.cons rfl rfl (.cons rfl rfl (.cons rfl rfl (.cons (by exact g8 (by rw [hs,hfb])) rfl (.cons rfl rfl .nil)))))) (.cons rfl rfl rfl (.cons rfl rfl rfl .nil))),(k+1),rfl,rfl,?_⟩
  refine ⟨by omega,fun j h=>?_⟩
  rcases Nat.lt_succ_iff_lt_or_eq.1 h with h | rfl
  ·exact hj j h
  simp only [fOk,hbad,hty,Bool.not_false,Bool.true_and,Bool.and_eq_true,decide_eq_true_eq]; exact ⟨by rw [ex]; exact hq,by rw [hs,hfb]; have:=of_decide_eq_false hc114; omega⟩
 exact rV Tryz.results114 rfl (g8 (Uv hw hk hge hj))
/-- The bounds of the auxiliary variables, one after the other. -/
def bV (c:PCl) (l:List PVar) (bs:List Int) (j:Nat):Int:=if (c.aux.getD j default).by_=0 then 16 else fV (c.aux.getD j default).of_ c.nn l bs / (c.aux.getD j default).by_+1
def n8 (c:PCl) (l:List PVar):Nat->List Int
 | 0=>[]
 | j+1=>n8 c l j++[bV c l (n8 c l j) j]
theorem lc (c:PCl) (l:List PVar):∀ k,(n8 c l k).length=k
 | 0=>rfl
 | k+1=>by simp [n8,lc c l k]
def yf (c:PCl) (l:List PVar) (j:Nat):Bool :=
 if (c.aux.getD j default).by_=0 then !(decide (0 < ((c.aux.getD j default).of_.cs.length:Int))||!((c.aux.getD j default).of_.k==0))&&vb (c.aux.getD j default).tx c.nn l
 else wiB (c.aux.getD j default).by_ 1 1000&&(c.aux.getD j default).tx==0&&!decide (fV (c.aux.getD j default).of_ c.nn l (n8 c l j) < 0)
def Od (c:PCl) (l:List PVar) (j:Nat):Bool:=!decide (fV (c.ints.getD j default).l c.nn l (n8 c l c.aux.length) < 0)
def Nn (c:PCl) (l:List PVar) (j:Nat):Bool:=vd (c.tests.getD j default)&&vb (c.tests.getD j default).v c.nn l
/-- Is a clause valid? -/
def clB (c:PCl) (l:List PVar):Bool:=O0 c.nul l.length&&O0 c.nn l.length&&rq c.aux.length (yf c l)&&rq c.ints.length (Od c l)&&rq c.tests.length (Nn c l)&&(Hi c.same c.nn l&&Hi c.diff c.nn l)
/-- A clause that is not great. -/
structure PCl.Ok (c:PCl):Prop where
 nul:c.nul.length<=1000
 nn:c.nn.length<=1000
 aux:c.aux.length<=1000
 ints:c.ints.length<=1000
 tests:c.tests.length<=1000
 same:c.same.length<=1000
 diff:c.diff.length<=1000
 auxc:∀ a∈c.aux,a.of_.cs.length<=1000
 intc:∀ a∈c.ints,a.l.cs.length<=1000
 tes:∀ a∈c.tests,a.s.size<=1000
theorem Uu {f:PLin} {nn:List Int} {l:List PVar} {bs:List Int} (hbs:∀ b∈bs,0<=b/\b<=4611686018427387904):fV f nn l bs<=1152921504606846977:=by
 unfold fV
 split
 ·rename_i h
  simp only [Bool.and_eq_true] at h
  exact (I3 h.1 hbs (ld.1 h.2) _ (Nat.le_refl _)).2
 omega
theorem su {c:PCl} {l:List PVar}:∀ k,(∀ j,j < k->yf c l j=true)->∀ b∈n8 c l k,0<=b/\b<=4611686018427387904
 | 0,_,b,hb=>by cases hb
 | k+1,h,b,hb=>by
  have ih:=su k (fun j hj=>h j (by omega))
  rcases Zk.1 hb with hb | hb
  ·exact ih b hb
  ·simp only [Zj] at hb
   subst hb
   have h1:=h k (by omega)
   unfold bV
   split
   ·omega
   ·rename_i h0
    unfold yf at h1
    rw [if_neg h0] at h1
    simp only [Bool.and_eq_true,wiB,decide_eq_true_eq,Bool.not_eq_true',decide_eq_false_iff_not,beq_iff_eq] at h1
    have h2:=Uu (f:=(c.aux.getD k default).of_) (nn:=c.nn) (l:=l) ih
    have h3:=Int.ediv_le_self (a:=fV (c.aux.getD k default).of_ c.nn l (n8 c l k)) (c.aux.getD k default).by_ (by omega)
    have h4:=Int.ediv_nonneg (a:=fV (c.aux.getD k default).of_ c.nn l (n8 c l k)) (b:=(c.aux.getD k default).by_) (by omega) (by omega)
    omega
theorem az {η:au} {id ver w z len:Nat} {cs news:List AV} (hb:η id=some ⟨w,cs,z,false⟩) (hv:w=ver) (hne:Nat.beq len 0=false) (hc:cn 0 news.length cs=some news):Src η [id] (.sl id ver 0 len) len news:=Src.sl hb hv rfl hne hc
theorem wg (u:Nat):∀ bs:List Int,n6 u ((bs.map iA).flatten)=true
 | []=>rfl
 | b :: bs=>by
  have:=wg u bs
  simpa [iA,n6,AV.lowB] using this
theorem Iw:∀ bs:List Int,((bs.map iA).flatten).length=bs.length
 | []=>rfl
 | b :: bs=>by have:=Iw bs; simp [iA] at this ⊢; omega
theorem M0 {c:PCl} {l:List PVar} {k:Nat} (hlt:k < c.aux.length) (h0:c.aux[k].by_=0):((n8 c l k).map iA).flatten++[.v (.int .i64 16)]=((n8 c l (k+1)).map iA).flatten:=by
 have e:bV c l (n8 c l k) k=16:=by unfold bV; rw [bu hlt,if_pos h0]
 show _=((n8 c l k++[bV c l (n8 c l k) k]).map iA).flatten
 rw [e]; simp [iA]
theorem Mz {c:PCl} {l:List PVar} {k:Nat} (hlt:k < c.aux.length) (h0:¬ c.aux[k].by_=0):((n8 c l k).map iA).flatten++[.v (.int .i64 (fV c.aux[k].of_ c.nn l (n8 c l k) / c.aux[k].by_+1))]=((n8 c l (k+1)).map iA).flatten:=by
 have e:bV c l (n8 c l k) k=fV c.aux[k].of_ c.nn l (n8 c l k) / c.aux[k].by_+1:=by unfold bV; rw [bu hlt,if_neg h0]
 show _=((n8 c l k++[bV c l (n8 c l k) k]).map iA).flatten
 rw [e]; simp [iA]
theorem Vu {w z:Nat} {cs cs':List AV} (h:cs=cs'):some (Blk.mk w cs z false)=some (Blk.mk w cs' z false):=by rw [h]
theorem wu {fp:List Nat} {η:au} {id k:Nat} {bs:List Int} (hid:id∈fp) (hb:η id=some ⟨k,(bs.map iA).flatten,1,Nat.beq k 0⟩) (hk:bs.length=k):FzP fp η (.sl id k 0 k) (isA bs):=by
 cases k with
 | zero=>
  have h0:bs=[]:=List.eq_nil_of_length_eq_zero hk
  subst h0
  intro C hg hη x hx
  obtain ⟨e,_,_⟩:=hx.slnil_inv ((hη id hid).trans hb) rfl rfl
  subst e
  exact .tree0 (by unfold maxLen; omega)
 | succ k=>exact jq (f:=iA) hid hb rfl rfl rfl rfl hk (fun a _=>⟨rfl,rfl⟩)
theorem q7 {c:PCl} {l:List PVar} {k:Nat} (hlt:k < c.aux.length) (h:yf c l k=false):false=clB c l:=by unfold clB; rw [cp hlt h]; simp
theorem Rs {c:PCl} {l:List PVar} {k:Nat} (hlt:k < c.ints.length) (h:Od c l k=false):false=clB c l:=by unfold clB; rw [cp hlt h]; simp
theorem Jl {c:PCl} {l:List PVar} {k:Nat} (hlt:k < c.tests.length) (h:Nn c l k=false):false=clB c l:=by unfold clB; rw [cp hlt h]; simp
theorem Oy:co Tryz.prog 112=true:=by kernel_rfl
theorem Ox:co Tryz.prog 113=true:=by kernel_rfl
theorem Ow:co Tryz.prog 114=true:=by kernel_rfl
theorem Vn:co Tryz.prog 116=true:=by kernel_rfl
theorem Ov:co Tryz.prog 117=true:=by kernel_rfl
theorem by2:(Tryz.prog.info? 2).map (·.bytes)=some 8:=by kernel_rfl
theorem zr2:ax Tryz.prog 2=some (.int .i64 0):=by kernel_rfl
theorem cl_p (c:PCl) (l:List PVar) (hc:c.Ok) (hl:l.length<=1000):ep Tryz.prog 65 [.agg (clA c),vsA l] (.v (.bool (clB c l))):=by
 refine PRet.eq (PRet.of_vc ao [15,22,56,67,70,85,86,105,119,130,137,143] [] Tryz.func65 rfl Tryz.ntmps65 rfl (by kernel_rfl) ?_)
 try refine LenG.of ?_
 refine OpG.lk (LOp.call Oy rfl (Vw c.nul _ hc.nul)) ?_
 refine cB (fun hg17=>?_) (fun hg17=>?_)
 ·refine cT ?_
  refine rV Tryz.results65 rfl ?_
  refine ba ?_; unfold clB; simp_all; done
 try refine LenG.of ?_
 refine OpG.lk (LOp.call Oy rfl (Vw c.nn _ hc.nn)) ?_
 refine cB (fun hc24=>?_) (fun hc24=>?_)
 ·refine rV Tryz.results65 rfl ?_
  refine ba ?_; unfold clB; simp_all; done
 have hn12:O0 c.nul l.length=true/\O0 c.nn l.length=true:=by simp_all
 obtain ⟨hn1,hn2⟩:=hn12
 refine LpG.via (fun _ h=>bq 5 1 rfl 2 rfl h) ?_
 refine LpG.loop (fun n s=>∃ k:Nat,n=(c.aux.length - k)/\s=⟨fL [(1,vsA l),(2,.ptr 0 0 0),(5,.sl 1 k 0 k),(6,.v (.int .i64 ((k:Nat):Int)))],bl [(0,⟨0,clA c,0,false⟩),(1,⟨k,((n8 c l k).map iA).flatten,1,Nat.beq k 0⟩)],2⟩/\(k<=c.aux.length/\∀ j,j < k->yf c l j=true)) (n:=(c.aux.length - 0)) (s1:=⟨fL [(1,vsA l),(2,.ptr 0 0 0),(5,.sl 1 0 0 0),(6,.v (.int .i64 ((0:Nat):Int)))],bl [(0,⟨0,clA c,0,false⟩),(1,⟨0,((n8 c l 0).map iA).flatten,1,Nat.beq 0 0⟩)],2⟩) (cO (.cons rfl rfl (.cons rfl rfl (.cons rfl rfl (.cons rfl rfl .nil)))) (.cons rfl rfl rfl (.cons (by rfl) rfl (wg _ _) .nil))) ⟨0,rfl,rfl,⟨Nat.zero_le _,fun j h=>absurd h (Nat.not_lt_zero j)⟩⟩ ?_
 rintro n s ⟨k,rfl,rfl,hinv⟩
 obtain ⟨hk,hj⟩:=hinv
 have haux:=hc.aux
 try refine LenG.of ?_
 refine cL (fun hlt=>?_) (fun hge=>?_)
 ·have ea:c.aux.getD k default=c.aux[k]:=bu hlt
  refine IdxG.of (by first | assumption | omega | decide) ?_
  refine cE (fun h0=>?_) (fun h0=>?_)
  ·try refine LenG.of ?_
   refine cB (fun hg45=>?_) (fun hg45=>?_)
   ·refine cT ?_
    refine cT ?_
    exact rV Tryz.results65 rfl (ba (q7 hlt (by unfold yf; rw [ea,if_pos h0]; simp_all; done)))
   refine cB (fun hg51=>?_) (fun hg51=>?_)
   ·refine cT ?_
    exact rV Tryz.results65 rfl (ba (q7 hlt (by unfold yf; rw [ea,if_pos h0]; simp_all; done)))
   refine OpG.lk (LOp.call Ox rfl (Ks c.aux[k].tx c l hc.nn hl)) ?_
   refine cB (fun hc58=>?_) (fun hc58=>?_)
   ·have hax:yf c l k=false:=by unfold yf; rw [ea,if_pos h0]; simp_all
    exact rV Tryz.results65 rfl (ba (q7 hlt hax))
   have hax:yf c l k=true:=by unfold yf; rw [ea,if_pos h0]; simp_all
   refine OpG.mk _ _ _ 4 (o0 (m:=1) (news:=[.v (.int .i64 _)]) Tryz.underlying153 sz2 zr2 by2 rfl rfl rfl rfl (by rw [Iw,lc,Nat.mul_one]) (az rfl rfl rfl rfl) (by decide) rfl rfl (by omega) (by omega) (by unfold TV; omega)) rfl rfl ?_
   refine ⟨by omega,?_⟩
   refine ⟨(c.aux.length - (k+1)),⟨fL [(1,vsA l),(2,.ptr 0 0 0),(5,.sl 1 (k+1) 0 (k+1)),(6,.v (.int .i64 (((k+1):Nat):Int)))],bl [(0,⟨0,clA c,0,false⟩),(1,⟨(k+1),((n8 c l (k+1)).map iA).flatten,1,Nat.beq (k+1) 0⟩)],2⟩,by omega,(cO (.cons rfl rfl (.cons rfl rfl (.cons rfl rfl (.cons rfl rfl .nil)))) (.cons rfl rfl rfl (.cons (by exact Vu (M0 hlt h0)) rfl (wg _ _) .nil))),(k+1),rfl,rfl,?_⟩
   refine ⟨by omega,fun j h=>?_⟩
   rcases Nat.lt_succ_iff_lt_or_eq.1 h with h | rfl
   ·exact hj j h
   exact hax
  refine OpG.lk (my [1] Ow rfl (fun i h h'=>match i,h with | 0,_=>FzP.pure rfl | 1,_=>FzP.pure rfl | 2,_=>FzP.pure rfl | 3,_=>wu (Zj.2 rfl) rfl (lc _ _ _)) (Oh c.aux[k].of_ c l (n8 c l k) (hc.auxc _ (Ze _)) hc.nn hl (by rw [lc]; omega) (su k hj))) ?_
  refine OpG.lk (LOp.call D2 rfl (V9 c.aux[k].by_ 1 1000)) ?_
  refine cB (fun hg72=>?_) (fun hg72=>?_)
  ·refine cT ?_
   refine cT ?_
   exact rV Tryz.results65 rfl (ba (q7 hlt (by unfold yf; rw [ea,if_neg h0]; simp_all; done)))
  refine cB (fun hg77=>?_) (fun hg77=>?_)
  ·refine cT ?_
   exact rV Tryz.results65 rfl (ba (q7 hlt (by unfold yf; rw [ea,if_neg h0]; simp_all; done)))
  refine cB (fun hc80=>?_) (fun hc80=>?_)
  ·have hax:yf c l k=false:=by unfold yf; rw [ea,if_neg h0]; simp_all
   exact rV Tryz.results65 rfl (ba (q7 hlt hax))
  have hax:yf c l k=true:=by unfold yf; rw [ea,if_neg h0]; simp_all
  have hq:=hax
  unfold yf at hq
  rw [ea,if_neg h0] at hq
  simp only [Bool.and_eq_true,wiB,decide_eq_true_eq,Bool.not_eq_true',decide_eq_false_iff_not,beq_iff_eq] at hq
  have hfle:=Uu (f:=c.aux[k].of_) (nn:=c.nn) (l:=l) (su k hj)
  have hd1:=Int.ediv_le_self (a:=fV c.aux[k].of_ c.nn l (n8 c l k)) c.aux[k].by_ (by omega)
  have hd2:=Int.ediv_nonneg (a:=fV c.aux[k].of_ c.nn l (n8 c l k)) (b:=c.aux[k].by_) (by omega) (by omega)
  refine OpG.lk (p8 rfl rfl (by omega) (by omega) (by omega)) ?_
  refine OpG.lk (lJ rfl rfl (by omega) (by omega)) ?_
  refine OpG.mk _ _ _ 4 (o0 (m:=1) (news:=[.v (.int .i64 _)]) Tryz.underlying153 sz2 zr2 by2 rfl rfl rfl rfl (by rw [Iw,lc,Nat.mul_one]) (az rfl rfl rfl rfl) (by decide) rfl rfl (by omega) (by omega) (by unfold TV; omega)) rfl rfl ?_
  refine ⟨by omega,?_⟩
  refine ⟨(c.aux.length - (k+1)),⟨fL [(1,vsA l),(2,.ptr 0 0 0),(5,.sl 1 (k+1) 0 (k+1)),(6,.v (.int .i64 (((k+1):Nat):Int)))],bl [(0,⟨0,clA c,0,false⟩),(1,⟨(k+1),((n8 c l (k+1)).map iA).flatten,1,Nat.beq (k+1) 0⟩)],2⟩,by omega,(cO (.cons rfl rfl (.cons rfl rfl (.cons rfl rfl (.cons rfl rfl .nil)))) (.cons rfl rfl rfl (.cons (by exact Vu (Mz hlt h0)) rfl (wg _ _) .nil))),(k+1),rfl,rfl,?_⟩
  refine ⟨by omega,fun j h=>?_⟩
  rcases Nat.lt_succ_iff_lt_or_eq.1 h with h | rfl
  ·exact hj j h
  exact hax
 have hA:rq c.aux.length (yf c l)=true:=ci hk hge hj
 have hkA:k=c.aux.length:=by omega
 subst hkA
 have hAj:=hj
 clear hj hk hge
 refine LpG.loop (fun n s=>∃ k2:Nat,n=(c.ints.length - k2)/\s=⟨fL [(1,vsA l),(2,.ptr 0 0 0),(5,.sl 1 c.aux.length 0 c.aux.length),(9,.v (.int .i64 ((k2:Nat):Int)))],bl [(0,⟨0,clA c,0,false⟩),(1,⟨c.aux.length,((n8 c l c.aux.length).map iA).flatten,1,Nat.beq c.aux.length 0⟩)],2⟩/\(k2<=c.ints.length/\∀ j,j < k2->Od c l j=true)) (n:=(c.ints.length - 0)) (s1:=⟨fL [(1,vsA l),(2,.ptr 0 0 0),(5,.sl 1 c.aux.length 0 c.aux.length),(9,.v (.int .i64 ((0:Nat):Int)))],bl [(0,⟨0,clA c,0,false⟩),(1,⟨c.aux.length,((n8 c l c.aux.length).map iA).flatten,1,Nat.beq c.aux.length 0⟩)],2⟩) (cO (.cons rfl rfl (.cons rfl rfl (.cons rfl rfl (.cons rfl rfl .nil)))) (.cons rfl rfl rfl (.cons rfl rfl (wg _ _) .nil))) ⟨0,rfl,rfl,⟨Nat.zero_le _,fun j h=>absurd h (Nat.not_lt_zero j)⟩⟩ ?_
 rintro n s ⟨k2,rfl,rfl,hinv⟩
 obtain ⟨hk,hj⟩:=hinv
 have haux:=hc.aux
 have hints:=hc.ints
 try refine LenG.of ?_
 refine cL (fun hlt=>?_) (fun hge=>?_)
 ·refine IdxG.of (by first | assumption | omega | decide) ?_
  refine OpG.lk (my [1] Ow rfl (fun i h h'=>match i,h with | 0,_=>FzP.pure rfl | 1,_=>FzP.pure rfl | 2,_=>FzP.pure rfl | 3,_=>wu (Zj.2 rfl) rfl (lc _ _ _)) (Oh c.ints[k2].l c l (n8 c l c.aux.length) (hc.intc _ (Ze _)) hc.nn hl (by rw [lc]; omega) (su c.aux.length hAj))) ?_
  refine ⟨by kernel_rfl,?_⟩
  refine cB (fun hc106=>?_) (fun hc106=>?_)
  ·exact rV Tryz.results65 rfl (ba (Rs hlt (by simp only [Od,bu hlt]; simp_all)))
  refine ⟨by omega,?_⟩
  refine ⟨(c.ints.length - (k2+1)),⟨fL [(1,vsA l),(2,.ptr 0 0 0),(5,.sl 1 c.aux.length 0 c.aux.length),(9,.v (.int .i64 (((k2+1):Nat):Int)))],bl [(0,⟨0,clA c,0,false⟩),(1,⟨c.aux.length,((n8 c l c.aux.length).map iA).flatten,1,Nat.beq c.aux.length 0⟩)],2⟩,by omega,(cO (.cons rfl rfl (.cons rfl rfl (.cons rfl rfl (.cons rfl rfl .nil)))) (.cons rfl rfl rfl (.cons rfl rfl (wg _ _) .nil))),(k2+1),rfl,rfl,?_⟩
  refine ⟨by omega,fun j h=>?_⟩
  rcases Nat.lt_succ_iff_lt_or_eq.1 h with h | rfl
  ·exact hj j h
  simp only [Od,bu hlt]; simp_all
 have hB:rq c.ints.length (Od c l)=true:=ci hk hge hj
 clear hj hk hge
 refine LpG.loop (fun n s=>∃ k3:Nat,n=(c.tests.length - k3)/\s=⟨fL [(1,vsA l),(2,.ptr 0 0 0),(10,.v (.int .i64 ((k3:Nat):Int)))],bl [(0,⟨0,clA c,0,false⟩)],1⟩/\(k3<=c.tests.length/\∀ j,j < k3->Nn c l j=true)) (n:=(c.tests.length - 0)) (s1:=⟨fL [(1,vsA l),(2,.ptr 0 0 0),(10,.v (.int .i64 ((0:Nat):Int)))],bl [(0,⟨0,clA c,0,false⟩)],1⟩) (cO (.cons rfl rfl (.cons rfl rfl (.cons rfl rfl .nil))) (.cons rfl rfl rfl .nil)) ⟨0,rfl,rfl,⟨Nat.zero_le _,fun j h=>absurd h (Nat.not_lt_zero j)⟩⟩ ?_
 rintro n s ⟨k3,rfl,rfl,hinv⟩
 obtain ⟨hk,hj⟩:=hinv
 have htests:=hc.tests
 try refine LenG.of ?_
 refine cL (fun hlt=>?_) (fun hge=>?_)
 ·refine IdxG.of (by first | assumption | omega | decide) ?_
  refine OpG.lk (LOp.call Vn rfl (Wz c.tests[k3] (hc.tes _ (Ze _)))) ?_
  refine cB (fun hg121=>?_) (fun hg121=>?_)
  ·refine ⟨by kernel_rfl,?_⟩
   refine cT ?_
   exact rV Tryz.results65 rfl (ba (Jl hlt (by simp only [Nn,bu hlt]; simp_all)))
  refine IdxG.of (by first | assumption | omega | decide) ?_
  refine OpG.lk (LOp.call Ox rfl (Ks c.tests[k3].v c l hc.nn hl)) ?_
  refine ⟨by kernel_rfl,?_⟩
  refine cB (fun hc132=>?_) (fun hc132=>?_)
  ·exact rV Tryz.results65 rfl (ba (Jl hlt (by simp only [Nn,bu hlt]; simp_all)))
  refine ⟨by omega,?_⟩
  refine ⟨(c.tests.length - (k3+1)),⟨fL [(1,vsA l),(2,.ptr 0 0 0),(10,.v (.int .i64 (((k3+1):Nat):Int)))],bl [(0,⟨0,clA c,0,false⟩)],1⟩,by omega,(cO (.cons rfl rfl (.cons rfl rfl (.cons rfl rfl .nil))) (.cons rfl rfl rfl .nil)),(k3+1),rfl,rfl,?_⟩
  refine ⟨by omega,fun j h=>?_⟩
  rcases Nat.lt_succ_iff_lt_or_eq.1 h with h | rfl
  ·exact hj j h
  simp only [Nn,bu hlt]; simp_all
 refine OpG.lk (LOp.call Ov rfl (Ts c.same c l hc.same hc.nn hl)) ?_
 refine cB (fun hg138=>?_) (fun hg138=>?_)
 ·refine OpG.lk (LOp.call Ov rfl (Ts c.diff c l hc.diff hc.nn hl)) ?_
  refine rV Tryz.results65 rfl ?_
  refine ba ?_; unfold clB; rw [hn1,hn2,hA,hB,ci hk hge hj]; simp_all; done
 refine rV Tryz.results65 rfl ?_
 refine ba ?_; unfold clB; simp_all; done
def Vc (p:PPred) (j:Nat):Bool:=clB (p.cls.getD j default) p.vars
def Ag (p:PPred) (n:Int):Bool:=decide (p.tab < 0)||p.cols != n||decide (n < 1)||decide (n > p.vars.length)||!Ss p.vars||decide ((p.cls.length:Int) > 256)
/-- Is a predicate valid? -/
def F6 (p:PPred) (n:Int):Bool:=!Ag p n&&rq p.cls.length (Vc p)
/-- A predicate that is not great. -/
structure PPred.Ok (p:PPred):Prop where
 vars:p.vars.length<=1000
 cls:p.cls.length<=1000
 each:∀ c∈p.cls,c.Ok
theorem Y2:co Tryz.prog 64=true:=by kernel_rfl
theorem Y1:co Tryz.prog 65=true:=by kernel_rfl
theorem Xf (p:PPred) (v:Int) (hp:p.Ok):ep Tryz.prog 28 [.agg (prA p),.v (.int .i64 v)] (.v (.bool (F6 p v))):=by
 refine PRet.eq (PRet.of_vc ao [29,52] [] Tryz.func28 rfl Tryz.ntmps28 rfl (by kernel_rfl) ?_)
 refine cB (fun hg9=>?_) (fun hg9=>?_)
 ·refine cT ?_
  refine cT ?_
  refine cT ?_
  refine cT ?_
  refine cT ?_
  refine rV Tryz.results28 rfl ?_
  (refine ba ?_; unfold F6; rw [show Ag p v=true by unfold Ag; simp_all]; rfl)
 refine cB (fun hg15=>?_) (fun hg15=>?_)
 ·refine cT ?_
  refine cT ?_
  refine cT ?_
  refine cT ?_
  refine rV Tryz.results28 rfl ?_
  (refine ba ?_; unfold F6; rw [show Ag p v=true by unfold Ag; simp_all]; rfl)
 refine cB (fun hg19=>?_) (fun hg19=>?_)
 ·refine cT ?_
  refine cT ?_
  refine cT ?_
  refine rV Tryz.results28 rfl ?_
  (refine ba ?_; unfold F6; rw [show Ag p v=true by unfold Ag; simp_all]; rfl)
 try refine LenG.of ?_
 refine cB (fun hg26=>?_) (fun hg26=>?_)
 ·refine cT ?_
  refine cT ?_
  refine rV Tryz.results28 rfl ?_
  (refine ba ?_; unfold F6; rw [show Ag p v=true by unfold Ag; simp_all]; rfl)
 refine OpG.lk (LOp.call Y2 rfl (Yk p.vars hp.vars)) ?_
 refine cB (fun hg32=>?_) (fun hg32=>?_)
 ·refine cT ?_
  refine rV Tryz.results28 rfl ?_
  (refine ba ?_; unfold F6; rw [show Ag p v=true by unfold Ag; simp_all]; rfl)
 try refine LenG.of ?_
 refine cB (fun hc37=>?_) (fun hc37=>?_)
 ·refine rV Tryz.results28 rfl ?_
  (refine ba ?_; unfold F6; rw [show Ag p v=true by unfold Ag; simp_all]; rfl)
 have hbad:Ag p v=false:=by unfold Ag; simp_all
 refine LpG.loop (fun n s=>∃ k:Nat,n=(p.cls.length - k)/\s=⟨fL [(2,.ptr 0 0 0),(5,.v (.int .i64 ((k:Nat):Int)))],bl [(0,⟨0,prA p,0,false⟩)],1⟩/\(k<=p.cls.length/\∀ j,j < k->Vc p j=true)) (n:=(p.cls.length - 0)) (s1:=⟨fL [(2,.ptr 0 0 0),(5,.v (.int .i64 ((0:Nat):Int)))],bl [(0,⟨0,prA p,0,false⟩)],1⟩) (cO (.cons rfl rfl (.cons rfl rfl .nil)) (.cons rfl rfl rfl .nil)) ⟨0,rfl,rfl,⟨Nat.zero_le _,fun j h=>absurd h (Nat.not_lt_zero j)⟩⟩ ?_
 rintro n s ⟨k,rfl,rfl,hinv⟩
 obtain ⟨hk,hj⟩:=hinv
 have hcls:=hp.cls
 try refine LenG.of ?_
 refine cL (fun hlt=>?_) (fun hge=>?_)
 ·refine IdxG.of (by first | assumption | omega | decide) ?_
  refine OpG.lk (LOp.call Y1 rfl (cl_p p.cls[k] p.vars (hp.each _ (Ze _)) hp.vars)) ?_
  refine ⟨by kernel_rfl,?_⟩
  refine cB (fun hc53=>?_) (fun hc53=>?_)
  ·refine rV Tryz.results28 rfl ?_
   (refine ba ?_; unfold F6; rw [hbad,cp hlt (by simp only [Vc,bu hlt]; simp_all)]; rfl)
  refine ⟨by omega,?_⟩
  refine ⟨(p.cls.length - (k+1)),⟨fL [(2,.ptr 0 0 0),(5,.v (.int .i64 (((k+1):Nat):Int)))],bl [(0,⟨0,prA p,0,false⟩)],1⟩,by omega,(cO (.cons rfl rfl (.cons rfl rfl .nil)) (.cons rfl rfl rfl .nil)),(k+1),rfl,rfl,?_⟩
  refine ⟨by omega,fun j h=>?_⟩
  rcases Nat.lt_succ_iff_lt_or_eq.1 h with h | rfl
  ·exact hj j h
  simp only [Vc,bu hlt]; simp_all
 refine rV Tryz.results28 rfl ?_
 (refine ba ?_; unfold F6; rw [hbad,ci hk hge hj]; rfl)
end Go.Proofs.YthpangmpihkniaaGreatDoor
