/- Texts of the claim. -/
import Derived.IntWalk
import Derived.Test.YtbhhmbchdponjaaGreatDoorInf
import Derived.Test.YtbhhmbchdponjaaGreatDoorQ2
namespace Go.Proofs.YtbhhmbchdponjaaGreatDoor
set_option linter.unusedVariables false
set_option linter.unusedSimpArgs false
open Go.RowKit
def hasP (l:List Int) (v:Int) (j:Nat):Bool:=!(l.getD j 0==v)
def hasB (l:List Int) (v:Int):Bool:=!allN l.length (hasP l v)
def ascP (l:List Int) (n:Int) (j:Nat):Bool:=!(decide (l.getD j 0 < 0)||decide (l.getD j 0≥n)||(decide (0 < j)&&decide (l.getD (j - 1) 0≥l.getD j 0)))
def ascB (l:List Int) (n:Int):Bool:=allN l.length (ascP l n)
theorem mixed:Tryz.prog.follows .mixedOrders=true:=by kernel_rfl
set_option maxRecDepth 100000 in
set_option maxHeartbeats 4000000 in
theorem has_p (l:List Int) (v:Int) (hl:l.length≤1000000000):PCall Tryz.prog 102 [isA l,.v (.int .i64 v)] (.v (.bool (hasB l v))):=by
 refine PRet.eq (ovT [] [] Tryz.func102 rfl rfl ?_)
 refine LpG.loop (fun n s=>∃ k:Nat,n=(l.length - k)∧s=⟨fL [(0,isA l),(1,.v (.int .i64 v)),(5,.v (.int .i64 ((k:Nat):Int)))],hLz [],0⟩∧(k≤l.length∧∀ j,j < k→hasP l v j=true)) (n:=(l.length - 0)) (s1:=⟨fL [(0,isA l),(1,.v (.int .i64 v)),(5,.v (.int .i64 ((0:Nat):Int)))],hLz [],0⟩) (cO (.cons rfl rfl (.cons rfl rfl (.cons rfl rfl .nil))) .nil) ⟨0,rfl,rfl,⟨Nat.zero_le _,fun j h=>absurd h (Nat.not_lt_zero j)⟩⟩ ?_
 rintro n s ⟨k,rfl,rfl,hinv⟩
 obtain ⟨hk,hj⟩:=hinv
 try refine LenG.of ?_
 refine cL (fun hlt=>?_) (fun hge=>?_)
 ·refine IdxG.of (by first | assumption | omega | decide) ?_
  refine cB (fun hc17=>?_) (fun hc17=>?_)
  ·refine rV Tryz.results102 rfl ?_
   refine vb_eq ?_
   unfold hasB
   rw [allN_hit hlt (by simp only [hasP,getD_at hlt]; simp_all)]
   rfl
  refine ⟨by omega,?_⟩
  refine ⟨(l.length - (k+1)),⟨fL [(0,isA l),(1,.v (.int .i64 v)),(5,.v (.int .i64 (((k+1):Nat):Int)))],hLz [],0⟩,by omega,(cO (.cons rfl rfl (.cons rfl rfl (.cons rfl rfl .nil))) .nil),(k+1),rfl,rfl,?_⟩
  refine ⟨by omega,fun j h=>?_⟩
  rcases Nat.lt_succ_iff_lt_or_eq.1 h with h | rfl
  ·exact hj j h
  simp only [hasP,getD_at hlt]; simp_all
 refine rV Tryz.results102 rfl ?_
 refine vb_eq ?_
 unfold hasB
 rw [allN_end hk hge hj]
 rfl
set_option maxRecDepth 100000 in
set_option maxHeartbeats 4000000 in
theorem asc_p (l:List Int) (v:Int) (hl:l.length≤1000000000):PCall Tryz.prog 65 [isA l,.v (.int .i64 v)] (.v (.bool (ascB l v))):=by
 refine PRet.eq (ovT [31] [] Tryz.func65 rfl rfl ?_)
 refine LpG.loop (fun n s=>∃ k:Nat,n=(l.length - k)∧s=⟨fL [(0,isA l),(1,.v (.int .i64 v)),(5,.v (.int .i64 ((k:Nat):Int)))],hLz [],0⟩∧(k≤l.length∧∀ j,j < k→ascP l v j=true)) (n:=(l.length - 0)) (s1:=⟨fL [(0,isA l),(1,.v (.int .i64 v)),(5,.v (.int .i64 ((0:Nat):Int)))],hLz [],0⟩) (cO (.cons rfl rfl (.cons rfl rfl (.cons rfl rfl .nil))) .nil) ⟨0,rfl,rfl,⟨Nat.zero_le _,fun j h=>absurd h (Nat.not_lt_zero j)⟩⟩ ?_
 rintro n s ⟨k,rfl,rfl,hinv⟩
 obtain ⟨hk,hj⟩:=hinv
 try refine LenG.of ?_
 refine cL (fun hlt=>?_) (fun hge=>?_)
 ·refine IdxG.of (by first | assumption | omega | decide) ?_
  refine cB (fun hg17=>?_) (fun hg17=>?_)
  ·refine cT ?_
   refine ⟨by kernel_rfl,?_⟩
   refine cT ?_
   refine rV Tryz.results65 rfl ?_
   (refine vb_eq (Eq.symm (allN_hit hlt ?_)); (first | simp only [ascP,getD_at hlt,ek1] | simp only [ascP,getD_at hlt]); simp_all)
  refine IdxG.of (by first | assumption | omega | decide) ?_
  refine cB (fun hg25=>?_) (fun hg25=>?_)
  ·refine ⟨by kernel_rfl,?_⟩
   refine cT ?_
   refine rV Tryz.results65 rfl ?_
   (refine vb_eq (Eq.symm (allN_hit hlt ?_)); (first | simp only [ascP,getD_at hlt,ek1] | simp only [ascP,getD_at hlt]); simp_all)
  refine cB (fun hg28=>?_) (fun hg28=>?_)
  ·obtain ⟨k',hk'⟩:∃ k',k=k'+1:=⟨k - 1,by simp at hg28; omega⟩
   have ek1:l.getD (k - 1) 0=l[k']'(by omega):=by rw [show k - 1=k' by omega]; exact getD_at (by omega)
   refine OpG.lk (LOp.subOne rfl rfl hk' (by omega)) ?_
   refine IdxG.of (by first | assumption | omega | decide) ?_
   refine IdxG.of (by first | assumption | omega | decide) ?_
   refine ⟨by kernel_rfl,?_⟩
   refine cB (fun hc40=>?_) (fun hc40=>?_)
   ·refine rV Tryz.results65 rfl ?_
    (refine vb_eq (Eq.symm (allN_hit hlt ?_)); (first | simp only [ascP,getD_at hlt,ek1] | simp only [ascP,getD_at hlt]); simp_all)
   refine ⟨by omega,?_⟩
   refine ⟨(l.length - (k+1)),⟨fL [(0,isA l),(1,.v (.int .i64 v)),(5,.v (.int .i64 (((k+1):Nat):Int)))],hLz [],0⟩,by omega,(cO (.cons rfl rfl (.cons rfl rfl (.cons rfl rfl .nil))) .nil),(k+1),rfl,rfl,?_⟩
   refine ⟨by omega,fun j h=>?_⟩
   rcases Nat.lt_succ_iff_lt_or_eq.1 h with h | rfl
   ·exact hj j h
   (simp only [ascP,getD_at hlt,ek1]); simp_all
  refine ⟨by kernel_rfl,?_⟩
  refine cF ?_
  refine ⟨by omega,?_⟩
  refine ⟨(l.length - (k+1)),⟨fL [(0,isA l),(1,.v (.int .i64 v)),(5,.v (.int .i64 (((k+1):Nat):Int)))],hLz [],0⟩,by omega,(cO (.cons rfl rfl (.cons rfl rfl (.cons rfl rfl .nil))) .nil),(k+1),rfl,rfl,?_⟩
  refine ⟨by omega,fun j h=>?_⟩
  rcases Nat.lt_succ_iff_lt_or_eq.1 h with h | rfl
  ·exact hj j h
  (simp only [ascP,getD_at hlt]); simp_all
 exact rV Tryz.results65 rfl (vb_eq (Eq.symm (allN_end hk hge hj)))
end Go.Proofs.YtbhhmbchdponjaaGreatDoor
namespace Go.Proofs.YtbhhmbchdponjaaGreatDoor
set_option linter.unusedVariables false
set_option linter.unusedSimpArgs false
open Go.RowKit
structure PVar where
 (t lo hi mx:Int) (nl:Bool)
structure PCoef where
 (v n:Int)
structure PLin where
 (k:Int) (cs:List PCoef)
structure PAux where
 (of_:PLin) (by_ tx:Int)
structure PCon where
 (l:PLin) (eq:Bool)
structure PTest where
 (v kd:Int) (ng:Bool) (s:ByteArray)
structure PCl where
 (nul nn:List Int) (aux:List PAux) (ints:List PCon) (tests:List PTest) (same diff:List (Int×Int))
instance:Inhabited PVar:=⟨⟨0,0,0,0,false⟩⟩
instance:Inhabited PCoef:=⟨⟨0,0⟩⟩
instance:Inhabited PAux:=⟨⟨⟨0,[]⟩,0,0⟩⟩
instance:Inhabited PCon:=⟨⟨⟨0,[]⟩,false⟩⟩
instance:Inhabited PTest:=⟨⟨0,0,false,⟨#[]⟩⟩⟩
instance:Inhabited PCl:=⟨⟨[],[],[],[],[],[],[]⟩⟩
abbrev vA (x:PVar):List AV:=[.v (.int .i64 x.t),.v (.int .i64 x.lo),.v (.int .i64 x.hi),.v (.int .i64 x.mx),.v (.bool x.nl)]
abbrev cfA (x:PCoef):List AV:=[.v (.int .i64 x.v),.v (.int .i64 x.n)]
abbrev csA (l:List PCoef):AV:=.tree 2 (l.map cfA)
abbrev liA (x:PLin):List AV:=[.v (.int .i64 x.k),csA x.cs]
abbrev axA (x:PAux):List AV:=[.v (.int .i64 x.of_.k),csA x.of_.cs,.v (.int .i64 x.by_),.v (.int .i64 x.tx)]
abbrev cnA (x:PCon):List AV:=[.v (.int .i64 x.l.k),csA x.l.cs,.v (.bool x.eq)]
abbrev teA (x:PTest):List AV:=[.v (.int .i64 x.v),.v (.int .i64 x.kd),.v (.bool x.ng),.v (.string x.s)]
abbrev paA (x:Int×Int):List AV:=[.v (.int .i64 x.1),.v (.int .i64 x.2)]
abbrev vsA (l:List PVar):AV:=.tree 5 (l.map vA)
abbrev psA (l:List (Int×Int)):AV:=.tree 2 (l.map paA)
abbrev clA (c:PCl):List AV:=[isA c.nul,isA c.nn,.tree 4 (c.aux.map axA),.tree 3 (c.ints.map cnA),.tree 4 (c.tests.map teA),psA c.same,psA c.diff]
def absI (n:Int):Int:=if n < 0 then -n else n
def wiB (n lo hi:Int):Bool:=decide (n≥lo)&&decide (n≤hi)
def txtB (v:Int) (nn:List Int) (l:List PVar):Bool:=decide (v≥0)&&decide (v < l.length)&&(l.getD v.toNat default).t==2&&hasB nn v
def prnP (s:ByteArray) (j:Nat):Bool:=!(decide (((bAt s j).toNat:Int) < 32)||decide (((bAt s j).toNat:Int) > 126))
def tesB (x:PTest):Bool:=allN x.s.size (prnP x.s)&&(decide (x.kd≥0)&&decide (x.kd≤3)&&decide ((x.s.size:Int)≤16))
def paiP (p:List (Int×Int)) (nn:List Int) (l:List PVar) (j:Nat):Bool:=txtB (p.getD j default).1 nn l&&txtB (p.getD j default).2 nn l&&decide ((p.getD j default).1 < (p.getD j default).2)
def paiB (p:List (Int×Int)) (nn:List Int) (l:List PVar):Bool:=allN p.length (paiP p nn l)
set_option maxRecDepth 100000 in
set_option maxHeartbeats 4000000 in
theorem abs_p (v:Int) (hv:v≠-9223372036854775808) (h1:-9223372036854775808≤v) (h2:v≤9223372036854775807):PCall Tryz.prog 103 [.v (.int .i64 v)] (.v (.int .i64 (absI v))):=by
 refine PRet.eq (ovT [] [] Tryz.func103 rfl rfl ?_)
 refine cB (fun hc4=>?_) (fun hc4=>?_)
 ·refine OpG.lk (lP rfl (fun _ _=>nofun) (fun _=>rfl)) ?_
  refine rV Tryz.results103 rfl ?_
  refine vi_eq ?_; rw [Go.IntWalk.i64_in _ (by omega)]; unfold absI; rw [if_pos (of_decide_eq_true hc4)]; omega
 refine rV Tryz.results103 rfl ?_
 refine vi_eq ?_; unfold absI; rw [if_neg (of_decide_eq_false hc4)]
set_option maxRecDepth 100000 in
set_option maxHeartbeats 4000000 in
theorem wi_p (v lo hi:Int):PCall Tryz.prog 68 [.v (.int .i64 v),.v (.int .i64 lo),.v (.int .i64 hi)] (.v (.bool (wiB v lo hi))):=by
 refine PRet.eq (ovT [] [] Tryz.func68 rfl rfl ?_)
 refine cB (fun hg10=>?_) (fun hg10=>?_)
 ·refine rV Tryz.results68 rfl ?_
  refine vb_eq ?_; simp_all [wiB]; try (intros; omega)
 refine rV Tryz.results68 rfl ?_
 refine vb_eq ?_; simp_all [wiB]; try (intros; omega)
end Go.Proofs.YtbhhmbchdponjaaGreatDoor
namespace Go.Proofs.YtbhhmbchdponjaaGreatDoor
set_option linter.unusedVariables false
set_option linter.unusedSimpArgs false
open Go.RowKit
theorem sz3:sizeInfo Tryz.prog 3=some 1:=by kernel_rfl
theorem sz25:sizeInfo Tryz.prog 25=some 5:=by kernel_rfl
set_option maxRecDepth 100000 in
set_option maxHeartbeats 4000000 in
theorem txt_p (v:Int) (c:PCl) (l:List PVar) (hn:c.nn.length≤1000000000) (hl:l.length≤1000000000):PCall Tryz.prog 66 [.v (.int .i64 v),.agg (clA c),vsA l] (.v (.bool (txtB v c.nn l))):=by
 refine PRet.eq (ovT [18] [] Tryz.func66 rfl rfl ?_)
 refine cB (fun hg9=>?_) (fun hg9=>?_)
 ·try refine LenG.of ?_
  refine cB (fun hg15=>?_) (fun hg15=>?_)
  ·have h0:0≤v:=by simpa using hg9
   have h1:v < l.length:=by simpa using hg15
   obtain ⟨j,hj⟩:=Int.eq_ofNat_of_zero_le h0
   have hjl:j < l.length:=by omega
   have ev:l.getD v.toNat default=l[j]:=by rw [hj]; simp [List.getD,hjl]
   refine OpG.lk (LOp.indexI Tryz.underlying26 sz25 rfl rfl hj hjl) ?_
   refine cB (fun hg23=>?_) (fun hg23=>?_)
   ·refine ArgG.mk (PRet.of_call ((has_p c.nn v hn))) rfl ?_
    rintro _ rfl
    refine rV Tryz.results66 rfl ?_
    refine vb_eq ?_; (simp only [txtB,ev]; simp_all; done)
   refine rV Tryz.results66 rfl ?_
   refine vb_eq ?_; (simp only [txtB,ev]; simp_all; done)
  refine cF (rV Tryz.results66 rfl ?_)
  refine vb_eq ?_; (simp only [txtB]; simp_all; intros; omega)
 refine cF (cF ?_)
 refine rV Tryz.results66 rfl ?_
 refine vb_eq ?_; (simp only [txtB]; simp_all; intros; omega)
set_option maxRecDepth 100000 in
set_option maxHeartbeats 4000000 in
theorem tes_p (x:PTest) (hl:x.s.size≤1000000000):PCall Tryz.prog 69 [.agg (teA x)] (.v (.bool (tesB x))):=by
 refine PRet.eq (ovT [] [] Tryz.func69 rfl rfl ?_)
 refine LpG.loop (fun n s=>∃ k:Nat,n=(x.s.size - k)∧s=⟨fL [(1,.ptr 0 0 0),(3,.v (.int .i64 ((k:Nat):Int)))],hLz [(0,⟨0,teA x,0,false⟩)],1⟩∧(k≤x.s.size∧∀ j,j < k→prnP x.s j=true)) (n:=(x.s.size - 0)) (s1:=⟨fL [(1,.ptr 0 0 0),(3,.v (.int .i64 ((0:Nat):Int)))],hLz [(0,⟨0,teA x,0,false⟩)],1⟩) (cO (.cons rfl rfl (.cons rfl rfl .nil)) (.cons rfl rfl rfl .nil)) ⟨0,rfl,rfl,⟨Nat.zero_le _,fun j h=>absurd h (Nat.not_lt_zero j)⟩⟩ ?_
 rintro n s ⟨k,rfl,rfl,hinv⟩
 obtain ⟨hk,hj⟩:=hinv
 refine cL (fun hlt=>?_) (fun hge=>?_)
 ·refine ⟨(by assumption),?_⟩
  refine cB (fun hg16=>?_) (fun hg16=>?_)
  ·refine cT ?_
   refine rV Tryz.results69 rfl ?_
   (refine vb_eq ?_; unfold tesB; rw [allN_hit hlt (by simp only [prnP]; simp_all)]; rfl)
  refine ⟨(by assumption),?_⟩
  refine cB (fun hc22=>?_) (fun hc22=>?_)
  ·refine rV Tryz.results69 rfl ?_
   (refine vb_eq ?_; unfold tesB; rw [allN_hit hlt (by simp only [prnP]; simp_all)]; rfl)
  refine ⟨by omega,?_⟩
  refine ⟨(x.s.size - (k+1)),⟨fL [(1,.ptr 0 0 0),(3,.v (.int .i64 (((k+1):Nat):Int)))],hLz [(0,⟨0,teA x,0,false⟩)],1⟩,by omega,(cO (.cons rfl rfl (.cons rfl rfl .nil)) (.cons rfl rfl rfl .nil)),(k+1),rfl,rfl,?_⟩
  refine ⟨by omega,fun j h=>?_⟩
  rcases Nat.lt_succ_iff_lt_or_eq.1 h with h | rfl
  ·exact hj j h
  simp only [prnP]; simp_all
 refine cB (fun hg26=>?_) (fun hg26=>?_)
 ·refine cB (fun hg31=>?_) (fun hg31=>?_)
  ·refine rV Tryz.results69 rfl ?_
   (refine vb_eq ?_; unfold tesB; rw [allN_end hk hge hj]; simp_all; done)
  refine rV Tryz.results69 rfl ?_
  (refine vb_eq ?_; unfold tesB; rw [allN_end hk hge hj]; simp_all; intros; omega)
 refine cF ?_
 refine rV Tryz.results69 rfl ?_
 (refine vb_eq ?_; unfold tesB; rw [allN_end hk hge hj]; simp_all; intros; omega)
set_option maxRecDepth 100000 in
set_option maxHeartbeats 4000000 in
theorem pai_p (p:List (Int×Int)) (c:PCl) (l:List PVar) (hp:p.length≤1000000000) (hn:c.nn.length≤1000000000) (hl:l.length≤1000000000):PCall Tryz.prog 70 [psA p,.agg (clA c),vsA l] (.v (.bool (paiB p c.nn l))):=by
 refine PRet.eq (ovT [] [] Tryz.func70 rfl rfl ?_)
 refine LpG.loop (fun n s=>∃ k:Nat,n=(p.length - k)∧s=⟨fL [(0,psA p),(2,vsA l),(4,.ptr 0 0 0),(7,.v (.int .i64 ((k:Nat):Int)))],hLz [(0,⟨0,clA c,0,false⟩)],1⟩∧(k≤p.length∧∀ j,j < k→paiP p c.nn l j=true)) (n:=(p.length - 0)) (s1:=⟨fL [(0,psA p),(2,vsA l),(4,.ptr 0 0 0),(7,.v (.int .i64 ((0:Nat):Int)))],hLz [(0,⟨0,clA c,0,false⟩)],1⟩) (cO (.cons rfl rfl (.cons rfl rfl (.cons rfl rfl (.cons rfl rfl .nil)))) (.cons rfl rfl rfl .nil)) ⟨0,rfl,rfl,⟨Nat.zero_le _,fun j h=>absurd h (Nat.not_lt_zero j)⟩⟩ ?_
 rintro n s ⟨k,rfl,rfl,hinv⟩
 obtain ⟨hk,hj⟩:=hinv
 try refine LenG.of ?_
 refine cL (fun hlt=>?_) (fun hge=>?_)
 ·refine IdxG.of (by first | assumption | omega | decide) ?_
  refine OpG.lk (LOp.indexArrT Tryz.underlying62 sz3 rfl rfl rfl) ?_
  refine ArgG.mk (PRet.of_call ((txt_p _ c l hn hl))) rfl ?_
  rintro _ rfl
  refine cB (fun hg23=>?_) (fun hg23=>?_)
  ·refine cT ?_
   refine ⟨by kernel_rfl,?_⟩
   refine cT ?_
   refine rV Tryz.results70 rfl ?_
   (refine vb_eq ?_; unfold paiB; rw [allN_hit hlt (by simp only [paiP,getD_at hlt]; simp_all)]; done)
  refine IdxG.of (by first | assumption | omega | decide) ?_
  refine OpG.lk (LOp.indexArrT Tryz.underlying62 sz3 rfl rfl rfl) ?_
  refine ArgG.mk (PRet.of_call ((txt_p _ c l hn hl))) rfl ?_
  rintro _ rfl
  refine cB (fun hg34=>?_) (fun hg34=>?_)
  ·refine ⟨by kernel_rfl,?_⟩
   refine cT ?_
   refine rV Tryz.results70 rfl ?_
   (refine vb_eq ?_; unfold paiB; rw [allN_hit hlt (by simp only [paiP,getD_at hlt]; simp_all)]; done)
  refine IdxG.of (by first | assumption | omega | decide) ?_
  refine OpG.lk (LOp.indexArrT Tryz.underlying62 sz3 rfl rfl rfl) ?_
  refine IdxG.of (by first | assumption | omega | decide) ?_
  refine OpG.lk (LOp.indexArrT Tryz.underlying62 sz3 rfl rfl rfl) ?_
  refine ⟨by kernel_rfl,?_⟩
  refine cB (fun hc46=>?_) (fun hc46=>?_)
  ·refine rV Tryz.results70 rfl ?_
   (refine vb_eq ?_; unfold paiB; rw [allN_hit hlt (by simp only [paiP,getD_at hlt]; simp_all)]; done)
  refine ⟨by omega,?_⟩
  refine ⟨(p.length - (k+1)),⟨fL [(0,psA p),(2,vsA l),(4,.ptr 0 0 0),(7,.v (.int .i64 (((k+1):Nat):Int)))],hLz [(0,⟨0,clA c,0,false⟩)],1⟩,by omega,(cO (.cons rfl rfl (.cons rfl rfl (.cons rfl rfl (.cons rfl rfl .nil)))) (.cons rfl rfl rfl .nil)),(k+1),rfl,rfl,?_⟩
  refine ⟨by omega,fun j h=>?_⟩
  rcases Nat.lt_succ_iff_lt_or_eq.1 h with h | rfl
  ·exact hj j h
  simp only [paiP,getD_at hlt]; simp_all
 refine rV Tryz.results70 rfl ?_
 (refine vb_eq ?_; unfold paiB; rw [allN_end hk hge hj])
end Go.Proofs.YtbhhmbchdponjaaGreatDoor
namespace Go.Proofs.YtbhhmbchdponjaaGreatDoor
set_option linter.unusedVariables false
set_option linter.unusedSimpArgs false
open Go.RowKit
section
variable {P:Program} {τ:Nat→AV} {η:Heap} {d:Option Tmp} {ty:TypeId} {pos:String} {af:Array Edge} {g:Option (Nat×Bool)}
theorem LOp.quoI {t t':Nat} {x y:Operand} {m n:Int} (hx:aev τ x=.v (.int .i64 m)) (hy:aev τ y=.v (.int .i64 n)) (h1:0≤m) (h2:m≤9223372036854775807) (h3:1≤n) :
 LOp P ⟨d,.binOp .quo t x y t',ty,pos,af,g⟩ τ η [] [] (.v (.int .i64 (m / n))) :=
 .look [] fun C a _ hxs _=>by
  have e1:=hxs x (by simp [Op.operands])
  have e2:=hxs y (by simp [Op.operands])
  rw [hx] at e1
  rw [hy] at e2
  refine ⟨.int .i64 (m / n),?_,VR.v C _⟩
  rw [← Go.IntWalk.i64_quo m n ⟨h1,h2,h3⟩]
  have h0:¬ (n=0):=by omega
  simp only [execOp,e1.v_inv,e2.v_inv]
  simp [binOp,Op.intArith,Op.intDiv,eqGuard,h0,Sem.run_bind]
theorem LOp.mulI {t t':Nat} {x y:Operand} {m n:Int} (hx:aev τ x=.v (.int .i64 m)) (hy:aev τ y=.v (.int .i64 n)) (h1:-9223372036854775808≤m * n) (h2:m * n≤9223372036854775807) :
 LOp P ⟨d,.binOp .mul t x y t',ty,pos,af,g⟩ τ η [] [] (.v (.int .i64 (m * n))) :=
 .look [] fun C a _ hxs _=>by
  have e1:=hxs x (by simp [Op.operands])
  have e2:=hxs y (by simp [Op.operands])
  rw [hx] at e1
  rw [hy] at e2
  refine ⟨.int .i64 (m * n),?_,VR.v C _⟩
  rw [← Go.IntWalk.i64_in (m * n) ⟨h1,h2⟩]
  simp only [execOp,e1.v_inv,e2.v_inv]
  rfl
end
def fB (f:PLin) (l:List PVar) (bs:List Int) (j:Nat):Int:=if (f.cs.getD j default).v≥l.length then bs.getD ((f.cs.getD j default).v - l.length).toNat 0 else 2147483648
def fS (f:PLin) (l:List PVar) (bs:List Int):Nat→Int
 | 0=>absI f.k
 | j+1=>fS f l bs j+absI (f.cs.getD j default).n * fB f l bs j
def fBad (f:PLin) (l:List PVar) (bs:List Int) (j:Nat):Bool :=
 decide ((f.cs.getD j default).v < 0)||decide ((f.cs.getD j default).v≥(l.length:Int)+bs.length)||(decide (0 < j)&&decide ((f.cs.getD (j - 1) default).v≥(f.cs.getD j default).v))||(f.cs.getD j default).n==0||!wiB (f.cs.getD j default).n (-1048576) 1048576
def fTy (f:PLin) (nn:List Int) (l:List PVar) (j:Nat):Bool:=decide ((f.cs.getD j default).v < l.length)&&(!((l.getD (f.cs.getD j default).v.toNat default).t==1)||!hasB nn (f.cs.getD j default).v)
def fOk (f:PLin) (nn:List Int) (l:List PVar) (bs:List Int) (j:Nat):Bool :=
 !fBad f l bs j&&!fTy f nn l j&&decide (fB f l bs j≤1152921504606846977 / absI (f.cs.getD j default).n)&&decide (fS f l bs (j+1)≤1152921504606846977)
def fV (f:PLin) (nn:List Int) (l:List PVar) (bs:List Int):Int:=if wiB f.k (-1099511627777) 1099511627777&&allN f.cs.length (fOk f nn l bs) then fS f l bs f.cs.length else -1
theorem absI_nn (v:Int):0≤absI v:=by unfold absI; split <;> omega
theorem fB_nn {f:PLin} {l:List PVar} {bs:List Int} (hbs:∀ b∈bs,0≤b∧b≤4611686018427387904) (j:Nat):0≤fB f l bs j:=by
 unfold fB
 split
 ·by_cases h:((f.cs.getD j default).v - l.length).toNat < bs.length
  ·rw [getD_at h]; exact (hbs _ (List.getElem_mem _)).1
  rw [getD_none h]; exact Int.le_refl 0
 omega
theorem fS_rng {f:PLin} {nn:List Int} {l:List PVar} {bs:List Int} (hw:wiB f.k (-1099511627777) 1099511627777=true) (hbs:∀ b∈bs,0≤b∧b≤4611686018427387904) {k:Nat} (hj:∀ j,j < k→fOk f nn l bs j=true):∀ i,i≤k→0≤fS f l bs i∧fS f l bs i≤1152921504606846977
 | 0,_=>by
  have h1:=absI_nn f.k
  simp only [wiB,Bool.and_eq_true,decide_eq_true_eq] at hw
  refine ⟨h1,?_⟩
  show absI f.k≤_
  unfold absI
  split <;> omega
 | i+1,h=>by
  have ih:=fS_rng hw hbs hj i (by omega)
  have h1:=hj i (by omega)
  simp only [fOk,Bool.and_eq_true,decide_eq_true_eq] at h1
  refine ⟨?_,h1.2⟩
  have h2:=Int.mul_nonneg (absI_nn (f.cs.getD i default).n) (fB_nn (f:=f) (l:=l) hbs i)
  show 0≤fS f l bs i+absI (f.cs.getD i default).n * fB f l bs i
  omega
theorem fV_k {f:PLin} {nn:List Int} {l:List PVar} {bs:List Int} (h:wiB f.k (-1099511627777) 1099511627777=false):-1=fV f nn l bs:=by unfold fV; rw [h]; rfl
theorem fV_hit {f:PLin} {nn:List Int} {l:List PVar} {bs:List Int} {k:Nat} (hlt:k < f.cs.length) (h:fOk f nn l bs k=false):-1=fV f nn l bs:=by unfold fV; rw [allN_hit hlt h]; simp
theorem fV_end {f:PLin} {nn:List Int} {l:List PVar} {bs:List Int} {k:Nat} (h0:wiB f.k (-1099511627777) 1099511627777=true) (hk:k≤f.cs.length) (hge:¬ k < f.cs.length) (hj:∀ j,j < k→fOk f nn l bs j=true):fS f l bs k=fV f nn l bs:=by
 unfold fV; rw [allN_end hk hge hj,h0]
 have:k=f.cs.length:=by omega
 subst this; rfl
theorem bod103:bodied Tryz.prog 103=true:=by kernel_rfl
theorem bod68:bodied Tryz.prog 68=true:=by kernel_rfl
theorem sz2:sizeInfo Tryz.prog 2=some 1:=by kernel_rfl
set_option maxRecDepth 100000 in
set_option maxHeartbeats 4000000 in
theorem form_p (f:PLin) (c:PCl) (l:List PVar) (bs:List Int) (hf:f.cs.length≤1000000000) (hn:c.nn.length≤1000000000) (hl:l.length≤1000000000) (hb:bs.length≤1000000000) (hbs:∀ b∈bs,0≤b∧b≤4611686018427387904):PCall Tryz.prog 67 [.agg (liA f),.agg (clA c),vsA l,isA bs] (.v (.int .i64 (fV f c.nn l bs))):=by
 refine PRet.eq (ovT [15,19,52,69,83,88,103,104,109,111,112] [] Tryz.func67 rfl rfl ?_)
 refine OpG.lk (LOp.call bod68 rfl (wi_p f.k (-1099511627777) 1099511627777)) ?_
 refine cB (fun hc16=>?_) (fun hc16=>?_)
 ·exact rV Tryz.results67 rfl (vi_eq (fV_k (by simpa using hc16)))
 have hw:wiB f.k (-1099511627777) 1099511627777=true:=by simpa using hc16
 have hk0:f.k≠-9223372036854775808∧-9223372036854775808≤f.k∧f.k≤9223372036854775807:=by simp [wiB] at hw; omega
 refine OpG.lk (LOp.call bod103 rfl (abs_p f.k hk0.1 hk0.2.1 hk0.2.2)) ?_
 refine LpG.loop (fun n s=>∃ k:Nat,n=(f.cs.length - k)∧s=⟨fL [(2,vsA l),(3,isA bs),(4,.ptr 0 0 0),(5,.ptr 1 0 0),(9,.v (.int .i64 (fS f l bs k))),(10,.v (.int .i64 ((k:Nat):Int)))],hLz [(0,⟨0,liA f,0,false⟩),(1,⟨0,clA c,0,false⟩)],2⟩∧(k≤f.cs.length∧∀ j,j < k→fOk f c.nn l bs j=true)) (n:=(f.cs.length - 0)) (s1:=⟨fL [(2,vsA l),(3,isA bs),(4,.ptr 0 0 0),(5,.ptr 1 0 0),(9,.v (.int .i64 (fS f l bs 0))),(10,.v (.int .i64 ((0:Nat):Int)))],hLz [(0,⟨0,liA f,0,false⟩),(1,⟨0,clA c,0,false⟩)],2⟩) (cO (.cons rfl rfl (.cons rfl rfl (.cons rfl rfl (.cons rfl rfl (.cons (by rfl) rfl (.cons rfl rfl .nil)))))) (.cons rfl rfl rfl (.cons rfl rfl rfl .nil))) ⟨0,rfl,rfl,⟨Nat.zero_le _,fun j h=>absurd h (Nat.not_lt_zero j)⟩⟩ ?_
 rintro n s ⟨k,rfl,rfl,hinv⟩
 obtain ⟨hk,hj⟩:=hinv
 have hsum:∀ i,i≤k→0≤fS f l bs i∧fS f l bs i≤1152921504606846977:=fS_rng hw hbs hj
 try refine LenG.of ?_
 refine cL (fun hlt=>?_) (fun hge=>?_)
 ·have ex:f.cs.getD k default=f.cs[k]:=getD_at hlt
  refine IdxG.of (by first | assumption | omega | decide) ?_
  refine cB (fun hg35=>?_) (fun hg35=>?_)
  ·refine cT ?_
   refine cT ?_
   refine cT ?_
   refine ⟨by kernel_rfl,?_⟩
   refine cT ?_
   refine rV Tryz.results67 rfl ?_
   ((have hbad:fBad f l bs k=true:=by (first | (simp only [fBad,ex,ek1]; simp_all; done) | (simp only [fBad,ex]; simp_all; done))); exact vi_eq (fV_hit hlt (by simp [fOk,hbad])))
  try refine LenG.of ?_
  try refine LenG.of ?_
  refine ⟨by omega,?_⟩
  refine cB (fun hg45=>?_) (fun hg45=>?_)
  ·refine cT ?_
   refine cT ?_
   refine ⟨by kernel_rfl,?_⟩
   refine cT ?_
   refine rV Tryz.results67 rfl ?_
   ((have hbad:fBad f l bs k=true:=by (first | (simp only [fBad,ex,ek1]; simp_all; done) | (simp only [fBad,ex]; simp_all; done))); exact vi_eq (fV_hit hlt (by simp [fOk,hbad])))
  refine cB (fun hg48=>?_) (fun hg48=>?_)
  ·obtain ⟨k',hk'⟩:∃ k',k=k'+1:=⟨k - 1,by simp at hg48; omega⟩
   have ek1:f.cs.getD (k - 1) default=f.cs[k']'(by omega):=by rw [show k - 1=k' by omega]; exact getD_at (by omega)
   refine OpG.lk (LOp.subOne rfl rfl hk' (by omega)) ?_
   refine IdxG.of (by first | assumption | omega | decide) ?_
   refine cB (fun hg61=>?_) (fun hg61=>?_)
   ·refine cT ?_
    refine ⟨by kernel_rfl,?_⟩
    refine cT ?_
    refine rV Tryz.results67 rfl ?_
    ((have hbad:fBad f l bs k=true:=by (first | (simp only [fBad,ex,ek1]; simp_all; done) | (simp only [fBad,ex]; simp_all; done))); exact vi_eq (fV_hit hlt (by simp [fOk,hbad])))
   refine cB (fun hg66=>?_) (fun hg66=>?_)
   ·refine ⟨by kernel_rfl,?_⟩
    refine cT ?_
    refine rV Tryz.results67 rfl ?_
    ((have hbad:fBad f l bs k=true:=by (first | (simp only [fBad,ex,ek1]; simp_all; done) | (simp only [fBad,ex]; simp_all; done))); exact vi_eq (fV_hit hlt (by simp [fOk,hbad])))
   refine OpG.lk (LOp.call bod68 rfl (wi_p f.cs[k].n (-1048576) 1048576)) ?_
   refine ⟨by kernel_rfl,?_⟩
   refine cB (fun hc71=>?_) (fun hc71=>?_)
   ·refine rV Tryz.results67 rfl ?_
    ((have hbad:fBad f l bs k=true:=by (first | (simp only [fBad,ex,ek1]; simp_all; done) | (simp only [fBad,ex]; simp_all; done))); exact vi_eq (fV_hit hlt (by simp [fOk,hbad])))
   have hbad:fBad f l bs k=false:=by (simp only [fBad,ex,ek1]; simp_all; done)
   have hx:0≤f.cs[k].v∧f.cs[k].v < (l.length:Int)+bs.length∧f.cs[k].n≠0∧-1048576≤f.cs[k].n∧f.cs[k].n≤1048576:=by
    simp only [fBad,ex,wiB,Bool.or_eq_false_iff,decide_eq_false_iff_not,beq_eq_false_iff_ne,Bool.not_eq_false',Bool.and_eq_true,decide_eq_true_eq] at hbad
    omega
   have ha:1≤absI f.cs[k].n:=by unfold absI; split <;> omega
   try refine LenG.of ?_
   refine cB (fun hc76=>?_) (fun hc76=>?_)
   ·have hge2:f.cs[k].v≥l.length:=of_decide_eq_true hc76
    obtain ⟨j,hjv⟩:=Int.eq_ofNat_of_zero_le (show 0≤f.cs[k].v - l.length by omega)
    have hjl:j < bs.length:=by omega
    have hfb:fB f l bs k=bs[j]:=by unfold fB; rw [ex,if_pos hge2,hjv]; simp [List.getD,hjl]
    have hfbb:0≤fB f l bs k∧fB f l bs k≤4611686018427387904:=by rw [hfb]; exact hbs _ (List.getElem_mem _)
    have hty:fTy f c.nn l k=false:=by unfold fTy; rw [ex]; simp; intro; omega
    try refine LenG.of ?_
    refine ⟨by omega,?_⟩
    refine OpG.lk (LOp.indexI Tryz.underlying134 sz2 rfl rfl hjv hjl) ?_
    refine OpG.lk (LOp.call bod103 rfl (abs_p f.cs[k].n (by omega) (by omega) (by omega))) ?_
    refine OpG.lk (LOp.quoI rfl rfl (by decide) (by decide) ha) ?_
    refine cB (fun hc105=>?_) (fun hc105=>?_)
    ·exact rV Tryz.results67 rfl (vi_eq (fV_hit hlt (by have:=of_decide_eq_true hc105; rw [← hfb] at this; simp only [fOk,ex,Bool.and_eq_false_iff,decide_eq_false_iff_not]; left; right; omega)))
    have hq:fB f l bs k≤1152921504606846977 / absI f.cs[k].n:=by rw [hfb]; have:=of_decide_eq_false hc105; omega
    have hq1:0≤absI f.cs[k].n * fB f l bs k∧absI f.cs[k].n * fB f l bs k≤1152921504606846977:=⟨Int.mul_nonneg (absI_nn _) hfbb.1,by have:=Int.mul_le_mul_of_nonneg_left hq (absI_nn f.cs[k].n); have h2:=Int.mul_ediv_self_le (x:=1152921504606846977) (k:=absI f.cs[k].n) (by omega); omega⟩
    have hs:fS f l bs (k+1)=fS f l bs k+absI f.cs[k].n * fB f l bs k:=by show fS f l bs k+absI (f.cs.getD k default).n * fB f l bs k=_; rw [ex]
    have hsk:0≤fS f l bs k∧fS f l bs k≤1152921504606846977:=hsum k (Nat.le_refl _)
    refine OpG.lk (LOp.call bod103 rfl (abs_p f.cs[k].n (by omega) (by omega) (by omega))) ?_
    refine OpG.lk (LOp.mulI rfl rfl (by rw [← hfb]; omega) (by rw [← hfb]; omega)) ?_
    refine OpG.lk (lJ rfl rfl (by rw [← hfb]; omega) (by rw [← hfb]; omega)) ?_
    refine cB (fun hc114=>?_) (fun hc114=>?_)
    ·exact rV Tryz.results67 rfl (vi_eq (fV_hit hlt (by have:=of_decide_eq_true hc114; simp only [fOk,hs,Bool.and_eq_false_iff,decide_eq_false_iff_not]; right; rw [hfb]; omega)))
    refine ⟨by omega,?_⟩
    refine ⟨(f.cs.length - (k+1)),⟨fL [(2,vsA l),(3,isA bs),(4,.ptr 0 0 0),(5,.ptr 1 0 0),(9,.v (.int .i64 (fS f l bs (k+1)))),(10,.v (.int .i64 (((k+1):Nat):Int)))],hLz [(0,⟨0,liA f,0,false⟩),(1,⟨0,clA c,0,false⟩)],2⟩,by omega,(cO (.cons rfl rfl (.cons rfl rfl (.cons rfl rfl (.cons rfl rfl (.cons (by exact vi_eq (by rw [hs,hfb])) rfl (.cons rfl rfl .nil)))))) (.cons rfl rfl rfl (.cons rfl rfl rfl .nil))),(k+1),rfl,rfl,?_⟩
    refine ⟨by omega,fun j h=>?_⟩
    rcases Nat.lt_succ_iff_lt_or_eq.1 h with h | rfl
    ·exact hj j h
    simp only [fOk,hbad,hty,Bool.not_false,Bool.true_and,Bool.and_eq_true,decide_eq_true_eq]; exact ⟨by rw [ex]; exact hq,by rw [hs,hfb]; have:=of_decide_eq_false hc114; omega⟩
   have hlt2:f.cs[k].v < l.length:=by have:=of_decide_eq_false hc76; omega
   obtain ⟨j,hjv⟩:=Int.eq_ofNat_of_zero_le hx.1
   have hjl:j < l.length:=by omega
   have hfb:fB f l bs k=2147483648:=by unfold fB; rw [ex,if_neg (by omega)]
   have hfbb:0≤fB f l bs k∧fB f l bs k≤4611686018427387904:=by rw [hfb]; decide
   have ev:l.getD f.cs[k].v.toNat default=l[j]:=by rw [hjv]; simp [List.getD,hjl]
   refine OpG.lk (LOp.indexI Tryz.underlying26 sz25 rfl rfl hjv hjl) ?_
   refine cB (fun hg92=>?_) (fun hg92=>?_)
   ·refine cT ?_
    refine rV Tryz.results67 rfl ?_
    ((have hty:fTy f c.nn l k=true:=by (simp only [fTy,ex,ev]; simp_all; done)); exact vi_eq (fV_hit hlt (by simp [fOk,hty])))
   refine ArgG.mk (PRet.of_call ((has_p c.nn f.cs[k].v hn))) rfl ?_
   rintro _ rfl
   refine cB (fun hc99=>?_) (fun hc99=>?_)
   ·refine rV Tryz.results67 rfl ?_
    ((have hty:fTy f c.nn l k=true:=by (simp only [fTy,ex,ev]; simp_all; done)); exact vi_eq (fV_hit hlt (by simp [fOk,hty])))
   have hty:fTy f c.nn l k=false:=by simp only [fTy,ex,ev]; simp_all
   refine OpG.lk (LOp.call bod103 rfl (abs_p f.cs[k].n (by omega) (by omega) (by omega))) ?_
   refine OpG.lk (LOp.quoI rfl rfl (by decide) (by decide) ha) ?_
   refine cB (fun hc105=>?_) (fun hc105=>?_)
   ·exact rV Tryz.results67 rfl (vi_eq (fV_hit hlt (by have:=of_decide_eq_true hc105; rw [← hfb] at this; simp only [fOk,ex,Bool.and_eq_false_iff,decide_eq_false_iff_not]; left; right; omega)))
   have hq:fB f l bs k≤1152921504606846977 / absI f.cs[k].n:=by rw [hfb]; have:=of_decide_eq_false hc105; omega
   have hq1:0≤absI f.cs[k].n * fB f l bs k∧absI f.cs[k].n * fB f l bs k≤1152921504606846977:=⟨Int.mul_nonneg (absI_nn _) hfbb.1,by have:=Int.mul_le_mul_of_nonneg_left hq (absI_nn f.cs[k].n); have h2:=Int.mul_ediv_self_le (x:=1152921504606846977) (k:=absI f.cs[k].n) (by omega); omega⟩
   have hs:fS f l bs (k+1)=fS f l bs k+absI f.cs[k].n * fB f l bs k:=by show fS f l bs k+absI (f.cs.getD k default).n * fB f l bs k=_; rw [ex]
   have hsk:0≤fS f l bs k∧fS f l bs k≤1152921504606846977:=hsum k (Nat.le_refl _)
   refine OpG.lk (LOp.call bod103 rfl (abs_p f.cs[k].n (by omega) (by omega) (by omega))) ?_
   refine OpG.lk (LOp.mulI rfl rfl (by rw [← hfb]; omega) (by rw [← hfb]; omega)) ?_
   refine OpG.lk (lJ rfl rfl (by rw [← hfb]; omega) (by rw [← hfb]; omega)) ?_
   refine cB (fun hc114=>?_) (fun hc114=>?_)
   ·exact rV Tryz.results67 rfl (vi_eq (fV_hit hlt (by have:=of_decide_eq_true hc114; simp only [fOk,hs,Bool.and_eq_false_iff,decide_eq_false_iff_not]; right; rw [hfb]; omega)))
   refine ⟨by omega,?_⟩
   refine ⟨(f.cs.length - (k+1)),⟨fL [(2,vsA l),(3,isA bs),(4,.ptr 0 0 0),(5,.ptr 1 0 0),(9,.v (.int .i64 (fS f l bs (k+1)))),(10,.v (.int .i64 (((k+1):Nat):Int)))],hLz [(0,⟨0,liA f,0,false⟩),(1,⟨0,clA c,0,false⟩)],2⟩,by omega,(cO (.cons rfl rfl (.cons rfl rfl (.cons rfl rfl (.cons rfl rfl (.cons (by exact vi_eq (by rw [hs,hfb])) rfl (.cons rfl rfl .nil)))))) (.cons rfl rfl rfl (.cons rfl rfl rfl .nil))),(k+1),rfl,rfl,?_⟩
   refine ⟨by omega,fun j h=>?_⟩
   rcases Nat.lt_succ_iff_lt_or_eq.1 h with h | rfl
   ·exact hj j h
   simp only [fOk,hbad,hty,Bool.not_false,Bool.true_and,Bool.and_eq_true,decide_eq_true_eq]; exact ⟨by rw [ex]; exact hq,by rw [hs,hfb]; have:=of_decide_eq_false hc114; omega⟩
  refine cF ?_
  refine cB (fun hg66=>?_) (fun hg66=>?_)
  ·refine ⟨by kernel_rfl,?_⟩
   refine cT ?_
   refine rV Tryz.results67 rfl ?_
   ((have hbad:fBad f l bs k=true:=by (first | (simp only [fBad,ex,ek1]; simp_all; done) | (simp only [fBad,ex]; simp_all; done))); exact vi_eq (fV_hit hlt (by simp [fOk,hbad])))
  refine OpG.lk (LOp.call bod68 rfl (wi_p f.cs[k].n (-1048576) 1048576)) ?_
  refine ⟨by kernel_rfl,?_⟩
  refine cB (fun hc71=>?_) (fun hc71=>?_)
  ·refine rV Tryz.results67 rfl ?_
   ((have hbad:fBad f l bs k=true:=by (first | (simp only [fBad,ex,ek1]; simp_all; done) | (simp only [fBad,ex]; simp_all; done))); exact vi_eq (fV_hit hlt (by simp [fOk,hbad])))
  have hbad:fBad f l bs k=false:=by (simp only [fBad,ex]; simp_all; done)
  have hx:0≤f.cs[k].v∧f.cs[k].v < (l.length:Int)+bs.length∧f.cs[k].n≠0∧-1048576≤f.cs[k].n∧f.cs[k].n≤1048576:=by
   simp only [fBad,ex,wiB,Bool.or_eq_false_iff,decide_eq_false_iff_not,beq_eq_false_iff_ne,Bool.not_eq_false',Bool.and_eq_true,decide_eq_true_eq] at hbad
   omega
  have ha:1≤absI f.cs[k].n:=by unfold absI; split <;> omega
  try refine LenG.of ?_
  refine cB (fun hc76=>?_) (fun hc76=>?_)
  ·have hge2:f.cs[k].v≥l.length:=of_decide_eq_true hc76
   obtain ⟨j,hjv⟩:=Int.eq_ofNat_of_zero_le (show 0≤f.cs[k].v - l.length by omega)
   have hjl:j < bs.length:=by omega
   have hfb:fB f l bs k=bs[j]:=by unfold fB; rw [ex,if_pos hge2,hjv]; simp [List.getD,hjl]
   have hfbb:0≤fB f l bs k∧fB f l bs k≤4611686018427387904:=by rw [hfb]; exact hbs _ (List.getElem_mem _)
   have hty:fTy f c.nn l k=false:=by unfold fTy; rw [ex]; simp; intro; omega
   try refine LenG.of ?_
   refine ⟨by omega,?_⟩
   refine OpG.lk (LOp.indexI Tryz.underlying134 sz2 rfl rfl hjv hjl) ?_
   refine OpG.lk (LOp.call bod103 rfl (abs_p f.cs[k].n (by omega) (by omega) (by omega))) ?_
   refine OpG.lk (LOp.quoI rfl rfl (by decide) (by decide) ha) ?_
   refine cB (fun hc105=>?_) (fun hc105=>?_)
   ·exact rV Tryz.results67 rfl (vi_eq (fV_hit hlt (by have:=of_decide_eq_true hc105; rw [← hfb] at this; simp only [fOk,ex,Bool.and_eq_false_iff,decide_eq_false_iff_not]; left; right; omega)))
   have hq:fB f l bs k≤1152921504606846977 / absI f.cs[k].n:=by rw [hfb]; have:=of_decide_eq_false hc105; omega
   have hq1:0≤absI f.cs[k].n * fB f l bs k∧absI f.cs[k].n * fB f l bs k≤1152921504606846977:=⟨Int.mul_nonneg (absI_nn _) hfbb.1,by have:=Int.mul_le_mul_of_nonneg_left hq (absI_nn f.cs[k].n); have h2:=Int.mul_ediv_self_le (x:=1152921504606846977) (k:=absI f.cs[k].n) (by omega); omega⟩
   have hs:fS f l bs (k+1)=fS f l bs k+absI f.cs[k].n * fB f l bs k:=by show fS f l bs k+absI (f.cs.getD k default).n * fB f l bs k=_; rw [ex]
   have hsk:0≤fS f l bs k∧fS f l bs k≤1152921504606846977:=hsum k (Nat.le_refl _)
   refine OpG.lk (LOp.call bod103 rfl (abs_p f.cs[k].n (by omega) (by omega) (by omega))) ?_
   refine OpG.lk (LOp.mulI rfl rfl (by rw [← hfb]; omega) (by rw [← hfb]; omega)) ?_
   refine OpG.lk (lJ rfl rfl (by rw [← hfb]; omega) (by rw [← hfb]; omega)) ?_
   refine cB (fun hc114=>?_) (fun hc114=>?_)
   ·exact rV Tryz.results67 rfl (vi_eq (fV_hit hlt (by have:=of_decide_eq_true hc114; simp only [fOk,hs,Bool.and_eq_false_iff,decide_eq_false_iff_not]; right; rw [hfb]; omega)))
   refine ⟨by omega,?_⟩
   refine ⟨(f.cs.length - (k+1)),⟨fL [(2,vsA l),(3,isA bs),(4,.ptr 0 0 0),(5,.ptr 1 0 0),(9,.v (.int .i64 (fS f l bs (k+1)))),(10,.v (.int .i64 (((k+1):Nat):Int)))],hLz [(0,⟨0,liA f,0,false⟩),(1,⟨0,clA c,0,false⟩)],2⟩,by omega,(cO (.cons rfl rfl (.cons rfl rfl (.cons rfl rfl (.cons rfl rfl (.cons (by exact vi_eq (by rw [hs,hfb])) rfl (.cons rfl rfl .nil)))))) (.cons rfl rfl rfl (.cons rfl rfl rfl .nil))),(k+1),rfl,rfl,?_⟩
   refine ⟨by omega,fun j h=>?_⟩
   rcases Nat.lt_succ_iff_lt_or_eq.1 h with h | rfl
   ·exact hj j h
   simp only [fOk,hbad,hty,Bool.not_false,Bool.true_and,Bool.and_eq_true,decide_eq_true_eq]; exact ⟨by rw [ex]; exact hq,by rw [hs,hfb]; have:=of_decide_eq_false hc114; omega⟩
  have hlt2:f.cs[k].v < l.length:=by have:=of_decide_eq_false hc76; omega
  obtain ⟨j,hjv⟩:=Int.eq_ofNat_of_zero_le hx.1
  have hjl:j < l.length:=by omega
  have hfb:fB f l bs k=2147483648:=by unfold fB; rw [ex,if_neg (by omega)]
  have hfbb:0≤fB f l bs k∧fB f l bs k≤4611686018427387904:=by rw [hfb]; decide
  have ev:l.getD f.cs[k].v.toNat default=l[j]:=by rw [hjv]; simp [List.getD,hjl]
  refine OpG.lk (LOp.indexI Tryz.underlying26 sz25 rfl rfl hjv hjl) ?_
  refine cB (fun hg92=>?_) (fun hg92=>?_)
  ·refine cT ?_
   refine rV Tryz.results67 rfl ?_
   ((have hty:fTy f c.nn l k=true:=by (simp only [fTy,ex,ev]; simp_all; done)); exact vi_eq (fV_hit hlt (by simp [fOk,hty])))
  refine ArgG.mk (PRet.of_call ((has_p c.nn f.cs[k].v hn))) rfl ?_
  rintro _ rfl
  refine cB (fun hc99=>?_) (fun hc99=>?_)
  ·refine rV Tryz.results67 rfl ?_
   ((have hty:fTy f c.nn l k=true:=by (simp only [fTy,ex,ev]; simp_all; done)); exact vi_eq (fV_hit hlt (by simp [fOk,hty])))
  have hty:fTy f c.nn l k=false:=by simp only [fTy,ex,ev]; simp_all
  refine OpG.lk (LOp.call bod103 rfl (abs_p f.cs[k].n (by omega) (by omega) (by omega))) ?_
  refine OpG.lk (LOp.quoI rfl rfl (by decide) (by decide) ha) ?_
  refine cB (fun hc105=>?_) (fun hc105=>?_)
  ·exact rV Tryz.results67 rfl (vi_eq (fV_hit hlt (by have:=of_decide_eq_true hc105; rw [← hfb] at this; simp only [fOk,ex,Bool.and_eq_false_iff,decide_eq_false_iff_not]; left; right; omega)))
  have hq:fB f l bs k≤1152921504606846977 / absI f.cs[k].n:=by rw [hfb]; have:=of_decide_eq_false hc105; omega
  have hq1:0≤absI f.cs[k].n * fB f l bs k∧absI f.cs[k].n * fB f l bs k≤1152921504606846977:=⟨Int.mul_nonneg (absI_nn _) hfbb.1,by have:=Int.mul_le_mul_of_nonneg_left hq (absI_nn f.cs[k].n); have h2:=Int.mul_ediv_self_le (x:=1152921504606846977) (k:=absI f.cs[k].n) (by omega); omega⟩
  have hs:fS f l bs (k+1)=fS f l bs k+absI f.cs[k].n * fB f l bs k:=by show fS f l bs k+absI (f.cs.getD k default).n * fB f l bs k=_; rw [ex]
  have hsk:0≤fS f l bs k∧fS f l bs k≤1152921504606846977:=hsum k (Nat.le_refl _)
  refine OpG.lk (LOp.call bod103 rfl (abs_p f.cs[k].n (by omega) (by omega) (by omega))) ?_
  refine OpG.lk (LOp.mulI rfl rfl (by rw [← hfb]; omega) (by rw [← hfb]; omega)) ?_
  refine OpG.lk (lJ rfl rfl (by rw [← hfb]; omega) (by rw [← hfb]; omega)) ?_
  refine cB (fun hc114=>?_) (fun hc114=>?_)
  ·exact rV Tryz.results67 rfl (vi_eq (fV_hit hlt (by have:=of_decide_eq_true hc114; simp only [fOk,hs,Bool.and_eq_false_iff,decide_eq_false_iff_not]; right; rw [hfb]; omega)))
  refine ⟨by omega,?_⟩
  refine ⟨(f.cs.length - (k+1)),⟨fL [(2,vsA l),(3,isA bs),(4,.ptr 0 0 0),(5,.ptr 1 0 0),(9,.v (.int .i64 (fS f l bs (k+1)))),(10,.v (.int .i64 (((k+1):Nat):Int)))],hLz [(0,⟨0,liA f,0,false⟩),(1,⟨0,clA c,0,false⟩)],2⟩,by omega,(cO (.cons rfl rfl (.cons rfl rfl (.cons rfl rfl (.cons rfl rfl (.cons (by exact vi_eq (by rw [hs,hfb])) rfl (.cons rfl rfl .nil)))))) (.cons rfl rfl rfl (.cons rfl rfl rfl .nil))),(k+1),rfl,rfl,?_⟩
  refine ⟨by omega,fun j h=>?_⟩
  rcases Nat.lt_succ_iff_lt_or_eq.1 h with h | rfl
  ·exact hj j h
  simp only [fOk,hbad,hty,Bool.not_false,Bool.true_and,Bool.and_eq_true,decide_eq_true_eq]; exact ⟨by rw [ex]; exact hq,by rw [hs,hfb]; have:=of_decide_eq_false hc114; omega⟩
 exact rV Tryz.results67 rfl (vi_eq (fV_end hw hk hge hj))
end Go.Proofs.YtbhhmbchdponjaaGreatDoor
namespace Go.Proofs.YtbhhmbchdponjaaGreatDoor
set_option linter.unusedVariables false
set_option linter.unusedSimpArgs false
open Go.RowKit
def bV (c:PCl) (l:List PVar) (bs:List Int) (j:Nat):Int:=if (c.aux.getD j default).by_=0 then 16 else fV (c.aux.getD j default).of_ c.nn l bs / (c.aux.getD j default).by_+1
def bsAt (c:PCl) (l:List PVar):Nat→List Int
 | 0=>[]
 | j+1=>bsAt c l j++[bV c l (bsAt c l j) j]
theorem bsAt_len (c:PCl) (l:List PVar):∀ k,(bsAt c l k).length=k
 | 0=>rfl
 | k+1=>by simp [bsAt,bsAt_len c l k]
def auxP (c:PCl) (l:List PVar) (j:Nat):Bool :=
 if (c.aux.getD j default).by_=0 then !(decide (0 < ((c.aux.getD j default).of_.cs.length:Int))||!((c.aux.getD j default).of_.k==0))&&txtB (c.aux.getD j default).tx c.nn l
 else wiB (c.aux.getD j default).by_ 1 1000&&(c.aux.getD j default).tx==0&&!decide (fV (c.aux.getD j default).of_ c.nn l (bsAt c l j) < 0)
def intP (c:PCl) (l:List PVar) (j:Nat):Bool:=!decide (fV (c.ints.getD j default).l c.nn l (bsAt c l c.aux.length) < 0)
def tstP (c:PCl) (l:List PVar) (j:Nat):Bool:=tesB (c.tests.getD j default)&&txtB (c.tests.getD j default).v c.nn l
def clB (c:PCl) (l:List PVar):Bool:=ascB c.nul l.length&&ascB c.nn l.length&&allN c.aux.length (auxP c l)&&allN c.ints.length (intP c l)&&allN c.tests.length (tstP c l)&&(paiB c.same c.nn l&&paiB c.diff c.nn l)
structure PCl.Ok (c:PCl):Prop where
 nul:c.nul.length≤1000000000
 nn:c.nn.length≤1000000000
 aux:c.aux.length≤1000000000
 ints:c.ints.length≤1000000000
 tests:c.tests.length≤1000000000
 same:c.same.length≤1000000000
 diff:c.diff.length≤1000000000
 auxc:∀ a∈c.aux,a.of_.cs.length≤1000000000
 intc:∀ a∈c.ints,a.l.cs.length≤1000000000
 tes:∀ a∈c.tests,a.s.size≤1000000000
theorem fV_le {f:PLin} {nn:List Int} {l:List PVar} {bs:List Int} (hbs:∀ b∈bs,0≤b∧b≤4611686018427387904):fV f nn l bs≤1152921504606846977:=by
 unfold fV
 split
 ·rename_i h
  simp only [Bool.and_eq_true] at h
  exact (fS_rng h.1 hbs (allN_iff.1 h.2) _ (Nat.le_refl _)).2
 omega
theorem bsAt_rng {c:PCl} {l:List PVar}:∀ k,(∀ j,j < k→auxP c l j=true)→∀ b∈bsAt c l k,0≤b∧b≤4611686018427387904
 | 0,_,b,hb=>by cases hb
 | k+1,h,b,hb=>by
  have ih:=bsAt_rng k (fun j hj=>h j (by omega))
  rcases List.mem_append.1 hb with hb | hb
  ·exact ih b hb
  ·simp only [List.mem_singleton] at hb
   subst hb
   have h1:=h k (by omega)
   unfold bV
   split
   ·omega
   ·rename_i h0
    unfold auxP at h1
    rw [if_neg h0] at h1
    simp only [Bool.and_eq_true,wiB,decide_eq_true_eq,Bool.not_eq_true',decide_eq_false_iff_not,beq_iff_eq] at h1
    have h2:=fV_le (f:=(c.aux.getD k default).of_) (nn:=c.nn) (l:=l) ih
    have h3:=Int.ediv_le_self (a:=fV (c.aux.getD k default).of_ c.nn l (bsAt c l k)) (c.aux.getD k default).by_ (by omega)
    have h4:=Int.ediv_nonneg (a:=fV (c.aux.getD k default).of_ c.nn l (bsAt c l k)) (b:=(c.aux.getD k default).by_) (by omega) (by omega)
    omega
theorem Src.slB {η:Heap} {id ver w z len:Nat} {cs news:List AV} (hb:η id=some ⟨w,cs,z,false⟩) (hv:w=ver) (hne:Nat.beq len 0=false) (hc:takeFrom 0 news.length cs=some news):Src η [id] (.sl id ver 0 len) len news:=Src.sl hb hv rfl hne hc
theorem low_fl (u:Nat):∀ bs:List Int,lowL u ((bs.map iA).flatten)=true
 | []=>rfl
 | b :: bs=>by
  have:=low_fl u bs
  simpa [iA,lowL,AV.lowB] using this
theorem fl_len:∀ bs:List Int,((bs.map iA).flatten).length=bs.length
 | []=>rfl
 | b :: bs=>by have:=fl_len bs; simp [iA] at this ⊢; omega
theorem bs_step0 {c:PCl} {l:List PVar} {k:Nat} (hlt:k < c.aux.length) (h0:c.aux[k].by_=0):((bsAt c l k).map iA).flatten++[.v (.int .i64 16)]=((bsAt c l (k+1)).map iA).flatten:=by
 have e:bV c l (bsAt c l k) k=16:=by unfold bV; rw [getD_at hlt,if_pos h0]
 show _=((bsAt c l k++[bV c l (bsAt c l k) k]).map iA).flatten
 rw [e]; simp [iA]
theorem bs_step1 {c:PCl} {l:List PVar} {k:Nat} (hlt:k < c.aux.length) (h0:¬ c.aux[k].by_=0):((bsAt c l k).map iA).flatten++[.v (.int .i64 (fV c.aux[k].of_ c.nn l (bsAt c l k) / c.aux[k].by_+1))]=((bsAt c l (k+1)).map iA).flatten:=by
 have e:bV c l (bsAt c l k) k=fV c.aux[k].of_ c.nn l (bsAt c l k) / c.aux[k].by_+1:=by unfold bV; rw [getD_at hlt,if_neg h0]
 show _=((bsAt c l k++[bV c l (bsAt c l k) k]).map iA).flatten
 rw [e]; simp [iA]
theorem bb_eq {w z:Nat} {cs cs':List AV} (h:cs=cs'):some (Blk.mk w cs z false)=some (Blk.mk w cs' z false):=by rw [h]
theorem FzP.bounds {fp:List Nat} {η:Heap} {id k:Nat} {bs:List Int} (hid:id∈fp) (hb:η id=some ⟨k,(bs.map iA).flatten,1,Nat.beq k 0⟩) (hk:bs.length=k):FzP fp η (.sl id k 0 k) (isA bs):=by
 cases k with
 | zero=>
  have h0:bs=[]:=List.eq_nil_of_length_eq_zero hk
  subst h0
  intro C hg hη x hx
  obtain ⟨e,_,_⟩:=hx.slnil_inv ((hη id hid).trans hb) rfl rfl
  subst e
  exact .tree0 (by unfold maxLen; omega)
 | succ k=>exact FzP.slMap (f:=iA) hid hb rfl rfl rfl rfl hk (fun a _=>⟨rfl,rfl⟩)
theorem clB_aux {c:PCl} {l:List PVar} {k:Nat} (hlt:k < c.aux.length) (h:auxP c l k=false):false=clB c l:=by unfold clB; rw [allN_hit hlt h]; simp
theorem clB_int {c:PCl} {l:List PVar} {k:Nat} (hlt:k < c.ints.length) (h:intP c l k=false):false=clB c l:=by unfold clB; rw [allN_hit hlt h]; simp
theorem clB_tst {c:PCl} {l:List PVar} {k:Nat} (hlt:k < c.tests.length) (h:tstP c l k=false):false=clB c l:=by unfold clB; rw [allN_hit hlt h]; simp
theorem bod65:bodied Tryz.prog 65=true:=by kernel_rfl
theorem bod66:bodied Tryz.prog 66=true:=by kernel_rfl
theorem bod67:bodied Tryz.prog 67=true:=by kernel_rfl
theorem bod69:bodied Tryz.prog 69=true:=by kernel_rfl
theorem bod70:bodied Tryz.prog 70=true:=by kernel_rfl
theorem by2:(Tryz.prog.info? 2).map (·.bytes)=some 8:=by kernel_rfl
theorem zr2:zeroOf Tryz.prog 2=some (.int .i64 0):=by kernel_rfl
set_option maxRecDepth 100000 in
set_option maxHeartbeats 4000000 in
theorem cl_p (c:PCl) (l:List PVar) (hc:c.Ok) (hl:l.length≤1000000000):PCall Tryz.prog 31 [.agg (clA c),vsA l] (.v (.bool (clB c l))):=by
 refine PRet.eq (ovT [15,22,56,67,70,85,86,105,119,130,137,143] [] Tryz.func31 rfl rfl ?_)
 try refine LenG.of ?_
 refine OpG.lk (LOp.call bod65 rfl (asc_p c.nul _ hc.nul)) ?_
 refine cB (fun hg17=>?_) (fun hg17=>?_)
 ·refine cT ?_
  refine rV Tryz.results31 rfl ?_
  refine vb_eq ?_; unfold clB; simp_all; done
 try refine LenG.of ?_
 refine OpG.lk (LOp.call bod65 rfl (asc_p c.nn _ hc.nn)) ?_
 refine cB (fun hc24=>?_) (fun hc24=>?_)
 ·refine rV Tryz.results31 rfl ?_
  refine vb_eq ?_; unfold clB; simp_all; done
 have hn12:ascB c.nul l.length=true∧ascB c.nn l.length=true:=by simp_all
 obtain ⟨hn1,hn2⟩:=hn12
 refine LpG.via (fun _ h=>AWP.lazyT 5 1 rfl 2 rfl h) ?_
 refine LpG.loop (fun n s=>∃ k:Nat,n=(c.aux.length - k)∧s=⟨fL [(1,vsA l),(2,.ptr 0 0 0),(5,.sl 1 k 0 k),(6,.v (.int .i64 ((k:Nat):Int)))],hLz [(0,⟨0,clA c,0,false⟩),(1,⟨k,((bsAt c l k).map iA).flatten,1,Nat.beq k 0⟩)],2⟩∧(k≤c.aux.length∧∀ j,j < k→auxP c l j=true)) (n:=(c.aux.length - 0)) (s1:=⟨fL [(1,vsA l),(2,.ptr 0 0 0),(5,.sl 1 0 0 0),(6,.v (.int .i64 ((0:Nat):Int)))],hLz [(0,⟨0,clA c,0,false⟩),(1,⟨0,((bsAt c l 0).map iA).flatten,1,Nat.beq 0 0⟩)],2⟩) (cO (.cons rfl rfl (.cons rfl rfl (.cons rfl rfl (.cons rfl rfl .nil)))) (.cons rfl rfl rfl (.cons (by rfl) rfl (low_fl _ _) .nil))) ⟨0,rfl,rfl,⟨Nat.zero_le _,fun j h=>absurd h (Nat.not_lt_zero j)⟩⟩ ?_
 rintro n s ⟨k,rfl,rfl,hinv⟩
 obtain ⟨hk,hj⟩:=hinv
 have haux:=hc.aux
 try refine LenG.of ?_
 refine cL (fun hlt=>?_) (fun hge=>?_)
 ·have ea:c.aux.getD k default=c.aux[k]:=getD_at hlt
  refine IdxG.of (by first | assumption | omega | decide) ?_
  refine cE (fun h0=>?_) (fun h0=>?_)
  ·try refine LenG.of ?_
   refine cB (fun hg45=>?_) (fun hg45=>?_)
   ·refine cT ?_
    refine cT ?_
    exact rV Tryz.results31 rfl (vb_eq (clB_aux hlt (by unfold auxP; rw [ea,if_pos h0]; simp_all; done)))
   refine cB (fun hg51=>?_) (fun hg51=>?_)
   ·refine cT ?_
    exact rV Tryz.results31 rfl (vb_eq (clB_aux hlt (by unfold auxP; rw [ea,if_pos h0]; simp_all; done)))
   refine OpG.lk (LOp.call bod66 rfl (txt_p c.aux[k].tx c l hc.nn hl)) ?_
   refine cB (fun hc58=>?_) (fun hc58=>?_)
   ·have hax:auxP c l k=false:=by unfold auxP; rw [ea,if_pos h0]; simp_all
    exact rV Tryz.results31 rfl (vb_eq (clB_aux hlt hax))
   have hax:auxP c l k=true:=by unfold auxP; rw [ea,if_pos h0]; simp_all
   refine OpG.mk _ _ _ 4 (LOp.appendA (m:=1) (news:=[.v (.int .i64 _)]) Tryz.underlying134 sz2 zr2 by2 rfl rfl rfl rfl (by rw [fl_len,bsAt_len,Nat.mul_one]) (Src.slB rfl rfl rfl rfl) (by decide) rfl rfl (by omega) (by omega) (by unfold TV; omega)) rfl rfl ?_
   refine ⟨by omega,?_⟩
   refine ⟨(c.aux.length - (k+1)),⟨fL [(1,vsA l),(2,.ptr 0 0 0),(5,.sl 1 (k+1) 0 (k+1)),(6,.v (.int .i64 (((k+1):Nat):Int)))],hLz [(0,⟨0,clA c,0,false⟩),(1,⟨(k+1),((bsAt c l (k+1)).map iA).flatten,1,Nat.beq (k+1) 0⟩)],2⟩,by omega,(cO (.cons rfl rfl (.cons rfl rfl (.cons rfl rfl (.cons rfl rfl .nil)))) (.cons rfl rfl rfl (.cons (by exact bb_eq (bs_step0 hlt h0)) rfl (low_fl _ _) .nil))),(k+1),rfl,rfl,?_⟩
   refine ⟨by omega,fun j h=>?_⟩
   rcases Nat.lt_succ_iff_lt_or_eq.1 h with h | rfl
   ·exact hj j h
   exact hax
  refine OpG.lk (LOp.callB [1] bod67 rfl (fun i h h'=>match i,h with | 0,_=>FzP.pure rfl | 1,_=>FzP.pure rfl | 2,_=>FzP.pure rfl | 3,_=>FzP.bounds (List.mem_singleton.2 rfl) rfl (bsAt_len _ _ _)) (form_p c.aux[k].of_ c l (bsAt c l k) (hc.auxc _ (List.getElem_mem _)) hc.nn hl (by rw [bsAt_len]; omega) (bsAt_rng k hj))) ?_
  refine OpG.lk (LOp.call bod68 rfl (wi_p c.aux[k].by_ 1 1000)) ?_
  refine cB (fun hg72=>?_) (fun hg72=>?_)
  ·refine cT ?_
   refine cT ?_
   exact rV Tryz.results31 rfl (vb_eq (clB_aux hlt (by unfold auxP; rw [ea,if_neg h0]; simp_all; done)))
  refine cB (fun hg77=>?_) (fun hg77=>?_)
  ·refine cT ?_
   exact rV Tryz.results31 rfl (vb_eq (clB_aux hlt (by unfold auxP; rw [ea,if_neg h0]; simp_all; done)))
  refine cB (fun hc80=>?_) (fun hc80=>?_)
  ·have hax:auxP c l k=false:=by unfold auxP; rw [ea,if_neg h0]; simp_all
   exact rV Tryz.results31 rfl (vb_eq (clB_aux hlt hax))
  have hax:auxP c l k=true:=by unfold auxP; rw [ea,if_neg h0]; simp_all
  have hq:=hax
  unfold auxP at hq
  rw [ea,if_neg h0] at hq
  simp only [Bool.and_eq_true,wiB,decide_eq_true_eq,Bool.not_eq_true',decide_eq_false_iff_not,beq_iff_eq] at hq
  have hfle:=fV_le (f:=c.aux[k].of_) (nn:=c.nn) (l:=l) (bsAt_rng k hj)
  have hd1:=Int.ediv_le_self (a:=fV c.aux[k].of_ c.nn l (bsAt c l k)) c.aux[k].by_ (by omega)
  have hd2:=Int.ediv_nonneg (a:=fV c.aux[k].of_ c.nn l (bsAt c l k)) (b:=c.aux[k].by_) (by omega) (by omega)
  refine OpG.lk (LOp.quoI rfl rfl (by omega) (by omega) (by omega)) ?_
  refine OpG.lk (lJ rfl rfl (by omega) (by omega)) ?_
  refine OpG.mk _ _ _ 4 (LOp.appendA (m:=1) (news:=[.v (.int .i64 _)]) Tryz.underlying134 sz2 zr2 by2 rfl rfl rfl rfl (by rw [fl_len,bsAt_len,Nat.mul_one]) (Src.slB rfl rfl rfl rfl) (by decide) rfl rfl (by omega) (by omega) (by unfold TV; omega)) rfl rfl ?_
  refine ⟨by omega,?_⟩
  refine ⟨(c.aux.length - (k+1)),⟨fL [(1,vsA l),(2,.ptr 0 0 0),(5,.sl 1 (k+1) 0 (k+1)),(6,.v (.int .i64 (((k+1):Nat):Int)))],hLz [(0,⟨0,clA c,0,false⟩),(1,⟨(k+1),((bsAt c l (k+1)).map iA).flatten,1,Nat.beq (k+1) 0⟩)],2⟩,by omega,(cO (.cons rfl rfl (.cons rfl rfl (.cons rfl rfl (.cons rfl rfl .nil)))) (.cons rfl rfl rfl (.cons (by exact bb_eq (bs_step1 hlt h0)) rfl (low_fl _ _) .nil))),(k+1),rfl,rfl,?_⟩
  refine ⟨by omega,fun j h=>?_⟩
  rcases Nat.lt_succ_iff_lt_or_eq.1 h with h | rfl
  ·exact hj j h
  exact hax
 have hA:allN c.aux.length (auxP c l)=true:=allN_end hk hge hj
 have hkA:k=c.aux.length:=by omega
 subst hkA
 have hAj:=hj
 clear hj hk hge
 refine LpG.loop (fun n s=>∃ k2:Nat,n=(c.ints.length - k2)∧s=⟨fL [(1,vsA l),(2,.ptr 0 0 0),(5,.sl 1 c.aux.length 0 c.aux.length),(9,.v (.int .i64 ((k2:Nat):Int)))],hLz [(0,⟨0,clA c,0,false⟩),(1,⟨c.aux.length,((bsAt c l c.aux.length).map iA).flatten,1,Nat.beq c.aux.length 0⟩)],2⟩∧(k2≤c.ints.length∧∀ j,j < k2→intP c l j=true)) (n:=(c.ints.length - 0)) (s1:=⟨fL [(1,vsA l),(2,.ptr 0 0 0),(5,.sl 1 c.aux.length 0 c.aux.length),(9,.v (.int .i64 ((0:Nat):Int)))],hLz [(0,⟨0,clA c,0,false⟩),(1,⟨c.aux.length,((bsAt c l c.aux.length).map iA).flatten,1,Nat.beq c.aux.length 0⟩)],2⟩) (cO (.cons rfl rfl (.cons rfl rfl (.cons rfl rfl (.cons rfl rfl .nil)))) (.cons rfl rfl rfl (.cons rfl rfl (low_fl _ _) .nil))) ⟨0,rfl,rfl,⟨Nat.zero_le _,fun j h=>absurd h (Nat.not_lt_zero j)⟩⟩ ?_
 rintro n s ⟨k2,rfl,rfl,hinv⟩
 obtain ⟨hk,hj⟩:=hinv
 have haux:=hc.aux
 have hints:=hc.ints
 try refine LenG.of ?_
 refine cL (fun hlt=>?_) (fun hge=>?_)
 ·refine IdxG.of (by first | assumption | omega | decide) ?_
  refine OpG.lk (LOp.callB [1] bod67 rfl (fun i h h'=>match i,h with | 0,_=>FzP.pure rfl | 1,_=>FzP.pure rfl | 2,_=>FzP.pure rfl | 3,_=>FzP.bounds (List.mem_singleton.2 rfl) rfl (bsAt_len _ _ _)) (form_p c.ints[k2].l c l (bsAt c l c.aux.length) (hc.intc _ (List.getElem_mem _)) hc.nn hl (by rw [bsAt_len]; omega) (bsAt_rng c.aux.length hAj))) ?_
  refine ⟨by kernel_rfl,?_⟩
  refine cB (fun hc106=>?_) (fun hc106=>?_)
  ·exact rV Tryz.results31 rfl (vb_eq (clB_int hlt (by simp only [intP,getD_at hlt]; simp_all)))
  refine ⟨by omega,?_⟩
  refine ⟨(c.ints.length - (k2+1)),⟨fL [(1,vsA l),(2,.ptr 0 0 0),(5,.sl 1 c.aux.length 0 c.aux.length),(9,.v (.int .i64 (((k2+1):Nat):Int)))],hLz [(0,⟨0,clA c,0,false⟩),(1,⟨c.aux.length,((bsAt c l c.aux.length).map iA).flatten,1,Nat.beq c.aux.length 0⟩)],2⟩,by omega,(cO (.cons rfl rfl (.cons rfl rfl (.cons rfl rfl (.cons rfl rfl .nil)))) (.cons rfl rfl rfl (.cons rfl rfl (low_fl _ _) .nil))),(k2+1),rfl,rfl,?_⟩
  refine ⟨by omega,fun j h=>?_⟩
  rcases Nat.lt_succ_iff_lt_or_eq.1 h with h | rfl
  ·exact hj j h
  simp only [intP,getD_at hlt]; simp_all
 have hB:allN c.ints.length (intP c l)=true:=allN_end hk hge hj
 clear hj hk hge
 refine LpG.loop (fun n s=>∃ k3:Nat,n=(c.tests.length - k3)∧s=⟨fL [(1,vsA l),(2,.ptr 0 0 0),(10,.v (.int .i64 ((k3:Nat):Int)))],hLz [(0,⟨0,clA c,0,false⟩)],1⟩∧(k3≤c.tests.length∧∀ j,j < k3→tstP c l j=true)) (n:=(c.tests.length - 0)) (s1:=⟨fL [(1,vsA l),(2,.ptr 0 0 0),(10,.v (.int .i64 ((0:Nat):Int)))],hLz [(0,⟨0,clA c,0,false⟩)],1⟩) (cO (.cons rfl rfl (.cons rfl rfl (.cons rfl rfl .nil))) (.cons rfl rfl rfl .nil)) ⟨0,rfl,rfl,⟨Nat.zero_le _,fun j h=>absurd h (Nat.not_lt_zero j)⟩⟩ ?_
 rintro n s ⟨k3,rfl,rfl,hinv⟩
 obtain ⟨hk,hj⟩:=hinv
 have htests:=hc.tests
 try refine LenG.of ?_
 refine cL (fun hlt=>?_) (fun hge=>?_)
 ·refine IdxG.of (by first | assumption | omega | decide) ?_
  refine OpG.lk (LOp.call bod69 rfl (tes_p c.tests[k3] (hc.tes _ (List.getElem_mem _)))) ?_
  refine cB (fun hg121=>?_) (fun hg121=>?_)
  ·refine ⟨by kernel_rfl,?_⟩
   refine cT ?_
   exact rV Tryz.results31 rfl (vb_eq (clB_tst hlt (by simp only [tstP,getD_at hlt]; simp_all)))
  refine IdxG.of (by first | assumption | omega | decide) ?_
  refine OpG.lk (LOp.call bod66 rfl (txt_p c.tests[k3].v c l hc.nn hl)) ?_
  refine ⟨by kernel_rfl,?_⟩
  refine cB (fun hc132=>?_) (fun hc132=>?_)
  ·exact rV Tryz.results31 rfl (vb_eq (clB_tst hlt (by simp only [tstP,getD_at hlt]; simp_all)))
  refine ⟨by omega,?_⟩
  refine ⟨(c.tests.length - (k3+1)),⟨fL [(1,vsA l),(2,.ptr 0 0 0),(10,.v (.int .i64 (((k3+1):Nat):Int)))],hLz [(0,⟨0,clA c,0,false⟩)],1⟩,by omega,(cO (.cons rfl rfl (.cons rfl rfl (.cons rfl rfl .nil))) (.cons rfl rfl rfl .nil)),(k3+1),rfl,rfl,?_⟩
  refine ⟨by omega,fun j h=>?_⟩
  rcases Nat.lt_succ_iff_lt_or_eq.1 h with h | rfl
  ·exact hj j h
  simp only [tstP,getD_at hlt]; simp_all
 refine OpG.lk (LOp.call bod70 rfl (pai_p c.same c l hc.same hc.nn hl)) ?_
 refine cB (fun hg138=>?_) (fun hg138=>?_)
 ·refine OpG.lk (LOp.call bod70 rfl (pai_p c.diff c l hc.diff hc.nn hl)) ?_
  refine rV Tryz.results31 rfl ?_
  refine vb_eq ?_; unfold clB; rw [hn1,hn2,hA,hB,allN_end hk hge hj]; simp_all; done
 refine rV Tryz.results31 rfl ?_
 refine vb_eq ?_; unfold clB; simp_all; done
end Go.Proofs.YtbhhmbchdponjaaGreatDoor
namespace Go.Proofs.YtbhhmbchdponjaaGreatDoor
set_option linter.unusedVariables false
set_option linter.unusedSimpArgs false
open Go.RowKit
abbrev sA (s:ByteArray):List AV:=[.v (.string s)]
abbrev uA32 (n:Int):List AV:=[.v (.int .u32 n)]
abbrev uA (n:Int):List AV:=[.v (.int .u8 n)]
structure KL (α:Type) where
 k:Nat
 L:List α
theorem row_i:RowF iA 1:=⟨fun _=>rfl,fun _=>rfl,fun _ _=>rfl,fun _ _=>rfl,fun _ _=>rfl,fun _=>rfl⟩
theorem row_s:RowF sA 1:=⟨fun _=>rfl,fun _=>rfl,fun _ _=>rfl,fun _ _=>rfl,fun _ _=>rfl,fun _=>rfl⟩
theorem row_u32:RowF uA32 1:=⟨fun _=>rfl,fun _=>rfl,fun _ _=>rfl,fun _ _=>rfl,fun _ _=>rfl,fun _=>rfl⟩
theorem row_u8:RowF uA 1:=⟨fun _=>rfl,fun _=>rfl,fun _ _=>rfl,fun _ _=>rfl,fun _ _=>rfl,fun _=>rfl⟩
abbrev FitS (s:ByteArray):Prop:=s.size≤140737488351232
abbrev FitL {α:Type} (l:List α) (F:α→Prop):Prop:=l.length≤140737488355328∧∀ x∈l,F x
structure GVal where
 kind_:Int
 int_:Int
 text_:ByteArray
abbrev gvA (x:GVal):List AV:=[.v (.int .i64 x.kind_),.v (.int .i64 x.int_),.v (.string x.text_)]
structure FitVal (x:GVal):Prop where
 text_:FitS x.text_
instance:Inhabited GVal:=⟨⟨0,0,⟨#[]⟩⟩⟩
structure GTst where
 var_:Int
 kind_:Int
 negated_:Bool
 text_:ByteArray
abbrev tsA (x:GTst):List AV:=[.v (.int .i64 x.var_),.v (.int .i64 x.kind_),.v (.bool x.negated_),.v (.string x.text_)]
structure FitTst (x:GTst):Prop where
 text_:FitS x.text_
instance:Inhabited GTst:=⟨⟨0,0,false,⟨#[]⟩⟩⟩
structure KB where
 k:Nat
 b:Bool
end Go.Proofs.YtbhhmbchdponjaaGreatDoor
