/- Texts of the claim. -/
import Derived.Test.YtfelpgeolclnbaaGreatDoorV2
import Derived.Test.YtfelpgeolclnbaaGreatDoorShelf
namespace Go.Proofs.YtfelpgeolclnbaaGreatDoor
set_option linter.unusedVariables false
set_option linter.unusedSimpArgs false
open Go.RowKit
theorem mul_p (x y:Int) (h1:0≤x) (h2:x≤18446744073709551615) (h3:0≤y) (h4:y≤18446744073709551615):PCall Tryz.prog 91 [.v (.int .u64 x),.v (.int .u64 y)] (.tup [.v (.int .u64 (x * y / 18446744073709551616)),.v (.int .u64 (x * y % 18446744073709551616))]):=by
 obtain ⟨a,rfl⟩:=Int.eq_ofNat_of_zero_le h1
 obtain ⟨b,rfl⟩:=Int.eq_ofNat_of_zero_le h3
 intro T w vals ⟨hlen,hv⟩ hT
 have k0:=(hv 0 (by simp) (by simp at hlen; omega)).v_inv
 have k1:=(hv 1 (by simp) (by simp at hlen; omega)).v_inv
 have hvals:vals=#[.int .u64 (a:Int),.int .u64 (b:Int)]:=by
  apply Array.ext
  ·simpa using hlen.symm
  ·intro i hi hi'
   have:i=0∨i=1:=by simp at hi'; omega
   rcases this with rfl | rfl
   ·exact k0
   ·exact k1
 rw [hvals]
 refine (Tryz.bits_Mul64 a b (by omega) (by omega) w).mono ?_
 rintro e w' ⟨rfl,rfl⟩
 refine ⟨_,T,rfl,?_,fun _ h=>h,fun _ h=>.inl h,fun b' hb'=>hT b' hb',Below.refl _ _⟩
 refine .tup rfl (fun i h h'=>?_)
 have:i=0∨i=1:=by simp at h; omega
 rcases this with rfl | rfl
 ·have e:((a:Int) * (b:Int) / 18446744073709551616)=((a * b / 18446744073709551616:Nat):Int):=by rw [← Int.natCast_mul]; rfl
  simp only [List.getElem_cons_zero,e]
  exact .v _
 ·have e:((a:Int) * (b:Int) % 18446744073709551616)=((a * b % 18446744073709551616:Nat):Int):=by rw [← Int.natCast_mul]; rfl
  simp only [List.getElem_cons_succ,List.getElem_cons_zero,e]
  exact .v _
/-- The bound of a linear form, or one more than the greatest. -/
def uS (f:PLin) (l:List PVar) (bs:List Int) (k:Nat):Int:=min (fS f l bs k) 1152921504606846978
def uB (f:PLin) (l:List PVar) (bs:List Int):Int:=uS f l bs f.cs.length
theorem fS_nn {f:PLin} {l:List PVar} {bs:List Int} (hbs:∀ b∈bs,0≤b∧b≤4611686018427387904):∀ k,0≤fS f l bs k
 | 0=>absI_nn f.k
 | k+1=>by
  have ih:=fS_nn (f:=f) (l:=l) hbs k
  have h2:=Int.mul_nonneg (absI_nn (f.cs.getD k default).n) (fB_nn (f:=f) (l:=l) hbs k)
  show 0≤fS f l bs k+absI (f.cs.getD k default).n * fB f l bs k
  omega
theorem fS_mono {f:PLin} {l:List PVar} {bs:List Int} (hbs:∀ b∈bs,0≤b∧b≤4611686018427387904) (i:Nat):∀ k,fS f l bs i≤fS f l bs (i+k)
 | 0=>Int.le_refl _
 | k+1=>by
  have ih:=fS_mono (f:=f) (l:=l) hbs i k
  have h2:=Int.mul_nonneg (absI_nn (f.cs.getD (i+k) default).n) (fB_nn (f:=f) (l:=l) hbs (i+k))
  show fS f l bs i≤fS f l bs (i+k)+absI (f.cs.getD (i+k) default).n * fB f l bs (i+k)
  omega
theorem uB_hit {f:PLin} {l:List PVar} {bs:List Int} {k:Nat} (hbs:∀ b∈bs,0≤b∧b≤4611686018427387904) (hlt:k < f.cs.length) (h:1152921504606846977 < absI (f.cs.getD k default).n * fB f l bs k):1152921504606846978=uB f l bs:=by
 have h1:=fS_mono (f:=f) (l:=l) hbs (k+1) (f.cs.length - (k+1))
 rw [show k+1+(f.cs.length - (k+1))=f.cs.length by omega] at h1
 have h2:fS f l bs (k+1)=fS f l bs k+absI (f.cs.getD k default).n * fB f l bs k:=rfl
 have h3:=fS_nn (f:=f) (l:=l) hbs k
 unfold uB uS
 omega
theorem uS_next {f:PLin} {l:List PVar} {bs:List Int} {k:Nat} {p:Int} (hp:p=absI (f.cs.getD k default).n * fB f l bs k) (h0:0≤p):min (uS f l bs k+p) 1152921504606846978=uS f l bs (k+1):=by
 have h2:fS f l bs (k+1)=fS f l bs k+absI (f.cs.getD k default).n * fB f l bs k:=rfl
 unfold uS
 rw [h2,← hp]
 omega
theorem uS_rng {f:PLin} {l:List PVar} {bs:List Int} (hbs:∀ b∈bs,0≤b∧b≤4611686018427387904) (k:Nat):0≤uS f l bs k∧uS f l bs k≤1152921504606846978:=by
 have h3:=fS_nn (f:=f) (l:=l) hbs k
 unfold uS
 omega
/-- What is known of the bound of an auxiliary variable that is a quotient. -/
theorem aux_q {c:PCl} {l:List PVar} {m j:Nat} (hA:∀ j,j < m→auxP c l j=true) (hj:j < m) (hjl:j < c.aux.length) (h0:¬ c.aux[j].by_=0):1≤c.aux[j].by_∧c.aux[j].by_≤1000∧c.aux[j].tx=0∧0≤fV c.aux[j].of_ c.nn l (bsAt c l j)∧fV c.aux[j].of_ c.nn l (bsAt c l j)≤1152921504606846977:=by
 have h1:=hA j hj
 unfold auxP at h1
 rw [getD_at hjl,if_neg h0] at h1
 simp only [Bool.and_eq_true,wiB,decide_eq_true_eq,Bool.not_eq_true',decide_eq_false_iff_not,beq_iff_eq] at h1
 have h2:=fV_le (f:=c.aux[j].of_) (nn:=c.nn) (l:=l) (bsAt_rng j (fun i hi=>hA i (by omega)))
 exact ⟨h1.1.1.1,h1.1.1.2,h1.1.2,by omega,h2⟩
theorem bsAt_at (c:PCl) (l:List PVar) {m j:Nat} (h:j < m):(bsAt c l m).getD j 0=bV c l (bsAt c l j) j:=by
 induction m with
 | zero=>omega
 | succ m ih=>
  have hlen:=bsAt_len c l m
  show (bsAt c l m++[bV c l (bsAt c l m) m]).getD j 0=_
  by_cases e:j < m
  ·rw [← ih e]
   simp [List.getD,List.getElem?_append_left (show j < (bsAt c l m).length by omega)]
  ·have:j=m:=by omega
   subst this
   simp [List.getD,hlen]
theorem fB_at {f:PLin} {c:PCl} {l:List PVar} {m j k:Nat} (hv:(f.cs.getD k default).v≥l.length) (hjv:(f.cs.getD k default).v - l.length=((j:Nat):Int)) (hj:j < m):fB f l (bsAt c l m) k=bV c l (bsAt c l j) j:=by
 unfold fB
 rw [if_pos hv,hjv,Int.toNat_natCast,bsAt_at c l hj]
theorem bod91:bodied Tryz.prog 91=true:=by kernel_rfl
theorem bod78:bodied Tryz.prog 78=true:=by kernel_rfl
theorem bod79:bodied Tryz.prog 79=true:=by kernel_rfl
set_option maxRecDepth 100000 in
set_option maxHeartbeats 4000000 in
theorem bnd_step (c:PCl) (l:List PVar) (m:Nat) (f:PLin) (hm:m≤c.aux.length) (hA:∀ j,j < m→auxP c l j=true) (hf:f.cs.length≤1000) (hk0:-1099511627777≤f.k∧f.k≤1099511627777) (hl:l.length≤1000) (haux:c.aux.length≤1000) (hcf:∀ i (h:i < f.cs.length),f.cs[i].v < l.length+m∧-1048576≤f.cs[i].n∧f.cs[i].n≤1048576)
  (ih:∀ j (h:j < c.aux.length),j < m→¬ c.aux[j].by_=0→PCall Tryz.prog 79 [.agg (liA c.aux[j].of_),.v (.int .i64 ((l.length:Nat):Int)),.tree 4 (c.aux.map axA)] (.v (.int .u64 (fV c.aux[j].of_ c.nn l (bsAt c l j))))):PCall Tryz.prog 79 [.agg (liA f),.v (.int .i64 ((l.length:Nat):Int)),.tree 4 (c.aux.map axA)] (.v (.int .u64 (uB f l (bsAt c l m)))):=by
 have hbs:=bsAt_rng (c:=c) (l:=l) m hA
 have hb0:min (absI f.k) 1152921504606846978=uS f l (bsAt c l m) 0:=rfl
 refine pB Tryz.func79 rfl Tryz.ntmps79 (Nat.le_of_ble_eq_true rfl) ?_
 refine wS (wR ?_)
 refine oW (LOp.bx rfl) rfl rfl 1 rfl ?_
 refine oL (lA (a:=.v _) rfl) rfl rfl ?_
 refine oN (aN (wS (wR ?_)))
 refine oL (lF fi98_0 rfl rfl rfl rfl rfl) rfl rfl ?_
 refine oL (lD row2 rfl rfl rfl rfl rfl) rfl rfl ?_
 refine oL (LOp.call bod78 rfl (pabs_p f.k (by omega) (by omega))) rfl rfl ?_
 refine oL (LOp.minU rfl rfl) rfl rfl ?_
 refine oL (lA (a:=.v _) rfl) rfl rfl ?_
 refine oN (aN (wS (wS (wR ?_))))
 refine oL (lF fi98_1 rfl rfl rfl rfl rfl) rfl rfl ?_
 refine oL (lD row96 rfl rfl rfl rfl rfl) rfl rfl ?_
 refine oL (lT rfl Tryz.underlying96 rfl) rfl rfl ?_
 refine oL (lM (a:=.v _) rfl) rfl rfl ?_
 refine oN (aN (wB ?_))
 refine wL (fun n s=>∃ k:Nat,n=(f.cs.length - k)∧s=⟨fL [(1,.v (.int .i64 ((l.length:Nat):Int))),(2,.tree 4 (c.aux.map axA)),(7,.v (.int .u64 (uS f l (bsAt c l m) k))),(19,csA f.cs),(20,.v (.int .i64 ((f.cs.length:Nat):Int))),(21,.v (.int .i64 ((k:Nat):Int)))],hLz [(0,⟨0,liA f,0,false⟩)],1⟩∧(k≤f.cs.length∧∀ j,j < k→(fun _=>true) j=true)) (n:=(f.cs.length - 0)) (s1:=⟨fL [(1,.v (.int .i64 ((l.length:Nat):Int))),(2,.tree 4 (c.aux.map axA)),(7,.v (.int .u64 (uS f l (bsAt c l m) 0))),(19,csA f.cs),(20,.v (.int .i64 ((f.cs.length:Nat):Int))),(21,.v (.int .i64 ((0:Nat):Int)))],hLz [(0,⟨0,liA f,0,false⟩)],1⟩) (cO (.cons rfl rfl (.cons rfl rfl (.cons (by first | rfl | exact vu_eq (uS_next (by rw [ex,hfb]; exact hlo) (by omega))) rfl (.cons rfl rfl (.cons rfl rfl (.cons rfl rfl .nil)))))) (.cons rfl rfl rfl .nil)) ⟨0,rfl,rfl,⟨Nat.zero_le _,fun j h=>absurd h (Nat.not_lt_zero j)⟩⟩ ?_
 rintro n s ⟨k,rfl,rfl,hinv⟩
 obtain ⟨hk,hj⟩:=hinv
 have hus:=uS_rng (f:=f) (l:=l) hbs k
 refine wS (wR ?_)
 refine oL (lP rfl (fun _ _=>nofun) (fun _=>rfl)) rfl rfl ?_
 refine oN (aN (wS ?_))
 refine wC rfl (fun hc22=>?_) (fun hc22=>?_)
 ·skip
  have hlt:k < f.cs.length:=Int.ofNat_lt.1 (of_decide_eq_true hc22)
  have ex:f.cs.getD k default=f.cs[k]:=getD_at hlt
  have hco:=hcf k hlt
  refine wK (aN (wS (wB (wS (wR ?_)))))
  refine oL (lI Tryz.underlying96 sz95 rfl rfl (by first | assumption | omega)) rfl rfl ?_
  refine oL (LOp.ldTN row95 rfl rfl) rfl rfl ?_
  refine oW (LOp.al zr95 rfl) rfl rfl 2 rfl ?_
  refine AOps.wr (LOp.st sz95 rfl rfl rfl rfl rfl rfl rfl rfl) rfl rfl rfl ?_
  refine oN (aN (wS (wR ?_)))
  refine oL (lA (a:=.v _) rfl) rfl rfl ?_
  refine oN (aN (wS (wS (wR ?_))))
  refine oL (lF fi95_0 rfl rfl rfl rfl rfl) rfl rfl ?_
  refine oL (lD row3 rfl rfl rfl rfl rfl) rfl rfl ?_
  refine oL (lM (a:=.v _) rfl) rfl rfl ?_
  refine oL (lP rfl (fun _ _=>nofun) (fun _=>rfl)) rfl rfl ?_
  refine oN (aN ?_)
  refine wC rfl (fun hc28=>?_) (fun hc28=>?_)
  ·skip
   have hge2:f.cs[k].v≥l.length:=of_decide_eq_true hc28
   obtain ⟨j,hjv⟩:=Int.eq_ofNat_of_zero_le (show 0≤f.cs[k].v - l.length by omega)
   have hjm:j < m:=by omega
   have hjl:j < c.aux.length:=by omega
   have hfa:fB f l (bsAt c l m) k=bV c l (bsAt c l j) j:=fB_at (by rw [ex]; exact hge2) (by rw [ex]; exact hjv) hjm
   refine wS (wR ?_)
   refine oL (lM (a:=.tree _ _) rfl) rfl rfl ?_
   refine oL (lF fi95_0 rfl rfl rfl rfl rfl) rfl rfl ?_
   refine oL (lD row3 rfl rfl rfl rfl rfl) rfl rfl ?_
   refine oL (lM (a:=.v _) rfl) rfl rfl ?_
   refine oL (LOp.subI rfl rfl (by omega) (by omega)) rfl rfl ?_
   refine oL (LOp.indexI Tryz.underlying71 sz107 rfl rfl hjv hjl) rfl rfl ?_
   refine oL (LOp.ldTN row107 rfl rfl) rfl rfl ?_
   refine oW (LOp.al zr107 rfl) rfl rfl 3 rfl ?_
   refine AOps.wr (LOp.st sz107 rfl rfl rfl rfl rfl rfl rfl rfl) rfl rfl rfl ?_
   refine oN (aN (wS (wR ?_)))
   refine oL (lF fi107_1 rfl rfl rfl rfl rfl) rfl rfl ?_
   refine oL (lD row2 rfl rfl rfl rfl rfl) rfl rfl ?_
   refine oL (lP rfl (fun _ _=>nofun) (fun _=>rfl)) rfl rfl ?_
   refine oN (aN ?_)
   refine wC rfl (fun hc38=>?_) (fun hc38=>?_)
   ·skip
    have hfb:fB f l (bsAt c l m) k=16:=by rw [hfa]; unfold bV; rw [getD_at hjl,if_pos (by simpa using hc38)]
    have hpa:0≤absI f.cs[k].n∧absI f.cs[k].n≤1048576:=by unfold absI; split <;> omega
    have hnn:0≤fB f l (bsAt c l m) k∧fB f l (bsAt c l m) k≤4611686018427387904:=⟨fB_nn hbs k,by rw [hfb]; omega⟩
    refine wR ?_
    refine oL (lA (a:=.v _) rfl) rfl rfl ?_
    refine oN (aN (wS (wR ?_)))
    refine oL (lF fi95_1 rfl rfl rfl rfl rfl) rfl rfl ?_
    refine oL (lD row2 rfl rfl rfl rfl rfl) rfl rfl ?_
    refine oL (LOp.call bod78 rfl (pabs_p f.cs[k].n (by omega) (by omega))) rfl rfl ?_
    refine oL (lM (a:=.v _) rfl) rfl rfl ?_
    refine oL (LOp.call bod91 rfl (mul_p _ _ hpa.1 (by omega) (by omega) (by omega))) rfl rfl ?_
    refine oL (lM (a:=.tup _) rfl) rfl rfl ?_
    refine oL (LOp.extract rfl rfl) rfl rfl ?_
    refine oL (LOp.extract rfl rfl) rfl rfl ?_
    refine oL (lA (a:=.v _) rfl) rfl rfl ?_
    refine oL (lA (a:=.v _) rfl) rfl rfl ?_
    refine oN (aN (wS (wS (wR ?_))))
    refine oL (lM (a:=.v _) rfl) rfl rfl ?_
    refine oL (lP rfl (fun _ _=>nofun) (fun _=>rfl)) rfl rfl ?_
    refine oL (lM (a:=.v _) rfl) rfl rfl ?_
    refine oB 59 rfl (fun hg59=>?_) (fun hg59=>?_)
    ·skip
     have hz:¬ absI f.cs[k].n * fB f l (bsAt c l m) k / 18446744073709551616=0:=by rw [hfb]; simpa using hg59
     have hp0:0≤absI f.cs[k].n * fB f l (bsAt c l m) k:=Int.mul_nonneg hpa.1 hnn.1
     have hbig:1152921504606846977 < absI f.cs[k].n * fB f l (bsAt c l m) k:=by omega
     refine oS rfl rfl ?_
     refine oS rfl rfl ?_
     refine oL (LOp.pkT (a:=.v _) rfl (by first | rfl | assumption) rfl) rfl rfl ?_
     refine oN (aN ?_)
     refine AWP.condT rfl ?_
     refine wS (wR ?_)
     refine oL (lA (a:=.v _) rfl) rfl rfl ?_
     refine oN (aN ?_)
     refine wT (aR (bR (aR (aR (bR (aR (?_)))))))
     refine ⟨.inr rfl,oV Tryz.results79 rfl rfl ?_⟩
     exact vu_eq (uB_hit hbs hlt (by rw [ex]; exact hbig))
    ·skip
     have hz:absI f.cs[k].n * fB f l (bsAt c l m) k / 18446744073709551616=0:=by rw [hfb]; simpa using hg59
     have hp0:0≤absI f.cs[k].n * fB f l (bsAt c l m) k:=Int.mul_nonneg hpa.1 hnn.1
     have hlo:absI f.cs[k].n * fB f l (bsAt c l m) k % 18446744073709551616=absI f.cs[k].n * fB f l (bsAt c l m) k:=by omega
     rw [hfb] at hz hp0 hlo
     refine oL (lM (a:=.v _) rfl) rfl rfl ?_
     refine oL (lP rfl (fun _ _=>nofun) (fun _=>rfl)) rfl rfl ?_
     refine oL (lK rfl rfl rfl) rfl rfl ?_
     refine oN (aN ?_)
     refine wC rfl (fun hc62=>?_) (fun hc62=>?_)
     ·skip
      have hbig:1152921504606846977 < absI f.cs[k].n * fB f l (bsAt c l m) k:=by have:=of_decide_eq_true hc62; rw [hfb]; omega
      refine wS (wR ?_)
      refine oL (lA (a:=.v _) rfl) rfl rfl ?_
      refine oN (aN ?_)
      refine wT (aR (bR (aR (aR (bR (aR (?_)))))))
      refine ⟨.inr rfl,oV Tryz.results79 rfl rfl ?_⟩
      exact vu_eq (uB_hit hbs hlt (by rw [ex]; exact hbig))
     ·skip
      have hle:=of_decide_eq_false hc62
      refine wK (aN (wR ?_))
      refine oL (lM (a:=.v _) rfl) rfl rfl ?_
      refine oL (lM (a:=.v _) rfl) rfl rfl ?_
      refine oL (LOp.addU rfl rfl (by omega) (by omega)) rfl rfl ?_
      refine oL (LOp.minU rfl rfl) rfl rfl ?_
      refine oL (lA (a:=.v _) rfl) rfl rfl ?_
      refine oN (bN (aN (wR ?_)))
      refine oL (lJ rfl rfl (by omega) (by omega)) rfl rfl ?_
      refine oL (lM (a:=.v _) rfl) rfl rfl ?_
      refine oN (aN ?_)
      refine ⟨(f.cs.length - (k+1)),⟨fL [(1,.v (.int .i64 ((l.length:Nat):Int))),(2,.tree 4 (c.aux.map axA)),(7,.v (.int .u64 (uS f l (bsAt c l m) (k+1)))),(19,csA f.cs),(20,.v (.int .i64 ((f.cs.length:Nat):Int))),(21,.v (.int .i64 (((k+1):Nat):Int)))],hLz [(0,⟨0,liA f,0,false⟩)],1⟩,by omega,(cO (.cons rfl rfl (.cons rfl rfl (.cons (by first | rfl | exact vu_eq (uS_next (by rw [ex,hfb]; exact hlo) (by omega))) rfl (.cons rfl rfl (.cons rfl rfl (.cons rfl rfl .nil)))))) (.cons rfl rfl rfl .nil)),(k+1),rfl,rfl,?_⟩
      refine ⟨by omega,fun j h=>?_⟩
      rcases Nat.lt_succ_iff_lt_or_eq.1 h with h | rfl
      ·exact hj j h
      ·rfl
   ·skip
    have hby:¬ c.aux[j].by_=0:=by simpa using hc38
    have hq:=aux_q hA hjm hjl hby
    have hd1:=Int.ediv_le_self (a:=fV c.aux[j].of_ c.nn l (bsAt c l j)) c.aux[j].by_ (by omega)
    have hd2:=Int.ediv_nonneg (a:=fV c.aux[j].of_ c.nn l (bsAt c l j)) (b:=c.aux[j].by_) (by omega) (by omega)
    have hfb:fB f l (bsAt c l m) k=fV c.aux[j].of_ c.nn l (bsAt c l j) / c.aux[j].by_+1:=by rw [hfa]; unfold bV; rw [getD_at hjl,if_neg hby]
    have hpa:0≤absI f.cs[k].n∧absI f.cs[k].n≤1048576:=by unfold absI; split <;> omega
    have hnn:0≤fB f l (bsAt c l m) k∧fB f l (bsAt c l m) k≤4611686018427387904:=⟨fB_nn hbs k,by rw [hfb]; omega⟩
    refine AWP.regD mixed ?_
    refine qL (lF fi107_0 rfl rfl rfl rfl rfl) rfl rfl ?_
    refine qL (LOp.ldN row98 rfl rfl rfl rfl rfl) rfl rfl ?_
    refine qL (lM (a:=.v _) rfl) rfl rfl ?_
    refine qL (lM (a:=.tree _ _) rfl) rfl rfl ?_
    refine qL (LOp.call bod79 rfl (ih j hjl hjm hby)) rfl rfl ?_
    refine qL (lF fi107_1 rfl rfl rfl rfl rfl) rfl rfl ?_
    refine qL (lD row2 rfl rfl rfl rfl rfl) rfl rfl ?_
    refine qL (LOp.cvtU Tryz.underlying2 Tryz.underlying156 rfl (by omega) (by omega)) rfl rfl ?_
    refine qL (LOp.quoU rfl rfl hq.2.2.2.1 (by omega) hq.1) rfl rfl ?_
    refine qL (LOp.addU rfl rfl (by omega) (by omega)) rfl rfl ?_
    refine qL (lA (a:=.v _) rfl) rfl rfl ?_
    refine SeqC.nil ⟨by kernel_rfl,?_⟩
    refine aN (wS (wR ?_))
    refine oL (lF fi95_1 rfl rfl rfl rfl rfl) rfl rfl ?_
    refine oL (lD row2 rfl rfl rfl rfl rfl) rfl rfl ?_
    refine oL (LOp.call bod78 rfl (pabs_p f.cs[k].n (by omega) (by omega))) rfl rfl ?_
    refine oL (lM (a:=.v _) rfl) rfl rfl ?_
    refine oL (LOp.call bod91 rfl (mul_p _ _ hpa.1 (by omega) (by omega) (by omega))) rfl rfl ?_
    refine oL (lM (a:=.tup _) rfl) rfl rfl ?_
    refine oL (LOp.extract rfl rfl) rfl rfl ?_
    refine oL (LOp.extract rfl rfl) rfl rfl ?_
    refine oL (lA (a:=.v _) rfl) rfl rfl ?_
    refine oL (lA (a:=.v _) rfl) rfl rfl ?_
    refine oN (aN (wS (wS (wR ?_))))
    refine oL (lM (a:=.v _) rfl) rfl rfl ?_
    refine oL (lP rfl (fun _ _=>nofun) (fun _=>rfl)) rfl rfl ?_
    refine oL (lM (a:=.v _) rfl) rfl rfl ?_
    refine oB 59 rfl (fun hg59=>?_) (fun hg59=>?_)
    ·skip
     have hz:¬ absI f.cs[k].n * fB f l (bsAt c l m) k / 18446744073709551616=0:=by rw [hfb]; simpa using hg59
     have hp0:0≤absI f.cs[k].n * fB f l (bsAt c l m) k:=Int.mul_nonneg hpa.1 hnn.1
     have hbig:1152921504606846977 < absI f.cs[k].n * fB f l (bsAt c l m) k:=by omega
     refine oS rfl rfl ?_
     refine oS rfl rfl ?_
     refine oL (LOp.pkT (a:=.v _) rfl (by first | rfl | assumption) rfl) rfl rfl ?_
     refine oN (aN ?_)
     refine AWP.condT rfl ?_
     refine wS (wR ?_)
     refine oL (lA (a:=.v _) rfl) rfl rfl ?_
     refine oN (aN ?_)
     refine wT (aR (bR (aR (aR (bR (aR (?_)))))))
     refine ⟨.inr rfl,oV Tryz.results79 rfl rfl ?_⟩
     exact vu_eq (uB_hit hbs hlt (by rw [ex]; exact hbig))
    ·skip
     have hz:absI f.cs[k].n * fB f l (bsAt c l m) k / 18446744073709551616=0:=by rw [hfb]; simpa using hg59
     have hp0:0≤absI f.cs[k].n * fB f l (bsAt c l m) k:=Int.mul_nonneg hpa.1 hnn.1
     have hlo:absI f.cs[k].n * fB f l (bsAt c l m) k % 18446744073709551616=absI f.cs[k].n * fB f l (bsAt c l m) k:=by omega
     rw [hfb] at hz hp0 hlo
     refine oL (lM (a:=.v _) rfl) rfl rfl ?_
     refine oL (lP rfl (fun _ _=>nofun) (fun _=>rfl)) rfl rfl ?_
     refine oL (lK rfl rfl rfl) rfl rfl ?_
     refine oN (aN ?_)
     refine wC rfl (fun hc62=>?_) (fun hc62=>?_)
     ·skip
      have hbig:1152921504606846977 < absI f.cs[k].n * fB f l (bsAt c l m) k:=by have:=of_decide_eq_true hc62; rw [hfb]; omega
      refine wS (wR ?_)
      refine oL (lA (a:=.v _) rfl) rfl rfl ?_
      refine oN (aN ?_)
      refine wT (aR (bR (aR (aR (bR (aR (?_)))))))
      refine ⟨.inr rfl,oV Tryz.results79 rfl rfl ?_⟩
      exact vu_eq (uB_hit hbs hlt (by rw [ex]; exact hbig))
     ·skip
      have hle:=of_decide_eq_false hc62
      refine wK (aN (wR ?_))
      refine oL (lM (a:=.v _) rfl) rfl rfl ?_
      refine oL (lM (a:=.v _) rfl) rfl rfl ?_
      refine oL (LOp.addU rfl rfl (by omega) (by omega)) rfl rfl ?_
      refine oL (LOp.minU rfl rfl) rfl rfl ?_
      refine oL (lA (a:=.v _) rfl) rfl rfl ?_
      refine oN (bN (aN (wR ?_)))
      refine oL (lJ rfl rfl (by omega) (by omega)) rfl rfl ?_
      refine oL (lM (a:=.v _) rfl) rfl rfl ?_
      refine oN (aN ?_)
      refine ⟨(f.cs.length - (k+1)),⟨fL [(1,.v (.int .i64 ((l.length:Nat):Int))),(2,.tree 4 (c.aux.map axA)),(7,.v (.int .u64 (uS f l (bsAt c l m) (k+1)))),(19,csA f.cs),(20,.v (.int .i64 ((f.cs.length:Nat):Int))),(21,.v (.int .i64 (((k+1):Nat):Int)))],hLz [(0,⟨0,liA f,0,false⟩)],1⟩,by omega,(cO (.cons rfl rfl (.cons rfl rfl (.cons (by first | rfl | exact vu_eq (uS_next (by rw [ex,hfb]; exact hlo) (by omega))) rfl (.cons rfl rfl (.cons rfl rfl (.cons rfl rfl .nil)))))) (.cons rfl rfl rfl .nil)),(k+1),rfl,rfl,?_⟩
      refine ⟨by omega,fun j h=>?_⟩
      rcases Nat.lt_succ_iff_lt_or_eq.1 h with h | rfl
      ·exact hj j h
      ·rfl
  ·skip
   have hfb:fB f l (bsAt c l m) k=2147483648:=by have:=of_decide_eq_false hc28; unfold fB; rw [ex,if_neg (by omega)]
   have hpa:0≤absI f.cs[k].n∧absI f.cs[k].n≤1048576:=by unfold absI; split <;> omega
   have hnn:0≤fB f l (bsAt c l m) k∧fB f l (bsAt c l m) k≤4611686018427387904:=⟨fB_nn hbs k,by rw [hfb]; omega⟩
   refine wK (aN (wS (wR ?_)))
   refine oL (lF fi95_1 rfl rfl rfl rfl rfl) rfl rfl ?_
   refine oL (lD row2 rfl rfl rfl rfl rfl) rfl rfl ?_
   refine oL (LOp.call bod78 rfl (pabs_p f.cs[k].n (by omega) (by omega))) rfl rfl ?_
   refine oL (lM (a:=.v _) rfl) rfl rfl ?_
   refine oL (LOp.call bod91 rfl (mul_p _ _ hpa.1 (by omega) (by omega) (by omega))) rfl rfl ?_
   refine oL (lM (a:=.tup _) rfl) rfl rfl ?_
   refine oL (LOp.extract rfl rfl) rfl rfl ?_
   refine oL (LOp.extract rfl rfl) rfl rfl ?_
   refine oL (lA (a:=.v _) rfl) rfl rfl ?_
   refine oL (lA (a:=.v _) rfl) rfl rfl ?_
   refine oN (aN (wS (wS (wR ?_))))
   refine oL (lM (a:=.v _) rfl) rfl rfl ?_
   refine oL (lP rfl (fun _ _=>nofun) (fun _=>rfl)) rfl rfl ?_
   refine oL (lM (a:=.v _) rfl) rfl rfl ?_
   refine oB 59 rfl (fun hg59=>?_) (fun hg59=>?_)
   ·skip
    have hz:¬ absI f.cs[k].n * fB f l (bsAt c l m) k / 18446744073709551616=0:=by rw [hfb]; simpa using hg59
    have hp0:0≤absI f.cs[k].n * fB f l (bsAt c l m) k:=Int.mul_nonneg hpa.1 hnn.1
    have hbig:1152921504606846977 < absI f.cs[k].n * fB f l (bsAt c l m) k:=by omega
    refine oS rfl rfl ?_
    refine oS rfl rfl ?_
    refine oL (LOp.pkT (a:=.v _) rfl (by first | rfl | assumption) rfl) rfl rfl ?_
    refine oN (aN ?_)
    refine AWP.condT rfl ?_
    refine wS (wR ?_)
    refine oL (lA (a:=.v _) rfl) rfl rfl ?_
    refine oN (aN ?_)
    refine wT (aR (bR (aR (aR (bR (aR (?_)))))))
    refine ⟨.inr rfl,oV Tryz.results79 rfl rfl ?_⟩
    exact vu_eq (uB_hit hbs hlt (by rw [ex]; exact hbig))
   ·skip
    have hz:absI f.cs[k].n * fB f l (bsAt c l m) k / 18446744073709551616=0:=by rw [hfb]; simpa using hg59
    have hp0:0≤absI f.cs[k].n * fB f l (bsAt c l m) k:=Int.mul_nonneg hpa.1 hnn.1
    have hlo:absI f.cs[k].n * fB f l (bsAt c l m) k % 18446744073709551616=absI f.cs[k].n * fB f l (bsAt c l m) k:=by omega
    rw [hfb] at hz hp0 hlo
    refine oL (lM (a:=.v _) rfl) rfl rfl ?_
    refine oL (lP rfl (fun _ _=>nofun) (fun _=>rfl)) rfl rfl ?_
    refine oL (lK rfl rfl rfl) rfl rfl ?_
    refine oN (aN ?_)
    refine wC rfl (fun hc62=>?_) (fun hc62=>?_)
    ·skip
     have hbig:1152921504606846977 < absI f.cs[k].n * fB f l (bsAt c l m) k:=by have:=of_decide_eq_true hc62; rw [hfb]; omega
     refine wS (wR ?_)
     refine oL (lA (a:=.v _) rfl) rfl rfl ?_
     refine oN (aN ?_)
     refine wT (aR (bR (aR (aR (bR (aR (?_)))))))
     refine ⟨.inr rfl,oV Tryz.results79 rfl rfl ?_⟩
     exact vu_eq (uB_hit hbs hlt (by rw [ex]; exact hbig))
    ·skip
     have hle:=of_decide_eq_false hc62
     refine wK (aN (wR ?_))
     refine oL (lM (a:=.v _) rfl) rfl rfl ?_
     refine oL (lM (a:=.v _) rfl) rfl rfl ?_
     refine oL (LOp.addU rfl rfl (by omega) (by omega)) rfl rfl ?_
     refine oL (LOp.minU rfl rfl) rfl rfl ?_
     refine oL (lA (a:=.v _) rfl) rfl rfl ?_
     refine oN (bN (aN (wR ?_)))
     refine oL (lJ rfl rfl (by omega) (by omega)) rfl rfl ?_
     refine oL (lM (a:=.v _) rfl) rfl rfl ?_
     refine oN (aN ?_)
     refine ⟨(f.cs.length - (k+1)),⟨fL [(1,.v (.int .i64 ((l.length:Nat):Int))),(2,.tree 4 (c.aux.map axA)),(7,.v (.int .u64 (uS f l (bsAt c l m) (k+1)))),(19,csA f.cs),(20,.v (.int .i64 ((f.cs.length:Nat):Int))),(21,.v (.int .i64 (((k+1):Nat):Int)))],hLz [(0,⟨0,liA f,0,false⟩)],1⟩,by omega,(cO (.cons rfl rfl (.cons rfl rfl (.cons (by first | rfl | exact vu_eq (uS_next (by rw [ex,hfb]; exact hlo) (by omega))) rfl (.cons rfl rfl (.cons rfl rfl (.cons rfl rfl .nil)))))) (.cons rfl rfl rfl .nil)),(k+1),rfl,rfl,?_⟩
     refine ⟨by omega,fun j h=>?_⟩
     rcases Nat.lt_succ_iff_lt_or_eq.1 h with h | rfl
     ·exact hj j h
     ·rfl
 ·skip
  have hge:¬ k < f.cs.length:=fun h=>of_decide_eq_false hc22 (Int.ofNat_lt.2 h)
  refine AWP.exit (aE (aE (bE ?_)))
  refine aN (wS (wR ?_))
  refine oL (lM (a:=.v _) rfl) rfl rfl ?_
  refine oL (lA (a:=.v _) rfl) rfl rfl ?_
  refine oN (aN ?_)
  refine wT (?_)
  refine ⟨.inr rfl,oV Tryz.results79 rfl rfl ?_⟩
  ((have hkl:k=f.cs.length:=(by omega)); subst hkl; rfl)
theorem fV_nn {f:PLin} {nn:List Int} {l:List PVar} {bs:List Int} (h:0≤fV f nn l bs):wiB f.k (-1099511627777) 1099511627777=true∧∀ j,j < f.cs.length→fOk f nn l bs j=true:=by
 unfold fV at h
 split at h
 ·rename_i h1
  rw [Bool.and_eq_true] at h1
  exact ⟨h1.1,allN_iff.1 h1.2⟩
 ·omega
theorem fV_uB {f:PLin} {nn:List Int} {l:List PVar} {bs:List Int} (hbs:∀ b∈bs,0≤b∧b≤4611686018427387904) (h:0≤fV f nn l bs):uB f l bs=fV f nn l bs:=by
 obtain ⟨h1,h2⟩:=fV_nn h
 have h3:=fS_rng h1 hbs h2 f.cs.length (Nat.le_refl _)
 have e:fV f nn l bs=fS f l bs f.cs.length:=by
  unfold fV
  rw [h1,allN_iff.2 h2]; rfl
 rw [e]
 unfold uB uS
 omega
theorem fOk_coef {f:PLin} {nn:List Int} {l:List PVar} {bs:List Int} {i:Nat} (hi:i < f.cs.length) (h:fOk f nn l bs i=true):0≤f.cs[i].v∧f.cs[i].v < (l.length:Int)+bs.length∧-1048576≤f.cs[i].n∧f.cs[i].n≤1048576:=by
 simp only [fOk,Bool.and_eq_true,Bool.not_eq_true'] at h
 have hb:=h.1.1.1
 simp only [fBad,getD_at hi,wiB,Bool.or_eq_false_iff,decide_eq_false_iff_not,beq_eq_false_iff_ne,Bool.not_eq_false',Bool.and_eq_true,decide_eq_true_eq] at hb
 omega
theorem bnd_p (c:PCl) (l:List PVar) (hc:c.Ok) (hl:l.length≤1000):∀ m,m≤c.aux.length→(∀ j,j < m→auxP c l j=true)→∀ f:PLin,f.cs.length≤1000→(-1099511627777≤f.k∧f.k≤1099511627777)→(∀ i (h:i < f.cs.length),f.cs[i].v < l.length+m∧-1048576≤f.cs[i].n∧f.cs[i].n≤1048576) →
  PCall Tryz.prog 79 [.agg (liA f),.v (.int .i64 ((l.length:Nat):Int)),.tree 4 (c.aux.map axA)] (.v (.int .u64 (uB f l (bsAt c l m)))):=by
 intro m
 induction m using Nat.strongRecOn with
 | _ m ih=>
  intro hm hA f hf hk hcf
  refine bnd_step c l m f hm hA hf hk hl hc.aux hcf (fun j hjl hj h0=>?_)
  obtain ⟨h1,h2,h3,h4,h5⟩:=aux_q hA hj hjl h0
  have hAj:∀ i,i < j→auxP c l i=true:=fun i hi=>hA i (by omega)
  have hr:=bsAt_rng (c:=c) (l:=l) j hAj
  obtain ⟨q1,q2⟩:=fV_nn h4
  rw [← fV_uB hr h4]
  refine ih j hj (by omega) hAj c.aux[j].of_ (hc.auxc _ (List.getElem_mem _)) (by simp only [wiB,Bool.and_eq_true,decide_eq_true_eq] at q1; omega) (fun i hi=>?_)
  have:=fOk_coef hi (q2 i hi)
  rw [bsAt_len] at this
  omega
end Go.Proofs.YtfelpgeolclnbaaGreatDoor
namespace Go.Proofs.YtfelpgeolclnbaaGreatDoor
set_option linter.unusedVariables false
set_option linter.unusedSimpArgs false
open Go.RowKit
/-- The numbers of a linear form are such as the type holds. -/
structure PLin.R (f:PLin):Prop where
 k:-9223372036854775808≤f.k∧f.k≤9223372036854775807
 cs:∀ a∈f.cs,-9223372036854775808≤a.n∧a.n≤9223372036854775807
def gP (f:PLin) (nn:List Int) (l:List PVar) (m j:Nat):Bool :=
 (usB (f.cs.getD j default).v 1 nn l||(decide ((f.cs.getD j default).v≥(l.length:Int))&&decide ((f.cs.getD j default).v < (l.length:Int)+m)))&&!(decide (0 < j)&&decide ((f.cs.getD j default).v≤(f.cs.getD (j - 1) default).v))&&!((f.cs.getD j default).n==0)&&!decide (absI (f.cs.getD j default).n > 1048576)
def gB (f:PLin) (c:PCl) (l:List PVar) (m:Nat):Bool:=allN f.cs.length (gP f c.nn l m)&&decide (absI f.k≤1099511627777)&&decide (uB f l (bsAt c l m)≤1152921504606846977)
theorem gP_coef {f:PLin} {nn:List Int} {l:List PVar} {m i:Nat} (hi:i < f.cs.length) (h:gP f nn l m i=true):f.cs[i].v < (l.length:Int)+m∧-1048576≤f.cs[i].n∧f.cs[i].n≤1048576:=by
 simp only [gP,getD_at hi,Bool.and_eq_true,Bool.or_eq_true,Bool.not_eq_true',decide_eq_false_iff_not,decide_eq_true_eq,usB] at h
 have h1:=h.2
 unfold absI at h1
 refine ⟨?_,?_⟩
 ·rcases h.1.1.1 with h2 | h2
  ·omega
  ·omega
 ·split at h1 <;> omega
theorem gB_eq (f:PLin) (c:PCl) (l:List PVar) (m:Nat) (hA:∀ j,j < m→auxP c l j=true):gB f c l m=!decide (fV f c.nn l (bsAt c l m) < 0):=by
 have hbs:=bsAt_rng (c:=c) (l:=l) m hA
 have hlen:=bsAt_len c l m
 by_cases h0:fV f c.nn l (bsAt c l m) < 0
 ·rw [decide_eq_true h0]
  have:¬ gB f c l m=true:=by
   intro hg
   unfold gB at hg
   simp only [Bool.and_eq_true,decide_eq_true_eq] at hg
   obtain ⟨⟨h1,h2⟩,h3⟩:=hg
   have hw:wiB f.k (-1099511627777) 1099511627777=true:=by
    unfold absI at h2
    simp only [wiB,Bool.and_eq_true,decide_eq_true_eq]
    split at h2 <;> omega
   have hu:fS f l (bsAt c l m) f.cs.length≤1152921504606846977:=by unfold uB uS at h3; omega
   have hall:∀ j,j < f.cs.length→fOk f c.nn l (bsAt c l m) j=true:=by
    intro j hj
    have hg:=allN_iff.1 h1 j hj
    have hS:fS f l (bsAt c l m) (j+1)≤1152921504606846977:=by
     have:=fS_mono (f:=f) (l:=l) hbs (j+1) (f.cs.length - (j+1))
     rw [show j+1+(f.cs.length - (j+1))=f.cs.length by omega] at this
     omega
    have hS':fS f l (bsAt c l m) (j+1)=fS f l (bsAt c l m) j+absI (f.cs.getD j default).n * fB f l (bsAt c l m) j:=rfl
    have hSn:=fS_nn (f:=f) (l:=l) hbs j
    simp only [gP,Bool.and_eq_true,Bool.or_eq_true,Bool.not_eq_true',decide_eq_false_iff_not,decide_eq_true_eq,beq_eq_false_iff_ne,usB,Bool.and_eq_false_iff,beq_iff_eq] at hg
    obtain ⟨⟨⟨g1,g2⟩,g3⟩,g4⟩:=hg
    have ha:1≤absI (f.cs.getD j default).n:=by unfold absI; split <;> omega
    have hq:fB f l (bsAt c l m) j≤1152921504606846977 / absI (f.cs.getD j default).n:=by
     rw [Int.le_ediv_iff_mul_le (by omega),Int.mul_comm]
     omega
    have hn:-1048576≤(f.cs.getD j default).n∧(f.cs.getD j default).n≤1048576:=by
     unfold absI at g4
     split at g4 <;> omega
    have hbad:fBad f l (bsAt c l m) j=false:=by
     simp only [fBad,wiB,hlen,Bool.or_eq_false_iff,decide_eq_false_iff_not,beq_eq_false_iff_ne,Bool.not_eq_false',Bool.and_eq_true,decide_eq_true_eq,Bool.and_eq_false_iff]
     refine ⟨⟨⟨⟨?_,?_⟩,?_⟩,g3⟩,hn⟩
     ·rcases g1 with h | h <;> omega
     ·rcases g1 with h | h <;> omega
     ·rcases g2 with h | h
      ·exact .inl h
      ·exact .inr (by omega)
    have hty:fTy f c.nn l j=false:=by
     unfold fTy
     rcases g1 with h | h
     ·simp only [h.1.2,h.2,beq_self_eq_true,Bool.not_true,Bool.or_false,Bool.and_false]
     ·have:¬ (f.cs.getD j default).v < l.length:=by omega
      simp only [this,decide_false,Bool.false_and]
    simp only [fOk,hbad,hty,Bool.not_false,Bool.true_and,Bool.and_eq_true,decide_eq_true_eq]
    exact ⟨hq,hS⟩
   have:0≤fV f c.nn l (bsAt c l m):=by
    unfold fV
    rw [hw,allN_iff.2 hall]
    exact fS_nn hbs _
   omega
  simpa using this
 ·rw [decide_eq_false h0]
  have h0':0≤fV f c.nn l (bsAt c l m):=by omega
  obtain ⟨h1,h2⟩:=fV_nn h0'
  have h3:=fV_uB hbs h0'
  have h4:=fV_le (f:=f) (nn:=c.nn) (l:=l) hbs
  unfold gB
  simp only [Bool.not_false,Bool.and_eq_true,decide_eq_true_eq]
  refine ⟨⟨allN_iff.2 (fun j hj=>?_),?_⟩,by omega⟩
  ·have h5:=h2 j hj
   simp only [fOk,Bool.and_eq_true,Bool.not_eq_true',decide_eq_true_eq] at h5
   obtain ⟨⟨⟨hbad,hty⟩,_⟩,_⟩:=h5
   simp only [fBad,wiB,hlen,Bool.or_eq_false_iff,decide_eq_false_iff_not,beq_eq_false_iff_ne,Bool.not_eq_false',Bool.and_eq_true,decide_eq_true_eq,Bool.and_eq_false_iff] at hbad
   obtain ⟨⟨⟨⟨b1,b2⟩,b3⟩,b4⟩,b5⟩:=hbad
   simp only [gP,Bool.and_eq_true,Bool.or_eq_true,Bool.not_eq_true',decide_eq_false_iff_not,decide_eq_true_eq,beq_eq_false_iff_ne,usB,Bool.and_eq_false_iff,beq_iff_eq]
   refine ⟨⟨⟨?_,?_⟩,b4⟩,?_⟩
   ·by_cases hv:(f.cs.getD j default).v < l.length
    ·left
     unfold fTy at hty
     simp only [hv,decide_true,Bool.true_and,Bool.or_eq_false_iff,Bool.not_eq_false',beq_iff_eq] at hty
     exact ⟨⟨⟨by omega,hv⟩,hty.1⟩,hty.2⟩
    ·right
     omega
   ·rcases b3 with h | h
    ·exact .inl h
    ·exact .inr (by omega)
   ·unfold absI
    split <;> omega
  ·simp only [wiB,Bool.and_eq_true,decide_eq_true_eq] at h1
   unfold absI
   split <;> omega
theorem bod75:bodied Tryz.prog 75=true:=by kernel_rfl
theorem row155:rowOf Tryz.prog 155=some none:=by kernel_rfl
set_option maxRecDepth 100000 in
set_option maxHeartbeats 4000000 in
theorem pform_p (f:PLin) (c:PCl) (l:List PVar) (m:Nat) (hc:c.Ok) (hl:l.length≤1000) (hr:f.R) (hf:f.cs.length≤1000) (hm:m≤c.aux.length) (hA:∀ j,j < m→auxP c l j=true):PCall Tryz.prog 77 [.agg (liA f),.v (.int .i64 ((m:Nat):Int)),.tp [.clo 75 [.tp [.v (.int .i64 ((l.length:Nat):Int))] 0,.tp [vsA l] 0,.tp (clA c) 0]] 0,.tp [.v (.int .i64 ((l.length:Nat):Int))] 0,.tp (clA c) 0] (.v (.bool (!decide (fV f c.nn l (bsAt c l m) < 0)))):=by
 rw [← gB_eq f c l m hA]
 have haux:=hc.aux
 have hrk:=hr.k
 refine pB Tryz.func77 rfl Tryz.ntmps77 (Nat.le_of_ble_eq_true rfl) ?_
 refine wS (wR ?_)
 refine oW (LOp.bx rfl) rfl rfl 1 rfl ?_
 refine oL (lA (a:=.v _) rfl) rfl rfl ?_
 refine oN (aN (wS (wS (wR ?_))))
 refine oL (lF fi98_1 rfl rfl rfl rfl rfl) rfl rfl ?_
 refine oL (lD row96 rfl rfl rfl rfl rfl) rfl rfl ?_
 refine oL (lT rfl Tryz.underlying96 rfl) rfl rfl ?_
 refine oL (lM (a:=.v _) rfl) rfl rfl ?_
 refine oN (aN (wB ?_))
 refine wL (fun n s=>∃ k:Nat,n=(f.cs.length - k)∧s=⟨fL [(1,.v (.int .i64 ((m:Nat):Int))),(2,.tp [.clo 75 [.tp [.v (.int .i64 ((l.length:Nat):Int))] 0,.tp [vsA l] 0,.tp (clA c) 0]] 0),(3,.tp [.v (.int .i64 ((l.length:Nat):Int))] 0),(4,.tp (clA c) 0),(5,.ptr 0 0 0),(12,csA f.cs),(13,.v (.int .i64 ((f.cs.length:Nat):Int))),(14,.v (.int .i64 ((k:Nat):Int)))],hLz [(0,⟨0,liA f,0,false⟩)],1⟩∧(k≤f.cs.length∧∀ j,j < k→gP f c.nn l m j=true)) (n:=(f.cs.length - 0)) (s1:=⟨fL [(1,.v (.int .i64 ((m:Nat):Int))),(2,.tp [.clo 75 [.tp [.v (.int .i64 ((l.length:Nat):Int))] 0,.tp [vsA l] 0,.tp (clA c) 0]] 0),(3,.tp [.v (.int .i64 ((l.length:Nat):Int))] 0),(4,.tp (clA c) 0),(5,.ptr 0 0 0),(12,csA f.cs),(13,.v (.int .i64 ((f.cs.length:Nat):Int))),(14,.v (.int .i64 ((0:Nat):Int)))],hLz [(0,⟨0,liA f,0,false⟩)],1⟩) (cO (.cons rfl rfl (.cons rfl rfl (.cons rfl rfl (.cons rfl rfl (.cons rfl rfl (.cons rfl rfl (.cons rfl rfl (.cons rfl rfl .nil)))))))) (.cons rfl rfl rfl .nil)) ⟨0,rfl,rfl,⟨Nat.zero_le _,fun j h=>absurd h (Nat.not_lt_zero j)⟩⟩ ?_
 rintro n s ⟨k,rfl,rfl,hinv⟩
 obtain ⟨hk,hj⟩:=hinv
 refine wS (wR ?_)
 refine oL (lP rfl (fun _ _=>nofun) (fun _=>rfl)) rfl rfl ?_
 refine oN (aN (wS ?_))
 refine wC rfl (fun hc15=>?_) (fun hc15=>?_)
 ·skip
  have hlt:k < f.cs.length:=Int.ofNat_lt.1 (of_decide_eq_true hc15)
  have ex:f.cs.getD k default=f.cs[k]:=getD_at hlt
  have hra:=hr.cs _ (List.getElem_mem hlt)
  refine wK (aN (wS (wB (wS (wR ?_)))))
  refine oL (lM (a:=.v _) rfl) rfl rfl ?_
  refine oL (lI Tryz.underlying96 sz95 rfl rfl (by first | assumption | omega)) rfl rfl ?_
  refine oL (LOp.ldTN row95 rfl rfl) rfl rfl ?_
  refine oW (LOp.al zr95 rfl) rfl rfl 2 rfl ?_
  refine oL (lA (a:=.v _) rfl) rfl rfl ?_
  refine AOps.wr (LOp.st sz95 rfl rfl rfl rfl rfl rfl rfl rfl) rfl rfl rfl ?_
  refine oN (aN (wS (wR ?_)))
  refine oL (lE row155 rfl rfl) rfl rfl ?_
  refine oL (lF fi95_0 rfl rfl rfl rfl rfl) rfl rfl ?_
  refine oL (lD row3 rfl rfl rfl rfl rfl) rfl rfl ?_
  refine oL (LOp.callVB [] bod75 rfl rfl (FzL.pure rfl) (us_p f.cs[k].v 1 c l hc.nn hl)) rfl rfl ?_
  refine oL (lM (a:=.v _) rfl) rfl rfl ?_
  refine oB 23 rfl (fun hg23=>?_) (fun hg23=>?_)
  ·skip
   refine oS rfl rfl ?_
   refine oS rfl rfl ?_
   refine oS rfl rfl ?_
   refine oS rfl rfl ?_
   refine oS rfl rfl ?_
   refine oS rfl rfl ?_
   refine oS rfl rfl ?_
   refine oS rfl rfl ?_
   refine oS rfl rfl ?_
   refine oS rfl rfl ?_
   refine oS rfl rfl ?_
   refine oS rfl rfl ?_
   refine oL (LOp.pkT (a:=.v _) rfl (by first | rfl | assumption) rfl) rfl rfl ?_
   refine oL (lA (a:=.v _) rfl) rfl rfl ?_
   refine oN (aN (wS (AWP.regD mixed ?_)))
   refine qL (lM (a:=.v _) rfl) rfl rfl ?_
   refine qL (lP rfl (fun _ _=>nofun) (fun _=>rfl)) rfl rfl ?_
   refine qL (lM (a:=.v _) rfl) rfl rfl ?_
   refine qL (lM (a:=.v _) rfl) rfl rfl ?_
   refine qL (lP rfl (fun _ _=>nofun) (fun _=>rfl)) rfl rfl ?_
   refine qL (lM (a:=.v _) rfl) rfl rfl ?_
   refine SeqC.splitB 42 rfl (fun hg42=>?_) (fun hg42=>?_)
   ·skip
    obtain ⟨k',hk'⟩:∃ k',k=k'+1:=⟨k - 1,by simp at hg42; omega⟩
    have ek1:f.cs.getD (k - 1) default=f.cs[k']'(by omega):=by rw [show k - 1=k' by omega]; exact getD_at (by omega)
    refine qL (lF fi95_0 rfl rfl rfl rfl rfl) rfl rfl ?_
    refine qL (lD row3 rfl rfl rfl rfl rfl) rfl rfl ?_
    refine qL (lF fi98_1 rfl rfl rfl rfl rfl) rfl rfl ?_
    refine qL (lD row96 rfl rfl rfl rfl rfl) rfl rfl ?_
    refine qL (lM (a:=.v _) rfl) rfl rfl ?_
    refine qL (LOp.subOne rfl rfl hk' (by omega)) rfl rfl ?_
    refine qL (lI Tryz.underlying96 sz95 rfl rfl (by first | assumption | omega)) rfl rfl ?_
    refine qL (LOp.fieldAddrT fi95_0 rfl rfl) rfl rfl ?_
    refine qL (lE row3 rfl rfl) rfl rfl ?_
    refine qL (lP rfl (fun _ _=>nofun) (fun _=>rfl)) rfl rfl ?_
    refine qL (lK rfl rfl rfl) rfl rfl ?_
    refine qL (lK rfl rfl rfl) rfl rfl ?_
    refine qL (lM (a:=.v _) rfl) rfl rfl ?_
    refine SeqC.splitB 55 rfl (fun hg55=>?_) (fun hg55=>?_)
    ·skip
     refine qS rfl rfl ?_
     refine qS rfl rfl ?_
     refine qS rfl rfl ?_
     refine qL (LOp.pkT (a:=.v _) rfl (by first | rfl | assumption) rfl) rfl rfl ?_
     refine qL (lM (a:=.v _) rfl) rfl rfl ?_
     refine qS rfl rfl ?_
     refine qS rfl rfl ?_
     refine qS rfl rfl ?_
     refine qS rfl rfl ?_
     refine qL (LOp.pkT (a:=.v _) rfl (by first | rfl | assumption) rfl) rfl rfl ?_
     refine SeqC.nil ⟨by kernel_rfl,?_⟩
     refine aN ?_
     refine AWP.condT rfl ?_
     refine wS (wR ?_)
     refine oL (lA (a:=.v _) rfl) rfl rfl ?_
     refine oN (aN ?_)
     refine wT (bR (aR (aR (bR (aR (?_))))))
     refine ⟨.inr rfl,oV Tryz.results77 rfl rfl ?_⟩
     (refine vb_eq ?_; unfold gB; rw [allN_hit hlt (by first | (simp only [gP,ex,ek1]; simp_all; done) | (simp only [gP,ex]; simp_all; done) | (simp only [gP,ex,ek1]; simp_all; intros; omega) | (simp only [gP,ex]; simp_all; intros; omega))]; rfl)
    ·skip
     refine qL (lF fi95_1 rfl rfl rfl rfl rfl) rfl rfl ?_
     refine qL (lD row2 rfl rfl rfl rfl rfl) rfl rfl ?_
     refine qL (lP rfl (fun _ _=>nofun) (fun _=>rfl)) rfl rfl ?_
     refine qL (lK rfl rfl rfl) rfl rfl ?_
     refine qL (lM (a:=.v _) rfl) rfl rfl ?_
     refine SeqC.splitB 60 rfl (fun hg60=>?_) (fun hg60=>?_)
     ·skip
      refine qS rfl rfl ?_
      refine qS rfl rfl ?_
      refine qS rfl rfl ?_
      refine qS rfl rfl ?_
      refine qL (LOp.pkT (a:=.v _) rfl (by first | rfl | assumption) rfl) rfl rfl ?_
      refine SeqC.nil ⟨by kernel_rfl,?_⟩
      refine aN ?_
      refine AWP.condT rfl ?_
      refine wS (wR ?_)
      refine oL (lA (a:=.v _) rfl) rfl rfl ?_
      refine oN (aN ?_)
      refine wT (bR (aR (aR (bR (aR (?_))))))
      refine ⟨.inr rfl,oV Tryz.results77 rfl rfl ?_⟩
      (refine vb_eq ?_; unfold gB; rw [allN_hit hlt (by first | (simp only [gP,ex,ek1]; simp_all; done) | (simp only [gP,ex]; simp_all; done) | (simp only [gP,ex,ek1]; simp_all; intros; omega) | (simp only [gP,ex]; simp_all; intros; omega))]; rfl)
     ·skip
      refine qL (lF fi95_1 rfl rfl rfl rfl rfl) rfl rfl ?_
      refine qL (lD row2 rfl rfl rfl rfl rfl) rfl rfl ?_
      refine qL (LOp.call bod78 rfl (pabs_p f.cs[k].n hra.1 hra.2)) rfl rfl ?_
      refine qL (lP rfl (fun _ _=>nofun) (fun _=>rfl)) rfl rfl ?_
      refine qL (lK rfl rfl rfl) rfl rfl ?_
      refine SeqC.nil ⟨by kernel_rfl,?_⟩
      refine aN ?_
      refine wC rfl (fun hc65=>?_) (fun hc65=>?_)
      ·skip
       refine wS (wR ?_)
       refine oL (lA (a:=.v _) rfl) rfl rfl ?_
       refine oN (aN ?_)
       refine wT (bR (aR (aR (bR (aR (?_))))))
       refine ⟨.inr rfl,oV Tryz.results77 rfl rfl ?_⟩
       (refine vb_eq ?_; unfold gB; rw [allN_hit hlt (by first | (simp only [gP,ex,ek1]; simp_all; done) | (simp only [gP,ex]; simp_all; done) | (simp only [gP,ex,ek1]; simp_all; intros; omega) | (simp only [gP,ex]; simp_all; intros; omega))]; rfl)
      ·skip
       refine wK (bN (aN (wR ?_)))
       refine oL (lJ rfl rfl (by omega) (by omega)) rfl rfl ?_
       refine oL (lM (a:=.v _) rfl) rfl rfl ?_
       refine oN (aN ?_)
       refine ⟨(f.cs.length - (k+1)),⟨fL [(1,.v (.int .i64 ((m:Nat):Int))),(2,.tp [.clo 75 [.tp [.v (.int .i64 ((l.length:Nat):Int))] 0,.tp [vsA l] 0,.tp (clA c) 0]] 0),(3,.tp [.v (.int .i64 ((l.length:Nat):Int))] 0),(4,.tp (clA c) 0),(5,.ptr 0 0 0),(12,csA f.cs),(13,.v (.int .i64 ((f.cs.length:Nat):Int))),(14,.v (.int .i64 (((k+1):Nat):Int)))],hLz [(0,⟨0,liA f,0,false⟩)],1⟩,by omega,(cO (.cons rfl rfl (.cons rfl rfl (.cons rfl rfl (.cons rfl rfl (.cons rfl rfl (.cons rfl rfl (.cons rfl rfl (.cons rfl rfl .nil)))))))) (.cons rfl rfl rfl .nil)),(k+1),rfl,rfl,?_⟩
       refine ⟨by omega,fun j h=>?_⟩
       rcases Nat.lt_succ_iff_lt_or_eq.1 h with h | rfl
       ·exact hj j h
       ·first | (simp only [gP,ex,ek1]; simp_all; done) | (simp only [gP,ex]; simp_all; done) | (simp only [gP,ex,ek1]; simp_all; intros; omega) | (simp only [gP,ex]; simp_all; intros; omega)
   ·skip
    refine qS rfl rfl ?_
    refine qS rfl rfl ?_
    refine qS rfl rfl ?_
    refine qS rfl rfl ?_
    refine qS rfl rfl ?_
    refine qS rfl rfl ?_
    refine qS rfl rfl ?_
    refine qS rfl rfl ?_
    refine qS rfl rfl ?_
    refine qS rfl rfl ?_
    refine qL (LOp.pkF (a:=.v _) rfl (by first | rfl | assumption) rfl) rfl rfl ?_
    refine qL (lK rfl rfl rfl) rfl rfl ?_
    refine qL (lM (a:=.v _) rfl) rfl rfl ?_
    refine qL (lF fi95_1 rfl rfl rfl rfl rfl) rfl rfl ?_
    refine qL (lD row2 rfl rfl rfl rfl rfl) rfl rfl ?_
    refine qL (lP rfl (fun _ _=>nofun) (fun _=>rfl)) rfl rfl ?_
    refine qL (lK rfl rfl rfl) rfl rfl ?_
    refine qL (lM (a:=.v _) rfl) rfl rfl ?_
    refine SeqC.splitB 60 rfl (fun hg60=>?_) (fun hg60=>?_)
    ·skip
     refine qS rfl rfl ?_
     refine qS rfl rfl ?_
     refine qS rfl rfl ?_
     refine qS rfl rfl ?_
     refine qL (LOp.pkT (a:=.v _) rfl (by first | rfl | assumption) rfl) rfl rfl ?_
     refine SeqC.nil ⟨by kernel_rfl,?_⟩
     refine aN ?_
     refine AWP.condT rfl ?_
     refine wS (wR ?_)
     refine oL (lA (a:=.v _) rfl) rfl rfl ?_
     refine oN (aN ?_)
     refine wT (bR (aR (aR (bR (aR (?_))))))
     refine ⟨.inr rfl,oV Tryz.results77 rfl rfl ?_⟩
     (refine vb_eq ?_; unfold gB; rw [allN_hit hlt (by first | (simp only [gP,ex,ek1]; simp_all; done) | (simp only [gP,ex]; simp_all; done) | (simp only [gP,ex,ek1]; simp_all; intros; omega) | (simp only [gP,ex]; simp_all; intros; omega))]; rfl)
    ·skip
     refine qL (lF fi95_1 rfl rfl rfl rfl rfl) rfl rfl ?_
     refine qL (lD row2 rfl rfl rfl rfl rfl) rfl rfl ?_
     refine qL (LOp.call bod78 rfl (pabs_p f.cs[k].n hra.1 hra.2)) rfl rfl ?_
     refine qL (lP rfl (fun _ _=>nofun) (fun _=>rfl)) rfl rfl ?_
     refine qL (lK rfl rfl rfl) rfl rfl ?_
     refine SeqC.nil ⟨by kernel_rfl,?_⟩
     refine aN ?_
     refine wC rfl (fun hc65=>?_) (fun hc65=>?_)
     ·skip
      refine wS (wR ?_)
      refine oL (lA (a:=.v _) rfl) rfl rfl ?_
      refine oN (aN ?_)
      refine wT (bR (aR (aR (bR (aR (?_))))))
      refine ⟨.inr rfl,oV Tryz.results77 rfl rfl ?_⟩
      (refine vb_eq ?_; unfold gB; rw [allN_hit hlt (by first | (simp only [gP,ex,ek1]; simp_all; done) | (simp only [gP,ex]; simp_all; done) | (simp only [gP,ex,ek1]; simp_all; intros; omega) | (simp only [gP,ex]; simp_all; intros; omega))]; rfl)
     ·skip
      refine wK (bN (aN (wR ?_)))
      refine oL (lJ rfl rfl (by omega) (by omega)) rfl rfl ?_
      refine oL (lM (a:=.v _) rfl) rfl rfl ?_
      refine oN (aN ?_)
      refine ⟨(f.cs.length - (k+1)),⟨fL [(1,.v (.int .i64 ((m:Nat):Int))),(2,.tp [.clo 75 [.tp [.v (.int .i64 ((l.length:Nat):Int))] 0,.tp [vsA l] 0,.tp (clA c) 0]] 0),(3,.tp [.v (.int .i64 ((l.length:Nat):Int))] 0),(4,.tp (clA c) 0),(5,.ptr 0 0 0),(12,csA f.cs),(13,.v (.int .i64 ((f.cs.length:Nat):Int))),(14,.v (.int .i64 (((k+1):Nat):Int)))],hLz [(0,⟨0,liA f,0,false⟩)],1⟩,by omega,(cO (.cons rfl rfl (.cons rfl rfl (.cons rfl rfl (.cons rfl rfl (.cons rfl rfl (.cons rfl rfl (.cons rfl rfl (.cons rfl rfl .nil)))))))) (.cons rfl rfl rfl .nil)),(k+1),rfl,rfl,?_⟩
      refine ⟨by omega,fun j h=>?_⟩
      rcases Nat.lt_succ_iff_lt_or_eq.1 h with h | rfl
      ·exact hj j h
      ·first | (simp only [gP,ex,ek1]; simp_all; done) | (simp only [gP,ex]; simp_all; done) | (simp only [gP,ex,ek1]; simp_all; intros; omega) | (simp only [gP,ex]; simp_all; intros; omega)
  ·skip
   refine oL (lF fi95_0 rfl rfl rfl rfl rfl) rfl rfl ?_
   refine oL (lD row3 rfl rfl rfl rfl rfl) rfl rfl ?_
   refine oL (lE row3 rfl rfl) rfl rfl ?_
   refine oL (lP rfl (fun _ _=>nofun) (fun _=>rfl)) rfl rfl ?_
   refine oL (lM (a:=.v _) rfl) rfl rfl ?_
   refine oB 28 rfl (fun hg28=>?_) (fun hg28=>?_)
   ·skip
    refine oL (lF fi95_0 rfl rfl rfl rfl rfl) rfl rfl ?_
    refine oL (lD row3 rfl rfl rfl rfl rfl) rfl rfl ?_
    refine oL (lE row3 rfl rfl) rfl rfl ?_
    refine oL (lM (a:=.v _) rfl) rfl rfl ?_
    refine oL (lJ rfl rfl (by omega) (by omega)) rfl rfl ?_
    refine oL (lP rfl (fun _ _=>nofun) (fun _=>rfl)) rfl rfl ?_
    refine oL (lK rfl rfl rfl) rfl rfl ?_
    refine oL (lK rfl rfl rfl) rfl rfl ?_
    refine oL (lA (a:=.v _) rfl) rfl rfl ?_
    refine oN (aN (wS (AWP.regD mixed ?_)))
    refine qL (lM (a:=.v _) rfl) rfl rfl ?_
    refine qL (lP rfl (fun _ _=>nofun) (fun _=>rfl)) rfl rfl ?_
    refine qL (lM (a:=.v _) rfl) rfl rfl ?_
    refine SeqC.splitB 39 rfl (fun hg39=>?_) (fun hg39=>?_)
    ·skip
     refine qS rfl rfl ?_
     refine qS rfl rfl ?_
     refine qS rfl rfl ?_
     refine qS rfl rfl ?_
     refine qS rfl rfl ?_
     refine qS rfl rfl ?_
     refine qS rfl rfl ?_
     refine qS rfl rfl ?_
     refine qS rfl rfl ?_
     refine qS rfl rfl ?_
     refine qS rfl rfl ?_
     refine qS rfl rfl ?_
     refine qS rfl rfl ?_
     refine qS rfl rfl ?_
     refine qL (LOp.pkT (a:=.v _) rfl (by first | rfl | assumption) rfl) rfl rfl ?_
     refine qL (lM (a:=.v _) rfl) rfl rfl ?_
     refine qS rfl rfl ?_
     refine qS rfl rfl ?_
     refine qS rfl rfl ?_
     refine qL (LOp.pkT (a:=.v _) rfl (by first | rfl | assumption) rfl) rfl rfl ?_
     refine qL (lM (a:=.v _) rfl) rfl rfl ?_
     refine qS rfl rfl ?_
     refine qS rfl rfl ?_
     refine qS rfl rfl ?_
     refine qS rfl rfl ?_
     refine qL (LOp.pkT (a:=.v _) rfl (by first | rfl | assumption) rfl) rfl rfl ?_
     refine SeqC.nil ⟨by kernel_rfl,?_⟩
     refine aN ?_
     refine AWP.condT rfl ?_
     refine wS (wR ?_)
     refine oL (lA (a:=.v _) rfl) rfl rfl ?_
     refine oN (aN ?_)
     refine wT (bR (aR (aR (bR (aR (?_))))))
     refine ⟨.inr rfl,oV Tryz.results77 rfl rfl ?_⟩
     (refine vb_eq ?_; unfold gB; rw [allN_hit hlt (by first | (simp only [gP,ex,ek1]; simp_all; done) | (simp only [gP,ex]; simp_all; done) | (simp only [gP,ex,ek1]; simp_all; intros; omega) | (simp only [gP,ex]; simp_all; intros; omega))]; rfl)
    ·skip
     refine qL (lM (a:=.v _) rfl) rfl rfl ?_
     refine qL (lP rfl (fun _ _=>nofun) (fun _=>rfl)) rfl rfl ?_
     refine qL (lM (a:=.v _) rfl) rfl rfl ?_
     refine SeqC.splitB 42 rfl (fun hg42=>?_) (fun hg42=>?_)
     ·skip
      obtain ⟨k',hk'⟩:∃ k',k=k'+1:=⟨k - 1,by simp at hg42; omega⟩
      have ek1:f.cs.getD (k - 1) default=f.cs[k']'(by omega):=by rw [show k - 1=k' by omega]; exact getD_at (by omega)
      refine qL (lF fi95_0 rfl rfl rfl rfl rfl) rfl rfl ?_
      refine qL (lD row3 rfl rfl rfl rfl rfl) rfl rfl ?_
      refine qL (lF fi98_1 rfl rfl rfl rfl rfl) rfl rfl ?_
      refine qL (lD row96 rfl rfl rfl rfl rfl) rfl rfl ?_
      refine qL (lM (a:=.v _) rfl) rfl rfl ?_
      refine qL (LOp.subOne rfl rfl hk' (by omega)) rfl rfl ?_
      refine qL (lI Tryz.underlying96 sz95 rfl rfl (by first | assumption | omega)) rfl rfl ?_
      refine qL (LOp.fieldAddrT fi95_0 rfl rfl) rfl rfl ?_
      refine qL (lE row3 rfl rfl) rfl rfl ?_
      refine qL (lP rfl (fun _ _=>nofun) (fun _=>rfl)) rfl rfl ?_
      refine qL (lK rfl rfl rfl) rfl rfl ?_
      refine qL (lK rfl rfl rfl) rfl rfl ?_
      refine qL (lM (a:=.v _) rfl) rfl rfl ?_
      refine SeqC.splitB 55 rfl (fun hg55=>?_) (fun hg55=>?_)
      ·skip
       refine qS rfl rfl ?_
       refine qS rfl rfl ?_
       refine qS rfl rfl ?_
       refine qL (LOp.pkT (a:=.v _) rfl (by first | rfl | assumption) rfl) rfl rfl ?_
       refine qL (lM (a:=.v _) rfl) rfl rfl ?_
       refine qS rfl rfl ?_
       refine qS rfl rfl ?_
       refine qS rfl rfl ?_
       refine qS rfl rfl ?_
       refine qL (LOp.pkT (a:=.v _) rfl (by first | rfl | assumption) rfl) rfl rfl ?_
       refine SeqC.nil ⟨by kernel_rfl,?_⟩
       refine aN ?_
       refine AWP.condT rfl ?_
       refine wS (wR ?_)
       refine oL (lA (a:=.v _) rfl) rfl rfl ?_
       refine oN (aN ?_)
       refine wT (bR (aR (aR (bR (aR (?_))))))
       refine ⟨.inr rfl,oV Tryz.results77 rfl rfl ?_⟩
       (refine vb_eq ?_; unfold gB; rw [allN_hit hlt (by first | (simp only [gP,ex,ek1]; simp_all; done) | (simp only [gP,ex]; simp_all; done) | (simp only [gP,ex,ek1]; simp_all; intros; omega) | (simp only [gP,ex]; simp_all; intros; omega))]; rfl)
      ·skip
       refine qL (lF fi95_1 rfl rfl rfl rfl rfl) rfl rfl ?_
       refine qL (lD row2 rfl rfl rfl rfl rfl) rfl rfl ?_
       refine qL (lP rfl (fun _ _=>nofun) (fun _=>rfl)) rfl rfl ?_
       refine qL (lK rfl rfl rfl) rfl rfl ?_
       refine qL (lM (a:=.v _) rfl) rfl rfl ?_
       refine SeqC.splitB 60 rfl (fun hg60=>?_) (fun hg60=>?_)
       ·skip
        refine qS rfl rfl ?_
        refine qS rfl rfl ?_
        refine qS rfl rfl ?_
        refine qS rfl rfl ?_
        refine qL (LOp.pkT (a:=.v _) rfl (by first | rfl | assumption) rfl) rfl rfl ?_
        refine SeqC.nil ⟨by kernel_rfl,?_⟩
        refine aN ?_
        refine AWP.condT rfl ?_
        refine wS (wR ?_)
        refine oL (lA (a:=.v _) rfl) rfl rfl ?_
        refine oN (aN ?_)
        refine wT (bR (aR (aR (bR (aR (?_))))))
        refine ⟨.inr rfl,oV Tryz.results77 rfl rfl ?_⟩
        (refine vb_eq ?_; unfold gB; rw [allN_hit hlt (by first | (simp only [gP,ex,ek1]; simp_all; done) | (simp only [gP,ex]; simp_all; done) | (simp only [gP,ex,ek1]; simp_all; intros; omega) | (simp only [gP,ex]; simp_all; intros; omega))]; rfl)
       ·skip
        refine qL (lF fi95_1 rfl rfl rfl rfl rfl) rfl rfl ?_
        refine qL (lD row2 rfl rfl rfl rfl rfl) rfl rfl ?_
        refine qL (LOp.call bod78 rfl (pabs_p f.cs[k].n hra.1 hra.2)) rfl rfl ?_
        refine qL (lP rfl (fun _ _=>nofun) (fun _=>rfl)) rfl rfl ?_
        refine qL (lK rfl rfl rfl) rfl rfl ?_
        refine SeqC.nil ⟨by kernel_rfl,?_⟩
        refine aN ?_
        refine wC rfl (fun hc65=>?_) (fun hc65=>?_)
        ·skip
         refine wS (wR ?_)
         refine oL (lA (a:=.v _) rfl) rfl rfl ?_
         refine oN (aN ?_)
         refine wT (bR (aR (aR (bR (aR (?_))))))
         refine ⟨.inr rfl,oV Tryz.results77 rfl rfl ?_⟩
         (refine vb_eq ?_; unfold gB; rw [allN_hit hlt (by first | (simp only [gP,ex,ek1]; simp_all; done) | (simp only [gP,ex]; simp_all; done) | (simp only [gP,ex,ek1]; simp_all; intros; omega) | (simp only [gP,ex]; simp_all; intros; omega))]; rfl)
        ·skip
         refine wK (bN (aN (wR ?_)))
         refine oL (lJ rfl rfl (by omega) (by omega)) rfl rfl ?_
         refine oL (lM (a:=.v _) rfl) rfl rfl ?_
         refine oN (aN ?_)
         refine ⟨(f.cs.length - (k+1)),⟨fL [(1,.v (.int .i64 ((m:Nat):Int))),(2,.tp [.clo 75 [.tp [.v (.int .i64 ((l.length:Nat):Int))] 0,.tp [vsA l] 0,.tp (clA c) 0]] 0),(3,.tp [.v (.int .i64 ((l.length:Nat):Int))] 0),(4,.tp (clA c) 0),(5,.ptr 0 0 0),(12,csA f.cs),(13,.v (.int .i64 ((f.cs.length:Nat):Int))),(14,.v (.int .i64 (((k+1):Nat):Int)))],hLz [(0,⟨0,liA f,0,false⟩)],1⟩,by omega,(cO (.cons rfl rfl (.cons rfl rfl (.cons rfl rfl (.cons rfl rfl (.cons rfl rfl (.cons rfl rfl (.cons rfl rfl (.cons rfl rfl .nil)))))))) (.cons rfl rfl rfl .nil)),(k+1),rfl,rfl,?_⟩
         refine ⟨by omega,fun j h=>?_⟩
         rcases Nat.lt_succ_iff_lt_or_eq.1 h with h | rfl
         ·exact hj j h
         ·first | (simp only [gP,ex,ek1]; simp_all; done) | (simp only [gP,ex]; simp_all; done) | (simp only [gP,ex,ek1]; simp_all; intros; omega) | (simp only [gP,ex]; simp_all; intros; omega)
     ·skip
      refine qS rfl rfl ?_
      refine qS rfl rfl ?_
      refine qS rfl rfl ?_
      refine qS rfl rfl ?_
      refine qS rfl rfl ?_
      refine qS rfl rfl ?_
      refine qS rfl rfl ?_
      refine qS rfl rfl ?_
      refine qS rfl rfl ?_
      refine qS rfl rfl ?_
      refine qL (LOp.pkF (a:=.v _) rfl (by first | rfl | assumption) rfl) rfl rfl ?_
      refine qL (lK rfl rfl rfl) rfl rfl ?_
      refine qL (lM (a:=.v _) rfl) rfl rfl ?_
      refine qL (lF fi95_1 rfl rfl rfl rfl rfl) rfl rfl ?_
      refine qL (lD row2 rfl rfl rfl rfl rfl) rfl rfl ?_
      refine qL (lP rfl (fun _ _=>nofun) (fun _=>rfl)) rfl rfl ?_
      refine qL (lK rfl rfl rfl) rfl rfl ?_
      refine qL (lM (a:=.v _) rfl) rfl rfl ?_
      refine SeqC.splitB 60 rfl (fun hg60=>?_) (fun hg60=>?_)
      ·skip
       refine qS rfl rfl ?_
       refine qS rfl rfl ?_
       refine qS rfl rfl ?_
       refine qS rfl rfl ?_
       refine qL (LOp.pkT (a:=.v _) rfl (by first | rfl | assumption) rfl) rfl rfl ?_
       refine SeqC.nil ⟨by kernel_rfl,?_⟩
       refine aN ?_
       refine AWP.condT rfl ?_
       refine wS (wR ?_)
       refine oL (lA (a:=.v _) rfl) rfl rfl ?_
       refine oN (aN ?_)
       refine wT (bR (aR (aR (bR (aR (?_))))))
       refine ⟨.inr rfl,oV Tryz.results77 rfl rfl ?_⟩
       (refine vb_eq ?_; unfold gB; rw [allN_hit hlt (by first | (simp only [gP,ex,ek1]; simp_all; done) | (simp only [gP,ex]; simp_all; done) | (simp only [gP,ex,ek1]; simp_all; intros; omega) | (simp only [gP,ex]; simp_all; intros; omega))]; rfl)
      ·skip
       refine qL (lF fi95_1 rfl rfl rfl rfl rfl) rfl rfl ?_
       refine qL (lD row2 rfl rfl rfl rfl rfl) rfl rfl ?_
       refine qL (LOp.call bod78 rfl (pabs_p f.cs[k].n hra.1 hra.2)) rfl rfl ?_
       refine qL (lP rfl (fun _ _=>nofun) (fun _=>rfl)) rfl rfl ?_
       refine qL (lK rfl rfl rfl) rfl rfl ?_
       refine SeqC.nil ⟨by kernel_rfl,?_⟩
       refine aN ?_
       refine wC rfl (fun hc65=>?_) (fun hc65=>?_)
       ·skip
        refine wS (wR ?_)
        refine oL (lA (a:=.v _) rfl) rfl rfl ?_
        refine oN (aN ?_)
        refine wT (bR (aR (aR (bR (aR (?_))))))
        refine ⟨.inr rfl,oV Tryz.results77 rfl rfl ?_⟩
        (refine vb_eq ?_; unfold gB; rw [allN_hit hlt (by first | (simp only [gP,ex,ek1]; simp_all; done) | (simp only [gP,ex]; simp_all; done) | (simp only [gP,ex,ek1]; simp_all; intros; omega) | (simp only [gP,ex]; simp_all; intros; omega))]; rfl)
       ·skip
        refine wK (bN (aN (wR ?_)))
        refine oL (lJ rfl rfl (by omega) (by omega)) rfl rfl ?_
        refine oL (lM (a:=.v _) rfl) rfl rfl ?_
        refine oN (aN ?_)
        refine ⟨(f.cs.length - (k+1)),⟨fL [(1,.v (.int .i64 ((m:Nat):Int))),(2,.tp [.clo 75 [.tp [.v (.int .i64 ((l.length:Nat):Int))] 0,.tp [vsA l] 0,.tp (clA c) 0]] 0),(3,.tp [.v (.int .i64 ((l.length:Nat):Int))] 0),(4,.tp (clA c) 0),(5,.ptr 0 0 0),(12,csA f.cs),(13,.v (.int .i64 ((f.cs.length:Nat):Int))),(14,.v (.int .i64 (((k+1):Nat):Int)))],hLz [(0,⟨0,liA f,0,false⟩)],1⟩,by omega,(cO (.cons rfl rfl (.cons rfl rfl (.cons rfl rfl (.cons rfl rfl (.cons rfl rfl (.cons rfl rfl (.cons rfl rfl (.cons rfl rfl .nil)))))))) (.cons rfl rfl rfl .nil)),(k+1),rfl,rfl,?_⟩
        refine ⟨by omega,fun j h=>?_⟩
        rcases Nat.lt_succ_iff_lt_or_eq.1 h with h | rfl
        ·exact hj j h
        ·first | (simp only [gP,ex,ek1]; simp_all; done) | (simp only [gP,ex]; simp_all; done) | (simp only [gP,ex,ek1]; simp_all; intros; omega) | (simp only [gP,ex]; simp_all; intros; omega)
   ·skip
    refine oS rfl rfl ?_
    refine oS rfl rfl ?_
    refine oS rfl rfl ?_
    refine oS rfl rfl ?_
    refine oS rfl rfl ?_
    refine oS rfl rfl ?_
    refine oL (LOp.pkF (a:=.v _) rfl (by first | rfl | assumption) rfl) rfl rfl ?_
    refine oL (lK rfl rfl rfl) rfl rfl ?_
    refine oL (lA (a:=.v _) rfl) rfl rfl ?_
    refine oN (aN (wS (AWP.regD mixed ?_)))
    refine qL (lM (a:=.v _) rfl) rfl rfl ?_
    refine qL (lP rfl (fun _ _=>nofun) (fun _=>rfl)) rfl rfl ?_
    refine qL (lM (a:=.v _) rfl) rfl rfl ?_
    refine qS rfl rfl ?_
    refine qS rfl rfl ?_
    refine qS rfl rfl ?_
    refine qS rfl rfl ?_
    refine qS rfl rfl ?_
    refine qS rfl rfl ?_
    refine qS rfl rfl ?_
    refine qS rfl rfl ?_
    refine qS rfl rfl ?_
    refine qS rfl rfl ?_
    refine qS rfl rfl ?_
    refine qS rfl rfl ?_
    refine qS rfl rfl ?_
    refine qS rfl rfl ?_
    refine qL (LOp.pkT (a:=.v _) rfl (by first | rfl | assumption) rfl) rfl rfl ?_
    refine qL (lM (a:=.v _) rfl) rfl rfl ?_
    refine qS rfl rfl ?_
    refine qS rfl rfl ?_
    refine qS rfl rfl ?_
    refine qL (LOp.pkT (a:=.v _) rfl (by first | rfl | assumption) rfl) rfl rfl ?_
    refine qL (lM (a:=.v _) rfl) rfl rfl ?_
    refine qS rfl rfl ?_
    refine qS rfl rfl ?_
    refine qS rfl rfl ?_
    refine qS rfl rfl ?_
    refine qL (LOp.pkT (a:=.v _) rfl (by first | rfl | assumption) rfl) rfl rfl ?_
    refine SeqC.nil ⟨by kernel_rfl,?_⟩
    refine aN ?_
    refine AWP.condT rfl ?_
    refine wS (wR ?_)
    refine oL (lA (a:=.v _) rfl) rfl rfl ?_
    refine oN (aN ?_)
    refine wT (bR (aR (aR (bR (aR (?_))))))
    refine ⟨.inr rfl,oV Tryz.results77 rfl rfl ?_⟩
    (refine vb_eq ?_; unfold gB; rw [allN_hit hlt (by first | (simp only [gP,ex,ek1]; simp_all; done) | (simp only [gP,ex]; simp_all; done) | (simp only [gP,ex,ek1]; simp_all; intros; omega) | (simp only [gP,ex]; simp_all; intros; omega))]; rfl)
 ·skip
  have hge:¬ k < f.cs.length:=fun h=>of_decide_eq_false hc15 (Int.ofNat_lt.2 h)
  have hall:=allN_end hk hge hj
  have hcf:∀ i (h:i < f.cs.length),f.cs[i].v < (l.length:Int)+m∧-1048576≤f.cs[i].n∧f.cs[i].n≤1048576:=fun i hi=>gP_coef hi (allN_iff.1 hall i hi)
  refine AWP.exit (aE (aE (bE ?_)))
  refine aN (wS (wR ?_))
  refine oL (lF fi98_0 rfl rfl rfl rfl rfl) rfl rfl ?_
  refine oL (lD row2 rfl rfl rfl rfl rfl) rfl rfl ?_
  refine oL (LOp.call bod78 rfl (pabs_p f.k hrk.1 hrk.2)) rfl rfl ?_
  refine oL (lP rfl (fun _ _=>nofun) (fun _=>rfl)) rfl rfl ?_
  refine oL (lM (a:=.v _) rfl) rfl rfl ?_
  refine oB 71 rfl (fun hg71=>?_) (fun hg71=>?_)
  ·skip
   have hkb:-1099511627777≤f.k∧f.k≤1099511627777:=by have:=of_decide_eq_true hg71; unfold absI at this; split at this <;> omega
   refine oL (LOp.ldN row98 rfl rfl rfl rfl rfl) rfl rfl ?_
   refine oL (lE row3 rfl rfl) rfl rfl ?_
   refine oL (LOp.fieldAddrT fi76_2 rfl rfl) rfl rfl ?_
   refine oL (lE row71 rfl rfl) rfl rfl ?_
   refine oL (LOp.call bod79 rfl (bnd_p c l hc hl m hm hA f hf hkb hcf)) rfl rfl ?_
   refine oL (lP rfl (fun _ _=>nofun) (fun _=>rfl)) rfl rfl ?_
   refine oL (lK rfl rfl rfl) rfl rfl ?_
   refine oL (lA (a:=.v _) rfl) rfl rfl ?_
   refine oN (aN ?_)
   refine wT (?_)
   refine ⟨.inr rfl,oV Tryz.results77 rfl rfl ?_⟩
   (refine vb_eq ?_; unfold gB; rw [hall]; simp_all; done)
  ·skip
   refine oS rfl rfl ?_
   refine oS rfl rfl ?_
   refine oS rfl rfl ?_
   refine oS rfl rfl ?_
   refine oS rfl rfl ?_
   refine oS rfl rfl ?_
   refine oL (LOp.pkF (a:=.v _) rfl (by first | rfl | assumption) rfl) rfl rfl ?_
   refine oL (lA (a:=.v _) rfl) rfl rfl ?_
   refine oN (aN ?_)
   refine wT (?_)
   refine ⟨.inr rfl,oV Tryz.results77 rfl rfl ?_⟩
   (refine vb_eq ?_; unfold gB; rw [hall]; simp_all; intros; omega)
end Go.Proofs.YtfelpgeolclnbaaGreatDoor
namespace Go.Proofs.YtfelpgeolclnbaaGreatDoor
set_option linter.unusedVariables false
set_option linter.unusedSimpArgs false
open Go.RowKit
/-- A call that gives a slice of no elements in a new row. -/
def Fresh (P:Program) (f:FuncId) (args:List AV) (z:Nat):Prop :=
 ∀ (T:Nat→Prop) (w:World) (vals:Array Value),TRs T w args vals→(∀ b,T b→b < w.heap.size)→Calls P f vals w (fun e w'=>∃ b o cap cells t,e=.returned (.slice (some ⟨b,o,none⟩) 0 cap)∧Below w.heap.size w w'∧w.heap.size≤b∧w'.heap[b]? = some (.cells cells t (0,0))∧cap≤maxLen∧o+cap * z≤cells.size)
section
variable {P:Program} {τ:Nat→AV} {η:Heap} {d:Option Tmp} {ty:TypeId} {pos:String} {af:Array Edge} {g:Option (Nat×Bool)}
theorem LOp.fresh (u:Nat) {f:FuncId} {xs:Array Operand} {ats:Array TypeId} {z:Nat} (hb:bodied P f=true) (hp:pureL (xs.toList.map (aev τ))=true) (hc:Fresh P f (xs.toList.map (aev τ)) z) :
  LOp P ⟨d,.call { callee:=.value (.func f),args:=xs,argTypes:=ats },ty,pos,af,g⟩ τ η [] [(u,some ⟨0,[],z,false⟩)] (.sl u 0 0 0):=by
 intro C a hg hxs _ hnew K Q hK
 have hu:¬ C.U u:=hnew (u,some ⟨0,[],z,false⟩) (by simp) (by simp)
 have hargs:=args_rel (a:=a) (fun x hx=>hxs x (by simp [Op.operands,Call.operands]; exact .inr (by simpa using hx))) hp
 have hrun:(execOp a.eval ⟨d,.call { callee:=.value (.func f),args:=xs,argTypes:=ats },ty,pos,af,g⟩).run P C.w=.ok (.enter f (xs.map a.eval)) C.w:=by
  have:execOp a.eval ⟨d,.call { callee:=.value (.func f),args:=xs,argTypes:=ats },ty,pos,af,g⟩=callFunc f (#[]++xs.map a.eval++#[]):=rfl
  rw [this,run_callFunc' hb]
  simp
 unfold Oper.wp
 rw [hrun]
 refine Calls.mono (hc C.T C.w _ hargs (fun b hb=>hg.tlt hb)) ?_
 rintro e w' ⟨b,o,cap,cells,t,rfl,hbel,hge,hcell,hcap,hsz⟩
 have hok:ReplOk C u (b,o) cells.size ⟨0,[],z,false⟩ w':=⟨hbel.os,hbel.tape,hbel.output,hbel.size,fun k hk _=>hbel.block k hk,.inr hge,fun h=>absurd h hu,rfl,fun e=>absurd e (by show ¬ ((0:Nat)=TV); decide),cells,t,hcell,rfl,by simp; omega,fun j h=>absurd h (by simp)⟩
 refine hK _ (C.repl u (b,o) cells.size ⟨0,[],z,false⟩ w') rfl (fun i=>by simp [Ctx.repl]) (Ctx.repl_good hg hok) (Ctx.repl_ev hg hok) ?_
 have:=VR.sl (C:=C.repl u (b,o) cells.size ⟨0,[],z,false⟩ w') (id:=u) (ver:=0) (off:=0) (len:=0) (cap:=cap) (b:=⟨0,[],z,false⟩) (Heap.set_same _ _ _) rfl rfl (Nat.zero_le _) hcap (Nat.zero_le _) (by simp [Ctx.repl]; omega)
 simpa [Ctx.repl] using this
end
theorem two_args {T:Nat→Prop} {w:World} {x y:Value} {vals:Array Value} (h:TRs T w [.v x,.v y] vals):vals=#[x,y]:=by
 obtain ⟨hlen,hv⟩:=h
 have k0:=(hv 0 (by simp) (by simp at hlen; omega)).v_inv
 have k1:=(hv 1 (by simp) (by simp at hlen; omega)).v_inv
 apply Array.ext
 ·simpa using hlen.symm
 ·intro i hi hi'
  have:i=0∨i=1:=by simp at hi'; omega
  rcases this with rfl | rfl
  ·exact k0
  ·exact k1
theorem grow0_p (m:Int) (h:m=0):PCall Tryz.prog 92 [.v (.slice none 0 0),.v (.int .i64 m)] (.v (.slice none 0 0)):=by
 subst h
 intro T w vals hv hT
 rw [two_args hv]
 refine (Any8.slices_Grow_room Tryz.growP none 0 0 0 w (Nat.le_refl _) (by omega) (by omega) (by omega)).mono ?_
 rintro e w' ⟨rfl,rfl⟩
 exact ⟨_,T,rfl,.v _,fun _ h=>h,fun _ h=>.inl h,fun b hb=>hT b hb,Below.refl _ _⟩
theorem grow_f (m:Nat) (h0:0 < m) (h1:m≤100000) (hs:sizeInfo Tryz.prog 128=some 2) (hz:zeroOf Tryz.prog 128=some (.agg #[.int .i64 0,.int .i64 0])) (hb:(Tryz.prog.info? 128).map (·.bytes)=some 16):Fresh Tryz.prog 92 [.v (.slice none 0 0),.v (.int .i64 ((m:Nat):Int))] 2:=by
 intro T w vals hv hT
 rw [two_args hv]
 unfold sizeInfo at hs
 unfold zeroOf at hz
 cases hi:Tryz.prog.info? 128 with
 | none=>rw [hi] at hs; cases hs
 | some inf=>
  rw [hi] at hz hs hb
  simp only [Option.bind_some] at hz
  simp only [Option.map_some,Option.some.injEq] at hs hb
  refine (Any8.slices_Grow_grow Tryz.growP inf _ hi hz (by omega) none 0 0 m [] w (Nat.le_refl _) (by omega) (by rw [hb]; omega) (by omega) (by simp) (fun _=>rfl) (fun a h=>by cases h)).mono ?_
  rintro e w' ⟨rfl,rfl⟩
  have hge:=grownCap_ge w (0+m) 0 128
  have hmx:grownCap w (0+m) 0 128≤maxLen:=grownCap_le_maxLen w (0+m) 0 128 (by unfold maxLen; omega)
  refine ⟨w.heap.size,0,_,_,128,rfl,?_,Nat.le_refl _,heap_alloc_new w.drew _,hmx,?_⟩
  ·exact ⟨rfl,rfl,rfl,by simp,fun k hk=>Below.heap_alloc w.drew _ k hk⟩
  ·have e26:(Tryz.growP_ren.t 25)=128:=rfl
   simp only [e26,Array.size_append,size_zeroCells]
   simp [Value.cells]
   omega
/-- The pairs of the first lists. -/
def catP (ls:List (List (Int×Int))) (k:Nat):List (Int×Int):=(ls.take k).flatten
theorem catP_next {ls:List (List (Int×Int))} {k:Nat} (h:k < ls.length):catP ls (k+1)=catP ls k++ls[k]:=by
 unfold catP
 rw [List.take_succ_eq_append_getElem h,List.flatten_append]; simp
theorem catP_len {ls:List (List (Int×Int))} {k:Nat} (h:k < ls.length):(catP ls (k+1)).length=(catP ls k).length+ls[k].length:=by rw [catP_next h,List.length_append]
theorem catP_all (ls:List (List (Int×Int))):catP ls ls.length=ls.flatten:=by unfold catP; rw [List.take_length]
theorem paA_len:∀ l:List (Int×Int),((l.map paA).flatten).length=l.length * 2
 | []=>rfl
 | p :: l=>by have:=paA_len l; simp at this ⊢; omega
theorem paA_one:∀ l:List (Int×Int),((l.map paA).flatten).all AV.one=true
 | []=>rfl
 | p :: l=>by simp [AV.one,Value.oneCell']
theorem cat_step {ls:List (List (Int×Int))} {k:Nat} (h:k < ls.length):(((catP ls k).map paA).flatten).take ((catP ls k).length * 2)++((ls[k]).map paA).flatten=((catP ls (k+1)).map paA).flatten:=by
 rw [← paA_len,List.take_length,catP_next h,List.map_append,List.flatten_append]
theorem cat_le {ls:List (List (Int×Int))} (hl:ls.flatten.length≤100000) (k:Nat):(catP ls k).length≤100000:=by
 have:(catP ls k).length≤ls.flatten.length:=by
  have h:=congrArg (fun l=>(List.flatten l).length) (List.take_append_drop k ls)
  simp only [List.flatten_append,List.length_append] at h
  unfold catP
  omega
 omega
theorem low_pa (u:Nat):∀ l:List (Int×Int),lowL u ((l.map paA).flatten)=true
 | []=>rfl
 | p :: l=>by have:=low_pa u l; simpa [lowL,AV.lowB] using this
abbrev lsA (l:List (Int×Int)):List AV:=[psA l]
theorem bod92:bodied Tryz.prog 92=true:=by kernel_rfl
theorem by128:(Tryz.prog.info? 128).map (·.bytes)=some 16:=by kernel_rfl
theorem sz74:sizeInfo Tryz.prog 74=some 1:=by kernel_rfl
theorem zr128:zeroOf Tryz.prog 128=some (.agg #[.int .i64 0,.int .i64 0]):=by kernel_rfl
set_option maxRecDepth 100000 in
set_option maxHeartbeats 4000000 in
theorem cat0_p (ls:List (List (Int×Int))) (hn:ls.length≤1000) (h0:ls.flatten.length=0):PCall Tryz.prog 81 [.tree 1 (ls.map lsA)] (.tree 2 []):=by
 have hl:ls.flatten.length≤100000:=by omega
 refine pB Tryz.func81 rfl Tryz.ntmps81 (Nat.le_of_ble_eq_true rfl) ?_
 refine wS (wR ?_)
 refine oL (lA (a:=.v _) rfl) rfl rfl ?_
 refine oN (aN (wS (wR ?_)))
 refine oL (lA (a:=.v _) rfl) rfl rfl ?_
 refine oN (aN (wS (wS (wR ?_))))
 refine oL (lM (a:=.tree _ _) rfl) rfl rfl ?_
 refine oL (lT rfl Tryz.underlying189 rfl) rfl rfl ?_
 refine oL (lM (a:=.v _) rfl) rfl rfl ?_
 refine oN (aN (wB ?_))
 refine wL (fun n s=>∃ k:Nat,n=(ls.length - k)∧s=⟨fL [(0,.tree 1 (ls.map lsA)),(3,.v (.int .i64 (((catP ls k).length:Nat):Int))),(9,.tree 1 (ls.map lsA)),(10,.v (.int .i64 ((ls.length:Nat):Int))),(11,.v (.int .i64 ((k:Nat):Int)))],hLz [],0⟩∧(k≤ls.length∧∀ j,j < k→(fun _=>true) j=true)) (n:=(ls.length - 0)) (s1:=⟨fL [(0,.tree 1 (ls.map lsA)),(3,.v (.int .i64 (((catP ls 0).length:Nat):Int))),(9,.tree 1 (ls.map lsA)),(10,.v (.int .i64 ((ls.length:Nat):Int))),(11,.v (.int .i64 ((0:Nat):Int)))],hLz [],0⟩) (cO (.cons rfl rfl (.cons (by first | rfl | exact vi_eq (by rw [catP_len hlt]; omega)) rfl (.cons rfl rfl (.cons rfl rfl (.cons rfl rfl .nil))))) .nil) ⟨0,rfl,rfl,⟨Nat.zero_le _,fun j h=>absurd h (Nat.not_lt_zero j)⟩⟩ ?_
 rintro n s ⟨k,rfl,rfl,hinv⟩
 obtain ⟨hk,hj⟩:=hinv
 have hcl:=cat_le hl k
 refine wS (wR ?_)
 refine oL (lP rfl (fun _ _=>nofun) (fun _=>rfl)) rfl rfl ?_
 refine oN (aN (wS ?_))
 refine wC rfl (fun hc12=>?_) (fun hc12=>?_)
 ·skip
  have hlt:k < ls.length:=Int.ofNat_lt.1 (of_decide_eq_true hc12)
  have hcl2:=cat_le hl (k+1)
  rw [catP_len hlt] at hcl2
  refine wK (aN (wS (wB (wS (wR ?_)))))
  refine oL (lI Tryz.underlying189 sz74 rfl rfl (by first | assumption | omega)) rfl rfl ?_
  refine oL (lE row74 rfl rfl) rfl rfl ?_
  refine oL (lA (a:=.tree _ _) rfl) rfl rfl ?_
  refine oN (aN (wS (wR ?_)))
  refine oL (lM (a:=.v _) rfl) rfl rfl ?_
  refine oL (lM (a:=.tree _ _) rfl) rfl rfl ?_
  refine oL (lT rfl Tryz.underlying74 rfl) rfl rfl ?_
  refine oL (lJ rfl rfl (by omega) (by omega)) rfl rfl ?_
  refine oL (lA (a:=.v _) rfl) rfl rfl ?_
  refine oN (aN (wS (wR ?_)))
  refine oL (lM (a:=.v _) rfl) rfl rfl ?_
  refine oL (lP rfl (fun _ _=>nofun) (fun _=>rfl)) rfl rfl ?_
  refine oN (aN ?_)
  refine wC rfl (fun hc20=>?_) (fun hc20=>?_)
  ·skip
   exact absurd (of_decide_eq_true hc20) (by omega)
  ·skip
   refine wK (bN (aN (wR ?_)))
   refine oL (lJ rfl rfl (by omega) (by omega)) rfl rfl ?_
   refine oL (lM (a:=.v _) rfl) rfl rfl ?_
   refine oN (aN ?_)
   refine ⟨(ls.length - (k+1)),⟨fL [(0,.tree 1 (ls.map lsA)),(3,.v (.int .i64 (((catP ls (k+1)).length:Nat):Int))),(9,.tree 1 (ls.map lsA)),(10,.v (.int .i64 ((ls.length:Nat):Int))),(11,.v (.int .i64 (((k+1):Nat):Int)))],hLz [],0⟩,by omega,(cO (.cons rfl rfl (.cons (by first | rfl | exact vi_eq (by rw [catP_len hlt]; omega)) rfl (.cons rfl rfl (.cons rfl rfl (.cons rfl rfl .nil))))) .nil),(k+1),rfl,rfl,?_⟩
   refine ⟨by omega,fun j h=>?_⟩
   rcases Nat.lt_succ_iff_lt_or_eq.1 h with h | rfl
   ·exact hj j h
   ·rfl
 ·skip
  have hge:¬ k < ls.length:=fun h=>of_decide_eq_false hc12 (Int.ofNat_lt.2 h)
  have hkl:k=ls.length:=by omega
  subst hkl
  clear hj hk hge
  refine AWP.exit (aE (aE (bE ?_)))
  refine aN (wS (wR ?_))
  refine oL (lM (a:=.v _) rfl) rfl rfl ?_
  refine oL (LOp.call bod92 rfl (grow0_p _ (by rw [catP_all,h0]; rfl))) rfl rfl ?_
  refine oL (lA (a:=.v _) rfl) rfl rfl ?_
  refine oN (aN (wS (wS (wR ?_))))
  refine oL (lM (a:=.tree _ _) rfl) rfl rfl ?_
  refine oL (lT rfl Tryz.underlying189 rfl) rfl rfl ?_
  refine oL (lM (a:=.v _) rfl) rfl rfl ?_
  refine oN (aN (wB ?_))
  refine wL (fun n s=>∃ k:Nat,n=(ls.length - k)∧s=⟨fL [(6,.v (.slice none 0 0)),(25,.tree 1 (ls.map lsA)),(26,.v (.int .i64 ((ls.length:Nat):Int))),(27,.v (.int .i64 ((k:Nat):Int)))],hLz [],0⟩∧(k≤ls.length∧∀ j,j < k→(fun _=>true) j=true)) (n:=(ls.length - 0)) (s1:=⟨fL [(6,.v (.slice none 0 0)),(25,.tree 1 (ls.map lsA)),(26,.v (.int .i64 ((ls.length:Nat):Int))),(27,.v (.int .i64 ((0:Nat):Int)))],hLz [],0⟩) (cO (.cons rfl rfl (.cons rfl rfl (.cons rfl rfl (.cons rfl rfl .nil)))) .nil) ⟨0,rfl,rfl,⟨Nat.zero_le _,fun j h=>absurd h (Nat.not_lt_zero j)⟩⟩ ?_
  rintro n s ⟨k,rfl,rfl,hinv⟩
  obtain ⟨hk,hj⟩:=hinv
  refine wS (wR ?_)
  refine oL (lP rfl (fun _ _=>nofun) (fun _=>rfl)) rfl rfl ?_
  refine oN (aN (wS ?_))
  refine wC rfl (fun hc28=>?_) (fun hc28=>?_)
  ·skip
   have hlt:k < ls.length:=Int.ofNat_lt.1 (of_decide_eq_true hc28)
   have hcl2:=cat_le hl (k+1)
   rw [catP_len hlt] at hcl2
   have hz:ls[k].length=0:=by rw [List.flatten_eq_nil_iff.1 (List.eq_nil_of_length_eq_zero h0) _ (List.getElem_mem hlt)]; rfl
   refine wK (aN (wS (wB (wS (wR ?_)))))
   refine oL (lI Tryz.underlying189 sz74 rfl rfl (by first | assumption | omega)) rfl rfl ?_
   refine oL (lE row74 rfl rfl) rfl rfl ?_
   refine oL (lA (a:=.tree _ _) rfl) rfl rfl ?_
   refine oN (aN (wR ?_))
   refine oL (lM (a:=.v _) rfl) rfl rfl ?_
   refine oL (lM (a:=.tree _ _) rfl) rfl rfl ?_
   refine oL (LOp.appendZ Tryz.underlying74 sz128 rfl (Src.treeMap hz) (by rw [List.eq_nil_of_length_eq_zero hz]; rfl)) rfl rfl ?_
   refine oL (lA (a:=.v _) rfl) rfl rfl ?_
   refine oN (bN (aN (wR ?_)))
   refine oL (lJ rfl rfl (by omega) (by omega)) rfl rfl ?_
   refine oL (lM (a:=.v _) rfl) rfl rfl ?_
   refine oN (aN ?_)
   refine ⟨(ls.length - (k+1)),⟨fL [(6,.v (.slice none 0 0)),(25,.tree 1 (ls.map lsA)),(26,.v (.int .i64 ((ls.length:Nat):Int))),(27,.v (.int .i64 (((k+1):Nat):Int)))],hLz [],0⟩,by omega,(cO (.cons rfl rfl (.cons rfl rfl (.cons rfl rfl (.cons rfl rfl .nil)))) .nil),(k+1),rfl,rfl,?_⟩
   refine ⟨by omega,fun j h=>?_⟩
   rcases Nat.lt_succ_iff_lt_or_eq.1 h with h | rfl
   ·exact hj j h
   ·rfl
  ·skip
   have hge:¬ k < ls.length:=fun h=>of_decide_eq_false hc28 (Int.ofNat_lt.2 h)
   have hkl:k=ls.length:=by omega
   subst hkl
   refine AWP.exit (aE (aE (bE ?_)))
   refine aN (wS (wR ?_))
   refine oL (lM (a:=.v _) rfl) rfl rfl ?_
   refine oL (lA (a:=.v _) rfl) rfl rfl ?_
   refine oN (aN ?_)
   refine wT (?_)
   refine ⟨.inr rfl,Outs.tmp Tryz.results81 ?_⟩
   exact ⟨[],FzP.nil⟩
set_option maxRecDepth 100000 in
set_option maxHeartbeats 4000000 in
theorem cat1_p (ls:List (List (Int×Int))) (hn:ls.length≤1000) (h0:0 < ls.flatten.length) (hl:ls.flatten.length≤100000):PCall Tryz.prog 81 [.tree 1 (ls.map lsA)] (psA ls.flatten):=by
 refine pB Tryz.func81 rfl Tryz.ntmps81 (Nat.le_of_ble_eq_true rfl) ?_
 refine wS (wR ?_)
 refine oL (lA (a:=.v _) rfl) rfl rfl ?_
 refine oN (aN (wS (wR ?_)))
 refine oL (lA (a:=.v _) rfl) rfl rfl ?_
 refine oN (aN (wS (wS (wR ?_))))
 refine oL (lM (a:=.tree _ _) rfl) rfl rfl ?_
 refine oL (lT rfl Tryz.underlying189 rfl) rfl rfl ?_
 refine oL (lM (a:=.v _) rfl) rfl rfl ?_
 refine oN (aN (wB ?_))
 refine wL (fun n s=>∃ k:Nat,n=(ls.length - k)∧s=⟨fL [(0,.tree 1 (ls.map lsA)),(3,.v (.int .i64 (((catP ls k).length:Nat):Int))),(9,.tree 1 (ls.map lsA)),(10,.v (.int .i64 ((ls.length:Nat):Int))),(11,.v (.int .i64 ((k:Nat):Int)))],hLz [],0⟩∧(k≤ls.length∧∀ j,j < k→(fun _=>true) j=true)) (n:=(ls.length - 0)) (s1:=⟨fL [(0,.tree 1 (ls.map lsA)),(3,.v (.int .i64 (((catP ls 0).length:Nat):Int))),(9,.tree 1 (ls.map lsA)),(10,.v (.int .i64 ((ls.length:Nat):Int))),(11,.v (.int .i64 ((0:Nat):Int)))],hLz [],0⟩) (cO (.cons rfl rfl (.cons (by first | rfl | exact vi_eq (by rw [catP_len hlt]; omega)) rfl (.cons rfl rfl (.cons rfl rfl (.cons rfl rfl .nil))))) .nil) ⟨0,rfl,rfl,⟨Nat.zero_le _,fun j h=>absurd h (Nat.not_lt_zero j)⟩⟩ ?_
 rintro n s ⟨k,rfl,rfl,hinv⟩
 obtain ⟨hk,hj⟩:=hinv
 have hcl:=cat_le hl k
 refine wS (wR ?_)
 refine oL (lP rfl (fun _ _=>nofun) (fun _=>rfl)) rfl rfl ?_
 refine oN (aN (wS ?_))
 refine wC rfl (fun hc12=>?_) (fun hc12=>?_)
 ·skip
  have hlt:k < ls.length:=Int.ofNat_lt.1 (of_decide_eq_true hc12)
  have hcl2:=cat_le hl (k+1)
  rw [catP_len hlt] at hcl2
  refine wK (aN (wS (wB (wS (wR ?_)))))
  refine oL (lI Tryz.underlying189 sz74 rfl rfl (by first | assumption | omega)) rfl rfl ?_
  refine oL (lE row74 rfl rfl) rfl rfl ?_
  refine oL (lA (a:=.tree _ _) rfl) rfl rfl ?_
  refine oN (aN (wS (wR ?_)))
  refine oL (lM (a:=.v _) rfl) rfl rfl ?_
  refine oL (lM (a:=.tree _ _) rfl) rfl rfl ?_
  refine oL (lT rfl Tryz.underlying74 rfl) rfl rfl ?_
  refine oL (lJ rfl rfl (by omega) (by omega)) rfl rfl ?_
  refine oL (lA (a:=.v _) rfl) rfl rfl ?_
  refine oN (aN (wS (wR ?_)))
  refine oL (lM (a:=.v _) rfl) rfl rfl ?_
  refine oL (lP rfl (fun _ _=>nofun) (fun _=>rfl)) rfl rfl ?_
  refine oN (aN ?_)
  refine wC rfl (fun hc20=>?_) (fun hc20=>?_)
  ·skip
   exact absurd (of_decide_eq_true hc20) (by omega)
  ·skip
   refine wK (bN (aN (wR ?_)))
   refine oL (lJ rfl rfl (by omega) (by omega)) rfl rfl ?_
   refine oL (lM (a:=.v _) rfl) rfl rfl ?_
   refine oN (aN ?_)
   refine ⟨(ls.length - (k+1)),⟨fL [(0,.tree 1 (ls.map lsA)),(3,.v (.int .i64 (((catP ls (k+1)).length:Nat):Int))),(9,.tree 1 (ls.map lsA)),(10,.v (.int .i64 ((ls.length:Nat):Int))),(11,.v (.int .i64 (((k+1):Nat):Int)))],hLz [],0⟩,by omega,(cO (.cons rfl rfl (.cons (by first | rfl | exact vi_eq (by rw [catP_len hlt]; omega)) rfl (.cons rfl rfl (.cons rfl rfl (.cons rfl rfl .nil))))) .nil),(k+1),rfl,rfl,?_⟩
   refine ⟨by omega,fun j h=>?_⟩
   rcases Nat.lt_succ_iff_lt_or_eq.1 h with h | rfl
   ·exact hj j h
   ·rfl
 ·skip
  have hge:¬ k < ls.length:=fun h=>of_decide_eq_false hc12 (Int.ofNat_lt.2 h)
  have hkl:k=ls.length:=by omega
  subst hkl
  clear hj hk hge
  refine AWP.exit (aE (aE (bE ?_)))
  refine aN (wS (wR ?_))
  refine oL (lM (a:=.v _) rfl) rfl rfl ?_
  refine oW (LOp.fresh 0 bod92 rfl (grow_f _ (by rw [catP_all]; exact h0) (by omega) sz128 zr128 by128)) rfl rfl 1 rfl ?_
  refine oL (lA (a:=.sl _ _ _ _) rfl) rfl rfl ?_
  refine oN (aN (wS (wS (wR ?_))))
  refine oL (lM (a:=.tree _ _) rfl) rfl rfl ?_
  refine oL (lT rfl Tryz.underlying189 rfl) rfl rfl ?_
  refine oL (lM (a:=.v _) rfl) rfl rfl ?_
  refine oN (aN (wB ?_))
  refine wL (fun n s=>∃ k:Nat,n=(ls.length - k)∧s=⟨fL [(6,.sl 0 k 0 (catP ls k).length),(25,.tree 1 (ls.map lsA)),(26,.v (.int .i64 ((ls.length:Nat):Int))),(27,.v (.int .i64 ((k:Nat):Int)))],hLz [(0,⟨k,((catP ls k).map paA).flatten,2,false⟩)],1⟩∧(k≤ls.length∧∀ j,j < k→(fun _=>true) j=true)) (n:=(ls.length - 0)) (s1:=⟨fL [(6,.sl 0 0 0 (catP ls 0).length),(25,.tree 1 (ls.map lsA)),(26,.v (.int .i64 ((ls.length:Nat):Int))),(27,.v (.int .i64 ((0:Nat):Int)))],hLz [(0,⟨0,((catP ls 0).map paA).flatten,2,false⟩)],1⟩) (cO (.cons (by first | rfl | (rw [catP_len hlt]; rfl)) rfl (.cons rfl rfl (.cons rfl rfl (.cons rfl rfl .nil)))) (.cons (by first | rfl | exact bb_eq (cat_step hlt)) rfl (low_pa _ _) .nil)) ⟨0,rfl,rfl,⟨Nat.zero_le _,fun j h=>absurd h (Nat.not_lt_zero j)⟩⟩ ?_
  rintro n s ⟨k,rfl,rfl,hinv⟩
  obtain ⟨hk,hj⟩:=hinv
  have hcl:=cat_le hl k
  refine wS (wR ?_)
  refine oL (lP rfl (fun _ _=>nofun) (fun _=>rfl)) rfl rfl ?_
  refine oN (aN (wS ?_))
  refine wC rfl (fun hc28=>?_) (fun hc28=>?_)
  ·skip
   have hlt:k < ls.length:=Int.ofNat_lt.1 (of_decide_eq_true hc28)
   have hcl2:=cat_le hl (k+1)
   rw [catP_len hlt] at hcl2
   refine wK (aN (wS (wB (wS (wR ?_)))))
   refine oL (lI Tryz.underlying189 sz74 rfl rfl (by first | assumption | omega)) rfl rfl ?_
   refine oL (lE row74 rfl rfl) rfl rfl ?_
   refine oL (lA (a:=.tree _ _) rfl) rfl rfl ?_
   refine oN (aN (wR ?_))
   refine oL (lM (a:=.sl _ _ _ _) rfl) rfl rfl ?_
   refine oL (lM (a:=.tree _ _) rfl) rfl rfl ?_
   refine AOps.gv (LOp.append Tryz.underlying74 sz128 zr128 by128 rfl rfl rfl rfl rfl rfl (Nat.le_of_eq (paA_len _).symm) (Src.treeMap rfl) (paA_len _) (paA_one _) (by omega) (by omega) (by unfold TV; omega)) rfl rfl 1 rfl rfl ?_
   refine oL (lA (a:=.sl _ _ _ _) rfl) rfl rfl ?_
   refine oN (bN (aN (wR ?_)))
   refine oL (lJ rfl rfl (by omega) (by omega)) rfl rfl ?_
   refine oL (lM (a:=.v _) rfl) rfl rfl ?_
   refine oN (aN ?_)
   refine ⟨(ls.length - (k+1)),⟨fL [(6,.sl 0 (k+1) 0 (catP ls (k+1)).length),(25,.tree 1 (ls.map lsA)),(26,.v (.int .i64 ((ls.length:Nat):Int))),(27,.v (.int .i64 (((k+1):Nat):Int)))],hLz [(0,⟨(k+1),((catP ls (k+1)).map paA).flatten,2,false⟩)],1⟩,by omega,(cO (.cons (by first | rfl | (rw [catP_len hlt]; rfl)) rfl (.cons rfl rfl (.cons rfl rfl (.cons rfl rfl .nil)))) (.cons (by first | rfl | exact bb_eq (cat_step hlt)) rfl (low_pa _ _) .nil)),(k+1),rfl,rfl,?_⟩
   refine ⟨by omega,fun j h=>?_⟩
   rcases Nat.lt_succ_iff_lt_or_eq.1 h with h | rfl
   ·exact hj j h
   ·rfl
  ·skip
   have hge:¬ k < ls.length:=fun h=>of_decide_eq_false hc28 (Int.ofNat_lt.2 h)
   have hkl:k=ls.length:=by omega
   subst hkl
   refine AWP.exit (aE (aE (bE ?_)))
   refine aN (wS (wR ?_))
   refine oL (lM (a:=.sl _ _ _ _) rfl) rfl rfl ?_
   refine oL (lA (a:=.sl _ _ _ _) rfl) rfl rfl ?_
   refine oN (aN ?_)
   refine wT (?_)
   refine ⟨.inr rfl,Outs.tmp Tryz.results81 ?_⟩
   rw [← catP_all]
   exact ⟨[0],FzP.slMap (f:=paA) (List.mem_singleton.2 rfl) rfl rfl rfl rfl rfl rfl (fun a _=>⟨rfl,rfl⟩)⟩
end Go.Proofs.YtfelpgeolclnbaaGreatDoor
namespace Go.Proofs.YtfelpgeolclnbaaGreatDoor
set_option linter.unusedVariables false
set_option linter.unusedSimpArgs false
open Go.RowKit
theorem concat_p (ls:List (List (Int×Int))) (hn:ls.length≤1000) (hl:ls.flatten.length≤100000):PCall Tryz.prog 81 [.tree 1 (ls.map lsA)] (psA ls.flatten):=by
 by_cases h0:ls.flatten.length=0
 ·have:=cat0_p ls hn h0
  rw [List.eq_nil_of_length_eq_zero h0]
  exact this
 ·exact cat1_p ls hn (by omega) hl
theorem concat2_p (a b:List (Int×Int)) (h:a.length+b.length≤100000):PCall Tryz.prog 81 [.tree 1 ([a,b].map lsA)] (psA (a++b)):=by
 have:=concat_p [a,b] (by simp) (by simpa using h)
 rw [show [a,b].flatten=a++b by simp] at this
 exact this
theorem tesB_eq {x:PTest}:tesB x=(prB x.s&&(decide (x.kd≥0)&&decide (x.kd≤3))):=by
 unfold tesB prB
 cases allN x.s.size (prnP x.s) <;> cases decide (x.kd≥0) <;> cases decide (x.kd≤3) <;> cases decide ((x.s.size:Int)≤16) <;> rfl
theorem paiB_append {a b:List (Int×Int)} {nn:List Int} {l:List PVar}:paiB (a++b) nn l=(paiB a nn l&&paiB b nn l):=by
 have key:∀ x:List (Int×Int),paiB x nn l=true↔∀ p∈x,(txtB p.1 nn l&&txtB p.2 nn l&&decide (p.1 < p.2))=true:=by
  intro x
  unfold paiB
  rw [allN_iff]
  constructor
  ·intro h p hp
   obtain ⟨j,hj,rfl⟩:=List.getElem_of_mem hp
   have:=h j hj
   unfold paiP at this
   rwa [getD_at hj] at this
  ·intro h j hj
   unfold paiP
   rw [getD_at hj]
   exact h _ (List.getElem_mem hj)
 have h2:paiB (a++b) nn l=true↔(paiB a nn l&&paiB b nn l)=true:=by
  rw [Bool.and_eq_true,key,key,key]
  constructor
  ·exact fun h=>⟨fun p hp=>h p (List.mem_append_left _ hp),fun p hp=>h p (List.mem_append_right _ hp)⟩
  ·rintro ⟨h1,h2⟩ p hp
   rcases List.mem_append.1 hp with h | h
   ·exact h1 p h
   ·exact h2 p h
 exact Bool.eq_iff_iff.2 h2
/-- The numbers of a clause are such as the types hold. -/
structure PCl.R (c:PCl):Prop where
 aux:∀ a∈c.aux,a.of_.R
 ints:∀ a∈c.ints,a.l.R
theorem fz_caps {η:Heap} {c:PCl} {l:List PVar} (h0:η 0=some ⟨0,clA c,0,false⟩) (h1:η 1=some ⟨0,[vsA l],0,false⟩) (h2:η 2=some ⟨0,[.v (.int .i64 ((l.length:Nat):Int))],0,false⟩):FzL [3,2,1,0] η [.ptr 2 0 0,.ptr 1 0 0,.ptr 0 0 0] [.tp [.v (.int .i64 ((l.length:Nat):Int))] 0,.tp [vsA l] 0,.tp (clA c) 0] :=
 .cons (FzP.ptrL (by decide) h2 rfl (FzL.pure rfl)) (.cons (FzP.ptrL (by decide) h1 rfl (FzL.pure rfl)) (.cons (FzP.ptrL (by decide) h0 rfl (FzL.pure rfl)) .nil))
theorem fz_us {η:Heap} {c:PCl} {l:List PVar} (h0:η 0=some ⟨0,clA c,0,false⟩) (h1:η 1=some ⟨0,[vsA l],0,false⟩) (h2:η 2=some ⟨0,[.v (.int .i64 ((l.length:Nat):Int))],0,false⟩) (x y:Value):FzL [3,2,1,0] η (.v x :: .v y :: [.ptr 2 0 0,.ptr 1 0 0,.ptr 0 0 0]) (.v x :: .v y :: [.tp [.v (.int .i64 ((l.length:Nat):Int))] 0,.tp [vsA l] 0,.tp (clA c) 0]) :=
 .cons (FzP.pure rfl) (.cons (FzP.pure rfl) (fz_caps h0 h1 h2))
theorem fz_form {η:Heap} {c:PCl} {l:List PVar} (h0:η 0=some ⟨0,clA c,0,false⟩) (h1:η 1=some ⟨0,[vsA l],0,false⟩) (h2:η 2=some ⟨0,[.v (.int .i64 ((l.length:Nat):Int))],0,false⟩) (h3:η 3=some ⟨0,[.clo 75 [.ptr 2 0 0,.ptr 1 0 0,.ptr 0 0 0]],0,false⟩) (f:PLin) (y:Value):FzL [3,2,1,0] η [.agg (liA f),.v y,.ptr 3 0 0,.ptr 2 0 0,.ptr 0 0 0] [.agg (liA f),.v y,.tp [.clo 75 [.tp [.v (.int .i64 ((l.length:Nat):Int))] 0,.tp [vsA l] 0,.tp (clA c) 0]] 0,.tp [.v (.int .i64 ((l.length:Nat):Int))] 0,.tp (clA c) 0] :=
 .cons (FzP.pure rfl) (.cons (FzP.pure rfl) (.cons (FzP.ptrL (by decide) h3 rfl (.cons (FzP.clo (fz_caps h0 h1 h2)) .nil)) (.cons (FzP.ptrL (by decide) h2 rfl (FzL.pure rfl)) (.cons (FzP.ptrL (by decide) h0 rfl (FzL.pure rfl)) .nil))))
section
variable {P:Program} {τ:Nat→AV} {η:Heap} {d:Option Tmp} {ty:TypeId} {pos:String} {af:Array Edge} {g:Option (Nat×Bool)}
theorem LOp.indexArrO {t len e n j id ver o:Nat} {x i:Operand} {b:Blk} {k:IntKind} (hu:P.underlying t=some (.array len e)) (hs:sizeInfo P e=some n) (hx:aev τ x=.ptr id ver o) (hi:aev τ i=.v (.int k (Int.ofNat j))) (hj:Nat.blt j len=true) (hb:liveB η id ver=some b) :
  LOp P ⟨d,.indexAddr t x i,ty,pos,af,g⟩ τ η [id] [] (.ptr id ver (o+j * n)) :=
 indexArrE_ok (u:=0) (r:=⟨[id],[],.ptr id ver (o+j * n),0⟩) (by unfold indexArrE; rw [hu]; simp only [hs,hi,hx,hj,hb,cond_true])
end
theorem clB_pai {c:PCl} {l:List PVar} {k:Nat} (hlt:k < (c.same++c.diff).length) (h:paiP (c.same++c.diff) c.nn l k=false):false=clB c l:=by
 have:paiB (c.same++c.diff) c.nn l=false:=allN_hit hlt h
 rw [paiB_append] at this
 unfold clB
 rw [this]; simp
theorem bod81:bodied Tryz.prog 81=true:=by kernel_rfl
theorem bod74:bodied Tryz.prog 74=true:=by kernel_rfl
theorem bod77:bodied Tryz.prog 77=true:=by kernel_rfl
theorem bod80:bodied Tryz.prog 80=true:=by kernel_rfl
theorem row128:rowOf Tryz.prog 128=some (some 2):=by kernel_rfl
theorem row100:rowOf Tryz.prog 100=some (some 3):=by kernel_rfl
theorem sz155:sizeInfo Tryz.prog 155=some 1:=by kernel_rfl
theorem zr155:zeroOf Tryz.prog 155=some (.nilFunc):=by kernel_rfl
theorem zr3:zeroOf Tryz.prog 3=some (.int .i64 0):=by kernel_rfl
theorem zr74:zeroOf Tryz.prog 74=some (.slice none 0 0):=by kernel_rfl
theorem zr109:zeroOf Tryz.prog 109=some (.agg #[.int .i64 0,.int .i64 0,.bool false,.string ⟨#[]⟩]):=by kernel_rfl
theorem zr100:zeroOf Tryz.prog 100=some (.agg #[.int .i64 0,.slice none 0 0,.bool false]):=by kernel_rfl
set_option maxRecDepth 100000 in
set_option maxHeartbeats 4000000 in
theorem pcl_p (c:PCl) (l:List PVar) (hc:c.Ok) (hr:c.R) (hl:l.length≤1000):PCall Tryz.prog 50 [.agg (clA c),vsA l] (.v (.bool (clB c l))):=by
 refine pB Tryz.func50 rfl Tryz.ntmps50 (Nat.le_of_ble_eq_true rfl) ?_
 refine wS (wR ?_)
 refine oW (LOp.bx rfl) rfl rfl 1 rfl ?_
 refine oW (LOp.bx rfl) rfl rfl 2 rfl ?_
 refine oL (lA (a:=.v _) rfl) rfl rfl ?_
 refine oN (aN (wS (wR ?_)))
 refine oL (lD row34 rfl rfl rfl rfl rfl) rfl rfl ?_
 refine oL (lT rfl Tryz.underlying34 rfl) rfl rfl ?_
 refine oW (LOp.al zr3 rfl) rfl rfl 3 rfl ?_
 refine AOps.wr (LOp.st sz3 rfl rfl rfl rfl rfl rfl rfl rfl) rfl rfl rfl ?_
 refine oN (aN (wS (wS (wR ?_))))
 refine oL (lF fi76_0 rfl rfl rfl rfl rfl) rfl rfl ?_
 refine oL (lD row70 rfl rfl rfl rfl rfl) rfl rfl ?_
 refine oL (lD row3 rfl rfl rfl rfl rfl) rfl rfl ?_
 refine oL (LOp.call bod74 rfl (pasc_p c.nul _ hc.nul)) rfl rfl ?_
 refine oL (lP rfl (fun _ _=>nofun) (fun _=>rfl)) rfl rfl ?_
 refine oL (lM (a:=.v _) rfl) rfl rfl ?_
 refine oB 23 rfl (fun hg23=>?_) (fun hg23=>?_)
 ·skip
  refine oS rfl rfl ?_
  refine oS rfl rfl ?_
  refine oS rfl rfl ?_
  refine oS rfl rfl ?_
  refine oS rfl rfl ?_
  refine oL (LOp.pkT (a:=.v _) rfl (by first | rfl | assumption) rfl) rfl rfl ?_
  refine oN (aN ?_)
  refine AWP.condT rfl ?_
  refine wS (wR ?_)
  refine oL (lA (a:=.v _) rfl) rfl rfl ?_
  refine oN (aN ?_)
  refine wT (aR (?_))
  refine ⟨.inr rfl,oV Tryz.results50 rfl rfl ?_⟩
  refine vb_eq ?_; unfold clB; simp_all; done
 ·skip
  refine oL (lF fi76_1 rfl rfl rfl rfl rfl) rfl rfl ?_
  refine oL (lD row70 rfl rfl rfl rfl rfl) rfl rfl ?_
  refine oL (lD row3 rfl rfl rfl rfl rfl) rfl rfl ?_
  refine oL (LOp.call bod74 rfl (pasc_p c.nn _ hc.nn)) rfl rfl ?_
  refine oL (lP rfl (fun _ _=>nofun) (fun _=>rfl)) rfl rfl ?_
  refine oL (lK rfl rfl rfl) rfl rfl ?_
  refine oN (aN ?_)
  refine wC rfl (fun hc29=>?_) (fun hc29=>?_)
  ·skip
   refine wS (wR ?_)
   refine oL (lA (a:=.v _) rfl) rfl rfl ?_
   refine oN (aN ?_)
   refine wT (aR (?_))
   refine ⟨.inr rfl,oV Tryz.results50 rfl rfl ?_⟩
   refine vb_eq ?_; unfold clB; simp_all; done
  ·skip
   have hn12:ascB c.nul l.length=true∧ascB c.nn l.length=true:=by simp_all
   obtain ⟨hn1,hn2⟩:=hn12
   refine wK (aN (wS (wR ?_)))
   refine oL (LOp.mkFn rfl) rfl rfl ?_
   refine oW (LOp.al zr155 rfl) rfl rfl 4 rfl ?_
   refine AOps.wr (LOp.st sz155 rfl rfl rfl rfl rfl rfl rfl rfl) rfl rfl rfl ?_
   refine oN (aN (wS (wR ?_)))
   refine oL (LOp.mkFn rfl) rfl rfl ?_
   refine oL (lA (a:=.clo _ _) rfl) rfl rfl ?_
   refine oN (aN (wS (wS (wR ?_))))
   refine oL (lF fi76_2 rfl rfl rfl rfl rfl) rfl rfl ?_
   refine oL (lD row71 rfl rfl rfl rfl rfl) rfl rfl ?_
   refine oL (lT rfl Tryz.underlying71 rfl) rfl rfl ?_
   refine oL (lM (a:=.v _) rfl) rfl rfl ?_
   refine oN (aN (wB ?_))
   refine wL (fun n s=>∃ k:Nat,n=(c.aux.length - k)∧s=⟨fL [(2,.ptr 0 0 0),(6,.ptr 3 0 0),(7,.clo 77 [.ptr 3 0 0,.ptr 2 0 0,.ptr 0 0 0]),(33,.tree 4 (c.aux.map axA)),(34,.v (.int .i64 ((c.aux.length:Nat):Int))),(35,.v (.int .i64 ((k:Nat):Int)))],hLz [(0,⟨0,clA c,0,false⟩),(1,⟨0,[vsA l],0,false⟩),(2,⟨0,[.v (.int .i64 ((l.length:Nat):Int))],0,false⟩),(3,⟨0,[.clo 75 [.ptr 2 0 0,.ptr 1 0 0,.ptr 0 0 0]],0,false⟩)],4⟩∧(k≤c.aux.length∧∀ j,j < k→auxP c l j=true)) (n:=(c.aux.length - 0)) (s1:=⟨fL [(2,.ptr 0 0 0),(6,.ptr 3 0 0),(7,.clo 77 [.ptr 3 0 0,.ptr 2 0 0,.ptr 0 0 0]),(33,.tree 4 (c.aux.map axA)),(34,.v (.int .i64 ((c.aux.length:Nat):Int))),(35,.v (.int .i64 ((0:Nat):Int)))],hLz [(0,⟨0,clA c,0,false⟩),(1,⟨0,[vsA l],0,false⟩),(2,⟨0,[.v (.int .i64 ((l.length:Nat):Int))],0,false⟩),(3,⟨0,[.clo 75 [.ptr 2 0 0,.ptr 1 0 0,.ptr 0 0 0]],0,false⟩)],4⟩) (cO (.cons rfl rfl (.cons rfl rfl (.cons rfl rfl (.cons rfl rfl (.cons rfl rfl (.cons rfl rfl .nil)))))) (.cons rfl rfl rfl (.cons rfl rfl rfl (.cons rfl rfl rfl (.cons rfl rfl rfl .nil))))) ⟨0,rfl,rfl,⟨Nat.zero_le _,fun j h=>absurd h (Nat.not_lt_zero j)⟩⟩ ?_
   rintro n s ⟨k,rfl,rfl,hinv⟩
   obtain ⟨hk,hj⟩:=hinv
   have haux:=hc.aux
   refine wS (wR ?_)
   refine oL (lP rfl (fun _ _=>nofun) (fun _=>rfl)) rfl rfl ?_
   refine oN (aN (wS ?_))
   refine wC rfl (fun hc36=>?_) (fun hc36=>?_)
   ·skip
    have hlt:k < c.aux.length:=Int.ofNat_lt.1 (of_decide_eq_true hc36)
    have ea:c.aux.getD k default=c.aux[k]:=getD_at hlt
    refine wK (aN (wS (wB (wS (wR ?_)))))
    refine oL (lM (a:=.v _) rfl) rfl rfl ?_
    refine oL (lI Tryz.underlying71 sz107 rfl rfl (by first | assumption | omega)) rfl rfl ?_
    refine oL (LOp.ldTN row107 rfl rfl) rfl rfl ?_
    refine oW (LOp.al zr107 rfl) rfl rfl 5 rfl ?_
    refine oL (lA (a:=.v _) rfl) rfl rfl ?_
    refine AOps.wr (LOp.st sz107 rfl rfl rfl rfl rfl rfl rfl rfl) rfl rfl rfl ?_
    refine oN (aN (wS (wR ?_)))
    refine oL (lF fi107_1 rfl rfl rfl rfl rfl) rfl rfl ?_
    refine oL (lD row2 rfl rfl rfl rfl rfl) rfl rfl ?_
    refine oL (lP rfl (fun _ _=>nofun) (fun _=>rfl)) rfl rfl ?_
    refine oN (aN ?_)
    refine wC rfl (fun hc42=>?_) (fun hc42=>?_)
    ·skip
     have h0:c.aux[k].by_=0:=by simpa using hc42
     refine wS (wR ?_)
     refine oL (lF fi107_0 rfl rfl rfl rfl rfl) rfl rfl ?_
     refine oL (lF fi98_0 rfl rfl rfl rfl rfl) rfl rfl ?_
     refine oL (lD row2 rfl rfl rfl rfl rfl) rfl rfl ?_
     refine oL (lP rfl (fun _ _=>nofun) (fun _=>rfl)) rfl rfl ?_
     refine oL (lM (a:=.v _) rfl) rfl rfl ?_
     refine oB 47 rfl (fun hg47=>?_) (fun hg47=>?_)
     ·skip
      refine oS rfl rfl ?_
      refine oS rfl rfl ?_
      refine oS rfl rfl ?_
      refine oS rfl rfl ?_
      refine oS rfl rfl ?_
      refine oL (LOp.pkT (a:=.v _) rfl (by first | rfl | assumption) rfl) rfl rfl ?_
      refine oL (lM (a:=.v _) rfl) rfl rfl ?_
      refine oS rfl rfl ?_
      refine oS rfl rfl ?_
      refine oS rfl rfl ?_
      refine oS rfl rfl ?_
      refine oS rfl rfl ?_
      refine oL (LOp.pkT (a:=.v _) rfl (by first | rfl | assumption) rfl) rfl rfl ?_
      refine oN (aN ?_)
      refine AWP.condT rfl ?_
      refine wS (wR ?_)
      refine oL (lA (a:=.v _) rfl) rfl rfl ?_
      refine oN (aN ?_)
      refine wT (bR (aR (aR (bR (aR (?_))))))
      refine ⟨.inr rfl,oV Tryz.results50 rfl rfl ?_⟩
      exact vb_eq (clB_aux hlt (by unfold auxP; rw [ea,if_pos h0]; (try simp only [usB_txt] at *); simp_all; done))
     ·skip
      refine oL (lF fi107_0 rfl rfl rfl rfl rfl) rfl rfl ?_
      refine oL (lF fi98_1 rfl rfl rfl rfl rfl) rfl rfl ?_
      refine oL (lD row96 rfl rfl rfl rfl rfl) rfl rfl ?_
      refine oL (lT rfl Tryz.underlying96 rfl) rfl rfl ?_
      refine oL (lP rfl (fun _ _=>nofun) (fun _=>rfl)) rfl rfl ?_
      refine oL (lK rfl rfl rfl) rfl rfl ?_
      refine oL (lM (a:=.v _) rfl) rfl rfl ?_
      refine oB 54 rfl (fun hg54=>?_) (fun hg54=>?_)
      ·skip
       refine oS rfl rfl ?_
       refine oS rfl rfl ?_
       refine oS rfl rfl ?_
       refine oS rfl rfl ?_
       refine oS rfl rfl ?_
       refine oL (LOp.pkT (a:=.v _) rfl (by first | rfl | assumption) rfl) rfl rfl ?_
       refine oN (aN ?_)
       refine AWP.condT rfl ?_
       refine wS (wR ?_)
       refine oL (lA (a:=.v _) rfl) rfl rfl ?_
       refine oN (aN ?_)
       refine wT (bR (aR (aR (bR (aR (?_))))))
       refine ⟨.inr rfl,oV Tryz.results50 rfl rfl ?_⟩
       exact vb_eq (clB_aux hlt (by unfold auxP; rw [ea,if_pos h0]; (try simp only [usB_txt] at *); simp_all; done))
      ·skip
       refine oL (lD row155 rfl rfl rfl rfl rfl) rfl rfl ?_
       refine oL (lF fi107_2 rfl rfl rfl rfl rfl) rfl rfl ?_
       refine oL (lD row3 rfl rfl rfl rfl rfl) rfl rfl ?_
       refine oL (LOp.callVB [3,2,1,0] bod75 rfl rfl (fz_us rfl rfl rfl _ _) (us_p c.aux[k].tx 2 c l hc.nn hl)) rfl rfl ?_
       refine oL (lP rfl (fun _ _=>nofun) (fun _=>rfl)) rfl rfl ?_
       refine oL (lK rfl rfl rfl) rfl rfl ?_
       refine oN (aN ?_)
       refine wC rfl (fun hc60=>?_) (fun hc60=>?_)
       ·skip
        have hax:auxP c l k=false:=by unfold auxP; rw [ea,if_pos h0]; (try simp only [usB_txt] at *); simp_all
        refine wS (wR ?_)
        refine oL (lA (a:=.v _) rfl) rfl rfl ?_
        refine oN (aN ?_)
        refine wT (bR (aR (aR (bR (aR (?_))))))
        refine ⟨.inr rfl,oV Tryz.results50 rfl rfl ?_⟩
        exact vb_eq (clB_aux hlt hax)
       ·skip
        have hax:auxP c l k=true:=by unfold auxP; rw [ea,if_pos h0]; (try simp only [usB_txt] at *); simp_all
        refine wK (bN (aN (wR ?_)))
        refine oL (lJ rfl rfl (by omega) (by omega)) rfl rfl ?_
        refine oL (lM (a:=.v _) rfl) rfl rfl ?_
        refine oN (aN ?_)
        refine ⟨(c.aux.length - (k+1)),⟨fL [(2,.ptr 0 0 0),(6,.ptr 3 0 0),(7,.clo 77 [.ptr 3 0 0,.ptr 2 0 0,.ptr 0 0 0]),(33,.tree 4 (c.aux.map axA)),(34,.v (.int .i64 ((c.aux.length:Nat):Int))),(35,.v (.int .i64 (((k+1):Nat):Int)))],hLz [(0,⟨0,clA c,0,false⟩),(1,⟨0,[vsA l],0,false⟩),(2,⟨0,[.v (.int .i64 ((l.length:Nat):Int))],0,false⟩),(3,⟨0,[.clo 75 [.ptr 2 0 0,.ptr 1 0 0,.ptr 0 0 0]],0,false⟩)],4⟩,by omega,(cO (.cons rfl rfl (.cons rfl rfl (.cons rfl rfl (.cons rfl rfl (.cons rfl rfl (.cons rfl rfl .nil)))))) (.cons rfl rfl rfl (.cons rfl rfl rfl (.cons rfl rfl rfl (.cons rfl rfl rfl .nil))))),(k+1),rfl,rfl,?_⟩
        refine ⟨by omega,fun j h=>?_⟩
        rcases Nat.lt_succ_iff_lt_or_eq.1 h with h | rfl
        ·exact hj j h
        ·first | exact hax | skip
    ·skip
     have h0:¬ c.aux[k].by_=0:=by simpa using hc42
     refine wS (wR ?_)
     refine oL (lF fi107_1 rfl rfl rfl rfl rfl) rfl rfl ?_
     refine oL (lD row2 rfl rfl rfl rfl rfl) rfl rfl ?_
     refine oL (lP rfl (fun _ _=>nofun) (fun _=>rfl)) rfl rfl ?_
     refine oL (lM (a:=.v _) rfl) rfl rfl ?_
     refine oB 64 rfl (fun hg64=>?_) (fun hg64=>?_)
     ·skip
      refine oS rfl rfl ?_
      refine oS rfl rfl ?_
      refine oS rfl rfl ?_
      refine oL (LOp.pkT (a:=.v _) rfl (by first | rfl | assumption) rfl) rfl rfl ?_
      refine oL (lM (a:=.v _) rfl) rfl rfl ?_
      refine oS rfl rfl ?_
      refine oS rfl rfl ?_
      refine oS rfl rfl ?_
      refine oL (LOp.pkT (a:=.v _) rfl (by first | rfl | assumption) rfl) rfl rfl ?_
      refine oL (lM (a:=.v _) rfl) rfl rfl ?_
      refine oS rfl rfl ?_
      refine oS rfl rfl ?_
      refine oS rfl rfl ?_
      refine oS rfl rfl ?_
      refine oS rfl rfl ?_
      refine oS rfl rfl ?_
      refine oL (LOp.pkT (a:=.v _) rfl (by first | rfl | assumption) rfl) rfl rfl ?_
      refine oN (aN ?_)
      refine AWP.condT rfl ?_
      refine wS (wR ?_)
      refine oL (lA (a:=.v _) rfl) rfl rfl ?_
      refine oN (aN ?_)
      refine wT (bR (aR (aR (bR (aR (?_))))))
      refine ⟨.inr rfl,oV Tryz.results50 rfl rfl ?_⟩
      exact vb_eq (clB_aux hlt (by unfold auxP; rw [ea,if_neg h0]; simp only [wiB]; simp_all; try (intros; omega); done))
     ·skip
      refine oL (lF fi107_1 rfl rfl rfl rfl rfl) rfl rfl ?_
      refine oL (lD row2 rfl rfl rfl rfl rfl) rfl rfl ?_
      refine oL (lP rfl (fun _ _=>nofun) (fun _=>rfl)) rfl rfl ?_
      refine oL (lK rfl rfl rfl) rfl rfl ?_
      refine oL (lM (a:=.v _) rfl) rfl rfl ?_
      refine oB 69 rfl (fun hg69=>?_) (fun hg69=>?_)
      ·skip
       refine oS rfl rfl ?_
       refine oS rfl rfl ?_
       refine oS rfl rfl ?_
       refine oL (LOp.pkT (a:=.v _) rfl (by first | rfl | assumption) rfl) rfl rfl ?_
       refine oL (lM (a:=.v _) rfl) rfl rfl ?_
       refine oS rfl rfl ?_
       refine oS rfl rfl ?_
       refine oS rfl rfl ?_
       refine oS rfl rfl ?_
       refine oS rfl rfl ?_
       refine oS rfl rfl ?_
       refine oL (LOp.pkT (a:=.v _) rfl (by first | rfl | assumption) rfl) rfl rfl ?_
       refine oN (aN ?_)
       refine AWP.condT rfl ?_
       refine wS (wR ?_)
       refine oL (lA (a:=.v _) rfl) rfl rfl ?_
       refine oN (aN ?_)
       refine wT (bR (aR (aR (bR (aR (?_))))))
       refine ⟨.inr rfl,oV Tryz.results50 rfl rfl ?_⟩
       exact vb_eq (clB_aux hlt (by unfold auxP; rw [ea,if_neg h0]; simp only [wiB]; simp_all; try (intros; omega); done))
      ·skip
       refine oL (lF fi107_2 rfl rfl rfl rfl rfl) rfl rfl ?_
       refine oL (lD row3 rfl rfl rfl rfl rfl) rfl rfl ?_
       refine oL (lP rfl (fun _ _=>nofun) (fun _=>rfl)) rfl rfl ?_
       refine oL (lK rfl rfl rfl) rfl rfl ?_
       refine oL (lM (a:=.v _) rfl) rfl rfl ?_
       refine oB 74 rfl (fun hg74=>?_) (fun hg74=>?_)
       ·skip
        refine oS rfl rfl ?_
        refine oS rfl rfl ?_
        refine oS rfl rfl ?_
        refine oS rfl rfl ?_
        refine oS rfl rfl ?_
        refine oS rfl rfl ?_
        refine oL (LOp.pkT (a:=.v _) rfl (by first | rfl | assumption) rfl) rfl rfl ?_
        refine oN (aN ?_)
        refine AWP.condT rfl ?_
        refine wS (wR ?_)
        refine oL (lA (a:=.v _) rfl) rfl rfl ?_
        refine oN (aN ?_)
        refine wT (bR (aR (aR (bR (aR (?_))))))
        refine ⟨.inr rfl,oV Tryz.results50 rfl rfl ?_⟩
        exact vb_eq (clB_aux hlt (by unfold auxP; rw [ea,if_neg h0]; simp only [wiB]; simp_all; try (intros; omega); done))
       ·skip
        refine oL (lM (a:=.clo _ _) rfl) rfl rfl ?_
        refine oL (lF fi107_0 rfl rfl rfl rfl rfl) rfl rfl ?_
        refine oL (LOp.ldN row98 rfl rfl rfl rfl rfl) rfl rfl ?_
        refine oL (lM (a:=.v _) rfl) rfl rfl ?_
        refine oL (LOp.callVB [3,2,1,0] bod77 rfl rfl (fz_form rfl rfl rfl rfl c.aux[k].of_ _) (pform_p c.aux[k].of_ c l k hc hl (hr.aux _ (List.getElem_mem _)) (hc.auxc _ (List.getElem_mem _)) (by omega) hj)) rfl rfl ?_
        refine oL (lP rfl (fun _ _=>nofun) (fun _=>rfl)) rfl rfl ?_
        refine oL (lK rfl rfl rfl) rfl rfl ?_
        refine oN (aN ?_)
        refine wC rfl (fun hc81=>?_) (fun hc81=>?_)
        ·skip
         have hax:auxP c l k=false:=by unfold auxP; rw [ea,if_neg h0]; simp only [wiB]; simp_all; try (intros; omega)
         refine wS (wR ?_)
         refine oL (lA (a:=.v _) rfl) rfl rfl ?_
         refine oN (aN ?_)
         refine wT (bR (aR (aR (bR (aR (?_))))))
         refine ⟨.inr rfl,oV Tryz.results50 rfl rfl ?_⟩
         exact vb_eq (clB_aux hlt hax)
        ·skip
         have hax:auxP c l k=true:=by unfold auxP; rw [ea,if_neg h0]; simp only [wiB]; simp_all; try (intros; omega)
         refine wK (bN (aN (wR ?_)))
         refine oL (lJ rfl rfl (by omega) (by omega)) rfl rfl ?_
         refine oL (lM (a:=.v _) rfl) rfl rfl ?_
         refine oN (aN ?_)
         refine ⟨(c.aux.length - (k+1)),⟨fL [(2,.ptr 0 0 0),(6,.ptr 3 0 0),(7,.clo 77 [.ptr 3 0 0,.ptr 2 0 0,.ptr 0 0 0]),(33,.tree 4 (c.aux.map axA)),(34,.v (.int .i64 ((c.aux.length:Nat):Int))),(35,.v (.int .i64 (((k+1):Nat):Int)))],hLz [(0,⟨0,clA c,0,false⟩),(1,⟨0,[vsA l],0,false⟩),(2,⟨0,[.v (.int .i64 ((l.length:Nat):Int))],0,false⟩),(3,⟨0,[.clo 75 [.ptr 2 0 0,.ptr 1 0 0,.ptr 0 0 0]],0,false⟩)],4⟩,by omega,(cO (.cons rfl rfl (.cons rfl rfl (.cons rfl rfl (.cons rfl rfl (.cons rfl rfl (.cons rfl rfl .nil)))))) (.cons rfl rfl rfl (.cons rfl rfl rfl (.cons rfl rfl rfl (.cons rfl rfl rfl .nil))))),(k+1),rfl,rfl,?_⟩
         refine ⟨by omega,fun j h=>?_⟩
         rcases Nat.lt_succ_iff_lt_or_eq.1 h with h | rfl
         ·exact hj j h
         ·first | exact hax | skip
   ·skip
    have hge:¬ k < c.aux.length:=fun h=>of_decide_eq_false hc36 (Int.ofNat_lt.2 h)
    have hA:allN c.aux.length (auxP c l)=true:=allN_end hk hge hj
    have hkA:k=c.aux.length:=by omega
    subst hkA
    have hAj:=hj
    clear hj hk hge
    refine AWP.exit (aE (aE (bE ?_)))
    refine aN (wS (wS (wR ?_)))
    refine oL (lF fi76_3 rfl rfl rfl rfl rfl) rfl rfl ?_
    refine oL (lD row72 rfl rfl rfl rfl rfl) rfl rfl ?_
    refine oL (lT rfl Tryz.underlying72 rfl) rfl rfl ?_
    refine oL (lM (a:=.v _) rfl) rfl rfl ?_
    refine oN (aN (wB ?_))
    refine wL (fun n s=>∃ k2:Nat,n=(c.ints.length - k2)∧s=⟨fL [(2,.ptr 0 0 0),(6,.ptr 3 0 0),(7,.clo 77 [.ptr 3 0 0,.ptr 2 0 0,.ptr 0 0 0]),(84,.tree 3 (c.ints.map cnA)),(85,.v (.int .i64 ((c.ints.length:Nat):Int))),(86,.v (.int .i64 ((k2:Nat):Int)))],hLz [(0,⟨0,clA c,0,false⟩),(1,⟨0,[vsA l],0,false⟩),(2,⟨0,[.v (.int .i64 ((l.length:Nat):Int))],0,false⟩),(3,⟨0,[.clo 75 [.ptr 2 0 0,.ptr 1 0 0,.ptr 0 0 0]],0,false⟩)],4⟩∧(k2≤c.ints.length∧∀ j,j < k2→intP c l j=true)) (n:=(c.ints.length - 0)) (s1:=⟨fL [(2,.ptr 0 0 0),(6,.ptr 3 0 0),(7,.clo 77 [.ptr 3 0 0,.ptr 2 0 0,.ptr 0 0 0]),(84,.tree 3 (c.ints.map cnA)),(85,.v (.int .i64 ((c.ints.length:Nat):Int))),(86,.v (.int .i64 ((0:Nat):Int)))],hLz [(0,⟨0,clA c,0,false⟩),(1,⟨0,[vsA l],0,false⟩),(2,⟨0,[.v (.int .i64 ((l.length:Nat):Int))],0,false⟩),(3,⟨0,[.clo 75 [.ptr 2 0 0,.ptr 1 0 0,.ptr 0 0 0]],0,false⟩)],4⟩) (cO (.cons rfl rfl (.cons rfl rfl (.cons rfl rfl (.cons rfl rfl (.cons rfl rfl (.cons rfl rfl .nil)))))) (.cons rfl rfl rfl (.cons rfl rfl rfl (.cons rfl rfl rfl (.cons rfl rfl rfl .nil))))) ⟨0,rfl,rfl,⟨Nat.zero_le _,fun j h=>absurd h (Nat.not_lt_zero j)⟩⟩ ?_
    rintro n s ⟨k2,rfl,rfl,hinv⟩
    obtain ⟨hk,hj⟩:=hinv
    have hints:=hc.ints
    refine wS (wR ?_)
    refine oL (lP rfl (fun _ _=>nofun) (fun _=>rfl)) rfl rfl ?_
    refine oN (aN (wS ?_))
    refine wC rfl (fun hc87=>?_) (fun hc87=>?_)
    ·skip
     have hlt:k2 < c.ints.length:=Int.ofNat_lt.1 (of_decide_eq_true hc87)
     refine wK (aN (wS (wB (wS (wR ?_)))))
     refine oL (lI Tryz.underlying72 sz100 rfl rfl (by first | assumption | omega)) rfl rfl ?_
     refine oL (LOp.ldTN row100 rfl rfl) rfl rfl ?_
     refine oW (LOp.al zr100 rfl) rfl rfl 5 rfl ?_
     refine AOps.wr (LOp.st sz100 rfl rfl rfl rfl rfl rfl rfl rfl) rfl rfl rfl ?_
     refine oN (aN (wS (wR ?_)))
     refine oL (lM (a:=.clo _ _) rfl) rfl rfl ?_
     refine oL (lF fi100_0 rfl rfl rfl rfl rfl) rfl rfl ?_
     refine oL (LOp.ldN row98 rfl rfl rfl rfl rfl) rfl rfl ?_
     refine oL (lF fi76_2 rfl rfl rfl rfl rfl) rfl rfl ?_
     refine oL (lD row71 rfl rfl rfl rfl rfl) rfl rfl ?_
     refine oL (lT rfl Tryz.underlying71 rfl) rfl rfl ?_
     refine oL (LOp.callVB [3,2,1,0] bod77 rfl rfl (fz_form rfl rfl rfl rfl c.ints[k2].l _) (pform_p c.ints[k2].l c l c.aux.length hc hl (hr.ints _ (List.getElem_mem _)) (hc.intc _ (List.getElem_mem _)) (Nat.le_refl _) hAj)) rfl rfl ?_
     refine oL (lP rfl (fun _ _=>nofun) (fun _=>rfl)) rfl rfl ?_
     refine oN (aN ?_)
     refine wC rfl (fun hc97=>?_) (fun hc97=>?_)
     ·skip
      refine wS (wR ?_)
      refine oL (lA (a:=.v _) rfl) rfl rfl ?_
      refine oN (aN ?_)
      refine wT (bR (aR (aR (bR (aR (?_))))))
      refine ⟨.inr rfl,oV Tryz.results50 rfl rfl ?_⟩
      exact vb_eq (clB_int hlt (by simp only [intP,getD_at hlt]; simp_all))
     ·skip
      refine wK (bN (aN (wR ?_)))
      refine oL (lJ rfl rfl (by omega) (by omega)) rfl rfl ?_
      refine oL (lM (a:=.v _) rfl) rfl rfl ?_
      refine oN (aN ?_)
      refine ⟨(c.ints.length - (k2+1)),⟨fL [(2,.ptr 0 0 0),(6,.ptr 3 0 0),(7,.clo 77 [.ptr 3 0 0,.ptr 2 0 0,.ptr 0 0 0]),(84,.tree 3 (c.ints.map cnA)),(85,.v (.int .i64 ((c.ints.length:Nat):Int))),(86,.v (.int .i64 (((k2+1):Nat):Int)))],hLz [(0,⟨0,clA c,0,false⟩),(1,⟨0,[vsA l],0,false⟩),(2,⟨0,[.v (.int .i64 ((l.length:Nat):Int))],0,false⟩),(3,⟨0,[.clo 75 [.ptr 2 0 0,.ptr 1 0 0,.ptr 0 0 0]],0,false⟩)],4⟩,by omega,(cO (.cons rfl rfl (.cons rfl rfl (.cons rfl rfl (.cons rfl rfl (.cons rfl rfl (.cons rfl rfl .nil)))))) (.cons rfl rfl rfl (.cons rfl rfl rfl (.cons rfl rfl rfl (.cons rfl rfl rfl .nil))))),(k2+1),rfl,rfl,?_⟩
      refine ⟨by omega,fun j h=>?_⟩
      rcases Nat.lt_succ_iff_lt_or_eq.1 h with h | rfl
      ·exact hj j h
      ·simp only [intP,getD_at hlt]; simp_all
    ·skip
     have hge:¬ k2 < c.ints.length:=fun h=>of_decide_eq_false hc87 (Int.ofNat_lt.2 h)
     have hB:allN c.ints.length (intP c l)=true:=allN_end hk hge hj
     clear hj hk hge
     refine AWP.exit (aE (aE (bE ?_)))
     refine aN (wS (wS (wR ?_)))
     refine oL (lF fi76_4 rfl rfl rfl rfl rfl) rfl rfl ?_
     refine oL (lD row73 rfl rfl rfl rfl rfl) rfl rfl ?_
     refine oL (lT rfl Tryz.underlying73 rfl) rfl rfl ?_
     refine oL (lM (a:=.v _) rfl) rfl rfl ?_
     refine oN (aN (wB ?_))
     refine wL (fun n s=>∃ k3:Nat,n=(c.tests.length - k3)∧s=⟨fL [(2,.ptr 0 0 0),(6,.ptr 3 0 0),(100,.tree 4 (c.tests.map teA)),(101,.v (.int .i64 ((c.tests.length:Nat):Int))),(102,.v (.int .i64 ((k3:Nat):Int)))],hLz [(0,⟨0,clA c,0,false⟩),(1,⟨0,[vsA l],0,false⟩),(2,⟨0,[.v (.int .i64 ((l.length:Nat):Int))],0,false⟩),(3,⟨0,[.clo 75 [.ptr 2 0 0,.ptr 1 0 0,.ptr 0 0 0]],0,false⟩)],4⟩∧(k3≤c.tests.length∧∀ j,j < k3→tstP c l j=true)) (n:=(c.tests.length - 0)) (s1:=⟨fL [(2,.ptr 0 0 0),(6,.ptr 3 0 0),(100,.tree 4 (c.tests.map teA)),(101,.v (.int .i64 ((c.tests.length:Nat):Int))),(102,.v (.int .i64 ((0:Nat):Int)))],hLz [(0,⟨0,clA c,0,false⟩),(1,⟨0,[vsA l],0,false⟩),(2,⟨0,[.v (.int .i64 ((l.length:Nat):Int))],0,false⟩),(3,⟨0,[.clo 75 [.ptr 2 0 0,.ptr 1 0 0,.ptr 0 0 0]],0,false⟩)],4⟩) (cO (.cons rfl rfl (.cons rfl rfl (.cons rfl rfl (.cons rfl rfl (.cons rfl rfl .nil))))) (.cons rfl rfl rfl (.cons rfl rfl rfl (.cons rfl rfl rfl (.cons rfl rfl rfl .nil))))) ⟨0,rfl,rfl,⟨Nat.zero_le _,fun j h=>absurd h (Nat.not_lt_zero j)⟩⟩ ?_
     rintro n s ⟨k3,rfl,rfl,hinv⟩
     obtain ⟨hk,hj⟩:=hinv
     have htests:=hc.tests
     refine wS (wR ?_)
     refine oL (lP rfl (fun _ _=>nofun) (fun _=>rfl)) rfl rfl ?_
     refine oN (aN (wS ?_))
     refine wC rfl (fun hc103=>?_) (fun hc103=>?_)
     ·skip
      have hlt:k3 < c.tests.length:=Int.ofNat_lt.1 (of_decide_eq_true hc103)
      refine wK (aN (wS (wB (wS (wR ?_)))))
      refine oL (lI Tryz.underlying73 sz109 rfl rfl (by first | assumption | omega)) rfl rfl ?_
      refine oL (LOp.ldTN row109 rfl rfl) rfl rfl ?_
      refine oW (LOp.al zr109 rfl) rfl rfl 5 rfl ?_
      refine AOps.wr (LOp.st sz109 rfl rfl rfl rfl rfl rfl rfl rfl) rfl rfl rfl ?_
      refine oN (aN (wS (wR ?_)))
      refine oL (lF fi109_1 rfl rfl rfl rfl rfl) rfl rfl ?_
      refine oL (lD row3 rfl rfl rfl rfl rfl) rfl rfl ?_
      refine oL (lP rfl (fun _ _=>nofun) (fun _=>rfl)) rfl rfl ?_
      refine oL (lM (a:=.v _) rfl) rfl rfl ?_
      refine oB 109 rfl (fun hg109=>?_) (fun hg109=>?_)
      ·skip
       refine oS rfl rfl ?_
       refine oS rfl rfl ?_
       refine oS rfl rfl ?_
       refine oL (LOp.pkT (a:=.v _) rfl (by first | rfl | assumption) rfl) rfl rfl ?_
       refine oL (lM (a:=.v _) rfl) rfl rfl ?_
       refine oS rfl rfl ?_
       refine oS rfl rfl ?_
       refine oS rfl rfl ?_
       refine oS rfl rfl ?_
       refine oL (LOp.pkT (a:=.v _) rfl (by first | rfl | assumption) rfl) rfl rfl ?_
       refine oL (lM (a:=.v _) rfl) rfl rfl ?_
       refine oS rfl rfl ?_
       refine oS rfl rfl ?_
       refine oS rfl rfl ?_
       refine oS rfl rfl ?_
       refine oS rfl rfl ?_
       refine oL (LOp.pkT (a:=.v _) rfl (by first | rfl | assumption) rfl) rfl rfl ?_
       refine oN (aN ?_)
       refine AWP.condT rfl ?_
       refine wS (wR ?_)
       refine oL (lA (a:=.v _) rfl) rfl rfl ?_
       refine oN (aN ?_)
       refine wT (bR (aR (aR (bR (aR (?_))))))
       refine ⟨.inr rfl,oV Tryz.results50 rfl rfl ?_⟩
       exact vb_eq (clB_tst hlt (by (first | (simp only [tstP,tesB_eq,getD_at hlt]; simp_all [usB_txt]; done) | (simp only [tstP,tesB_eq,getD_at hlt]; simp_all [usB_txt]; intros; omega))))
      ·skip
       refine oL (lF fi109_1 rfl rfl rfl rfl rfl) rfl rfl ?_
       refine oL (lD row3 rfl rfl rfl rfl rfl) rfl rfl ?_
       refine oL (lP rfl (fun _ _=>nofun) (fun _=>rfl)) rfl rfl ?_
       refine oL (lK rfl rfl rfl) rfl rfl ?_
       refine oL (lM (a:=.v _) rfl) rfl rfl ?_
       refine oB 114 rfl (fun hg114=>?_) (fun hg114=>?_)
       ·skip
        refine oS rfl rfl ?_
        refine oS rfl rfl ?_
        refine oS rfl rfl ?_
        refine oS rfl rfl ?_
        refine oL (LOp.pkT (a:=.v _) rfl (by first | rfl | assumption) rfl) rfl rfl ?_
        refine oL (lM (a:=.v _) rfl) rfl rfl ?_
        refine oS rfl rfl ?_
        refine oS rfl rfl ?_
        refine oS rfl rfl ?_
        refine oS rfl rfl ?_
        refine oS rfl rfl ?_
        refine oL (LOp.pkT (a:=.v _) rfl (by first | rfl | assumption) rfl) rfl rfl ?_
        refine oN (aN ?_)
        refine AWP.condT rfl ?_
        refine wS (wR ?_)
        refine oL (lA (a:=.v _) rfl) rfl rfl ?_
        refine oN (aN ?_)
        refine wT (bR (aR (aR (bR (aR (?_))))))
        refine ⟨.inr rfl,oV Tryz.results50 rfl rfl ?_⟩
        exact vb_eq (clB_tst hlt (by (first | (simp only [tstP,tesB_eq,getD_at hlt]; simp_all [usB_txt]; done) | (simp only [tstP,tesB_eq,getD_at hlt]; simp_all [usB_txt]; intros; omega))))
       ·skip
        refine oL (lF fi109_3 rfl rfl rfl rfl rfl) rfl rfl ?_
        refine oL (lD row9 rfl rfl rfl rfl rfl) rfl rfl ?_
        refine oL (LOp.call bod80 rfl (prn_p c.tests[k3].s (hc.tes _ (List.getElem_mem _)))) rfl rfl ?_
        refine oL (lP rfl (fun _ _=>nofun) (fun _=>rfl)) rfl rfl ?_
        refine oL (lK rfl rfl rfl) rfl rfl ?_
        refine oL (lM (a:=.v _) rfl) rfl rfl ?_
        refine oB 120 rfl (fun hg120=>?_) (fun hg120=>?_)
        ·skip
         refine oS rfl rfl ?_
         refine oS rfl rfl ?_
         refine oS rfl rfl ?_
         refine oS rfl rfl ?_
         refine oS rfl rfl ?_
         refine oL (LOp.pkT (a:=.v _) rfl (by first | rfl | assumption) rfl) rfl rfl ?_
         refine oN (aN ?_)
         refine AWP.condT rfl ?_
         refine wS (wR ?_)
         refine oL (lA (a:=.v _) rfl) rfl rfl ?_
         refine oN (aN ?_)
         refine wT (bR (aR (aR (bR (aR (?_))))))
         refine ⟨.inr rfl,oV Tryz.results50 rfl rfl ?_⟩
         exact vb_eq (clB_tst hlt (by (first | (simp only [tstP,tesB_eq,getD_at hlt]; simp_all [usB_txt]; done) | (simp only [tstP,tesB_eq,getD_at hlt]; simp_all [usB_txt]; intros; omega))))
        ·skip
         refine oL (lD row155 rfl rfl rfl rfl rfl) rfl rfl ?_
         refine oL (lF fi109_0 rfl rfl rfl rfl rfl) rfl rfl ?_
         refine oL (lD row3 rfl rfl rfl rfl rfl) rfl rfl ?_
         refine oL (LOp.callVB [3,2,1,0] bod75 rfl rfl (fz_us rfl rfl rfl _ _) (us_p c.tests[k3].v 2 c l hc.nn hl)) rfl rfl ?_
         refine oL (lP rfl (fun _ _=>nofun) (fun _=>rfl)) rfl rfl ?_
         refine oL (lK rfl rfl rfl) rfl rfl ?_
         refine oN (aN ?_)
         refine wC rfl (fun hc126=>?_) (fun hc126=>?_)
         ·skip
          have hts:tstP c l k3=false:=by (first | (simp only [tstP,tesB_eq,getD_at hlt]; simp_all [usB_txt]; done) | (simp only [tstP,tesB_eq,getD_at hlt]; simp_all [usB_txt]; intros; omega))
          refine wS (wR ?_)
          refine oL (lA (a:=.v _) rfl) rfl rfl ?_
          refine oN (aN ?_)
          refine wT (bR (aR (aR (bR (aR (?_))))))
          refine ⟨.inr rfl,oV Tryz.results50 rfl rfl ?_⟩
          exact vb_eq (clB_tst hlt hts)
         ·skip
          have hts:tstP c l k3=true:=by (first | (simp only [tstP,tesB_eq,getD_at hlt]; simp_all [usB_txt]; done) | (simp only [tstP,tesB_eq,getD_at hlt]; simp_all [usB_txt]; intros; omega))
          refine wK (bN (aN (wR ?_)))
          refine oL (lJ rfl rfl (by omega) (by omega)) rfl rfl ?_
          refine oL (lM (a:=.v _) rfl) rfl rfl ?_
          refine oN (aN ?_)
          refine ⟨(c.tests.length - (k3+1)),⟨fL [(2,.ptr 0 0 0),(6,.ptr 3 0 0),(100,.tree 4 (c.tests.map teA)),(101,.v (.int .i64 ((c.tests.length:Nat):Int))),(102,.v (.int .i64 (((k3+1):Nat):Int)))],hLz [(0,⟨0,clA c,0,false⟩),(1,⟨0,[vsA l],0,false⟩),(2,⟨0,[.v (.int .i64 ((l.length:Nat):Int))],0,false⟩),(3,⟨0,[.clo 75 [.ptr 2 0 0,.ptr 1 0 0,.ptr 0 0 0]],0,false⟩)],4⟩,by omega,(cO (.cons rfl rfl (.cons rfl rfl (.cons rfl rfl (.cons rfl rfl (.cons rfl rfl .nil))))) (.cons rfl rfl rfl (.cons rfl rfl rfl (.cons rfl rfl rfl (.cons rfl rfl rfl .nil))))),(k3+1),rfl,rfl,?_⟩
          refine ⟨by omega,fun j h=>?_⟩
          rcases Nat.lt_succ_iff_lt_or_eq.1 h with h | rfl
          ·exact hj j h
          ·exact hts
     ·skip
      have hge:¬ k3 < c.tests.length:=fun h=>of_decide_eq_false hc103 (Int.ofNat_lt.2 h)
      have hC:allN c.tests.length (tstP c l)=true:=allN_end hk hge hj
      clear hj hk hge
      refine AWP.exit (aE (aE (bE ?_)))
      refine aN (wS (wS (wR ?_)))
      refine oL (lF fi76_5 rfl rfl rfl rfl rfl) rfl rfl ?_
      refine oL (lD row74 rfl rfl rfl rfl rfl) rfl rfl ?_
      refine oL (lF fi76_6 rfl rfl rfl rfl rfl) rfl rfl ?_
      refine oL (lD row74 rfl rfl rfl rfl rfl) rfl rfl ?_
      refine oW (LOp.bs Tryz.underlying189 sz74 zr74 rfl rfl rfl rfl) rfl rfl 5 rfl ?_
      refine AOps.gv (LOp.callF [4] bod81 rfl (fun i h h'=>match i,h with | 0,_=>FzP.slMap (f:=lsA) (l:=[c.same,c.diff]) (List.mem_singleton.2 rfl) rfl rfl rfl rfl rfl rfl (fun a _=>⟨rfl,rfl⟩)) (by intro i hi; rw [List.mem_singleton.1 hi]; rfl) (concat2_p c.same c.diff (by have:=hc.same; have:=hc.diff; omega))) rfl rfl 5 rfl rfl ?_
      refine oL (lT rfl Tryz.underlying74 rfl) rfl rfl ?_
      refine oL (lM (a:=.v _) rfl) rfl rfl ?_
      refine oN (aN (wB ?_))
      refine wL (fun n s=>∃ k4:Nat,n=((c.same++c.diff).length - k4)∧s=⟨fL [(6,.ptr 3 0 0),(133,psA (c.same++c.diff)),(134,.v (.int .i64 (((c.same++c.diff).length:Nat):Int))),(135,.v (.int .i64 ((k4:Nat):Int)))],hLz [(0,⟨0,clA c,0,false⟩),(1,⟨0,[vsA l],0,false⟩),(2,⟨0,[.v (.int .i64 ((l.length:Nat):Int))],0,false⟩),(3,⟨0,[.clo 75 [.ptr 2 0 0,.ptr 1 0 0,.ptr 0 0 0]],0,false⟩)],5⟩∧(k4≤(c.same++c.diff).length∧∀ j,j < k4→paiP (c.same++c.diff) c.nn l j=true)) (n:=((c.same++c.diff).length - 0)) (s1:=⟨fL [(6,.ptr 3 0 0),(133,psA (c.same++c.diff)),(134,.v (.int .i64 (((c.same++c.diff).length:Nat):Int))),(135,.v (.int .i64 ((0:Nat):Int)))],hLz [(0,⟨0,clA c,0,false⟩),(1,⟨0,[vsA l],0,false⟩),(2,⟨0,[.v (.int .i64 ((l.length:Nat):Int))],0,false⟩),(3,⟨0,[.clo 75 [.ptr 2 0 0,.ptr 1 0 0,.ptr 0 0 0]],0,false⟩)],5⟩) (cO (.cons rfl rfl (.cons rfl rfl (.cons rfl rfl (.cons rfl rfl .nil)))) (.cons rfl rfl rfl (.cons rfl rfl rfl (.cons rfl rfl rfl (.cons rfl rfl rfl .nil))))) ⟨0,rfl,rfl,⟨Nat.zero_le _,fun j h=>absurd h (Nat.not_lt_zero j)⟩⟩ ?_
      rintro n s ⟨k4,rfl,rfl,hinv⟩
      obtain ⟨hk,hj⟩:=hinv
      have hsd:(c.same++c.diff).length≤2000:=by have:=hc.same; have:=hc.diff; simp; omega
      refine wS (wR ?_)
      refine oL (lP rfl (fun _ _=>nofun) (fun _=>rfl)) rfl rfl ?_
      refine oN (aN (wS ?_))
      refine wC rfl (fun hc136=>?_) (fun hc136=>?_)
      ·skip
       have hlt:k4 < (c.same++c.diff).length:=Int.ofNat_lt.1 (of_decide_eq_true hc136)
       refine wK (aN (wS (wB (wS (wR ?_)))))
       refine oL (lI Tryz.underlying74 sz128 rfl rfl (by first | assumption | omega)) rfl rfl ?_
       refine oL (LOp.ldTN row128 rfl rfl) rfl rfl ?_
       refine oW (LOp.al zr128 rfl) rfl rfl 6 rfl ?_
       refine AOps.wr (LOp.st sz128 rfl rfl rfl rfl rfl rfl rfl rfl) rfl rfl rfl ?_
       refine oN (aN (wS (wR ?_)))
       refine oL (LOp.indexArrO Tryz.underlying128 sz3 rfl rfl rfl rfl) rfl rfl ?_
       refine oL (lD row3 rfl rfl rfl rfl rfl) rfl rfl ?_
       refine oL (LOp.indexArrO Tryz.underlying128 sz3 rfl rfl rfl rfl) rfl rfl ?_
       refine oL (lD row3 rfl rfl rfl rfl rfl) rfl rfl ?_
       refine oL (lP rfl (fun _ _=>nofun) (fun _=>rfl)) rfl rfl ?_
       refine oL (lM (a:=.v _) rfl) rfl rfl ?_
       refine oB 144 rfl (fun hg144=>?_) (fun hg144=>?_)
       ·skip
        refine oS rfl rfl ?_
        refine oS rfl rfl ?_
        refine oS rfl rfl ?_
        refine oS rfl rfl ?_
        refine oS rfl rfl ?_
        refine oL (LOp.pkT (a:=.v _) rfl (by first | rfl | assumption) rfl) rfl rfl ?_
        refine oL (lM (a:=.v _) rfl) rfl rfl ?_
        refine oS rfl rfl ?_
        refine oS rfl rfl ?_
        refine oS rfl rfl ?_
        refine oS rfl rfl ?_
        refine oS rfl rfl ?_
        refine oL (LOp.pkT (a:=.v _) rfl (by first | rfl | assumption) rfl) rfl rfl ?_
        refine oN (aN ?_)
        refine AWP.condT rfl ?_
        refine wS (wR ?_)
        refine oL (lA (a:=.v _) rfl) rfl rfl ?_
        refine oN (aN ?_)
        refine wT (bR (aR (aR (bR (aR (?_))))))
        refine ⟨.inr rfl,oV Tryz.results50 rfl rfl ?_⟩
        exact vb_eq (clB_pai hlt (by (first | (simp only [paiP,getD_at hlt]; simp_all [usB_txt]; done) | (simp only [paiP,getD_at hlt]; simp_all [usB_txt]; intros; omega))))
       ·skip
        refine oL (lD row155 rfl rfl rfl rfl rfl) rfl rfl ?_
        refine oL (LOp.indexArrO Tryz.underlying128 sz3 rfl rfl rfl rfl) rfl rfl ?_
        refine oL (lD row3 rfl rfl rfl rfl rfl) rfl rfl ?_
        refine oL (LOp.callVB [3,2,1,0] bod75 rfl rfl (fz_us rfl rfl rfl _ _) (us_p (c.same++c.diff)[k4].1 2 c l hc.nn hl)) rfl rfl ?_
        refine oL (lP rfl (fun _ _=>nofun) (fun _=>rfl)) rfl rfl ?_
        refine oL (lK rfl rfl rfl) rfl rfl ?_
        refine oL (lM (a:=.v _) rfl) rfl rfl ?_
        refine oB 151 rfl (fun hg151=>?_) (fun hg151=>?_)
        ·skip
         refine oS rfl rfl ?_
         refine oS rfl rfl ?_
         refine oS rfl rfl ?_
         refine oS rfl rfl ?_
         refine oS rfl rfl ?_
         refine oL (LOp.pkT (a:=.v _) rfl (by first | rfl | assumption) rfl) rfl rfl ?_
         refine oN (aN ?_)
         refine AWP.condT rfl ?_
         refine wS (wR ?_)
         refine oL (lA (a:=.v _) rfl) rfl rfl ?_
         refine oN (aN ?_)
         refine wT (bR (aR (aR (bR (aR (?_))))))
         refine ⟨.inr rfl,oV Tryz.results50 rfl rfl ?_⟩
         exact vb_eq (clB_pai hlt (by (first | (simp only [paiP,getD_at hlt]; simp_all [usB_txt]; done) | (simp only [paiP,getD_at hlt]; simp_all [usB_txt]; intros; omega))))
        ·skip
         refine oL (lD row155 rfl rfl rfl rfl rfl) rfl rfl ?_
         refine oL (LOp.indexArrO Tryz.underlying128 sz3 rfl rfl rfl rfl) rfl rfl ?_
         refine oL (lD row3 rfl rfl rfl rfl rfl) rfl rfl ?_
         refine oL (LOp.callVB [3,2,1,0] bod75 rfl rfl (fz_us rfl rfl rfl _ _) (us_p (c.same++c.diff)[k4].2 2 c l hc.nn hl)) rfl rfl ?_
         refine oL (lP rfl (fun _ _=>nofun) (fun _=>rfl)) rfl rfl ?_
         refine oL (lK rfl rfl rfl) rfl rfl ?_
         refine oN (aN ?_)
         refine wC rfl (fun hc157=>?_) (fun hc157=>?_)
         ·skip
          have hps:paiP (c.same++c.diff) c.nn l k4=false:=by (first | (simp only [paiP,getD_at hlt]; simp_all [usB_txt]; done) | (simp only [paiP,getD_at hlt]; simp_all [usB_txt]; intros; omega))
          refine wS (wR ?_)
          refine oL (lA (a:=.v _) rfl) rfl rfl ?_
          refine oN (aN ?_)
          refine wT (bR (aR (aR (bR (aR (?_))))))
          refine ⟨.inr rfl,oV Tryz.results50 rfl rfl ?_⟩
          exact vb_eq (clB_pai hlt hps)
         ·skip
          have hps:paiP (c.same++c.diff) c.nn l k4=true:=by (first | (simp only [paiP,getD_at hlt]; simp_all [usB_txt]; done) | (simp only [paiP,getD_at hlt]; simp_all [usB_txt]; intros; omega))
          refine wK (bN (aN (wR ?_)))
          refine oL (lJ rfl rfl (by omega) (by omega)) rfl rfl ?_
          refine oL (lM (a:=.v _) rfl) rfl rfl ?_
          refine oN (aN ?_)
          refine ⟨((c.same++c.diff).length - (k4+1)),⟨fL [(6,.ptr 3 0 0),(133,psA (c.same++c.diff)),(134,.v (.int .i64 (((c.same++c.diff).length:Nat):Int))),(135,.v (.int .i64 (((k4+1):Nat):Int)))],hLz [(0,⟨0,clA c,0,false⟩),(1,⟨0,[vsA l],0,false⟩),(2,⟨0,[.v (.int .i64 ((l.length:Nat):Int))],0,false⟩),(3,⟨0,[.clo 75 [.ptr 2 0 0,.ptr 1 0 0,.ptr 0 0 0]],0,false⟩)],5⟩,by omega,(cO (.cons rfl rfl (.cons rfl rfl (.cons rfl rfl (.cons rfl rfl .nil)))) (.cons rfl rfl rfl (.cons rfl rfl rfl (.cons rfl rfl rfl (.cons rfl rfl rfl .nil))))),(k4+1),rfl,rfl,?_⟩
          refine ⟨by omega,fun j h=>?_⟩
          rcases Nat.lt_succ_iff_lt_or_eq.1 h with h | rfl
          ·exact hj j h
          ·exact hps
      ·skip
       have hge:¬ k4 < (c.same++c.diff).length:=fun h=>of_decide_eq_false hc136 (Int.ofNat_lt.2 h)
       refine AWP.exit (aE (aE (bE ?_)))
       refine aN (wS (wR ?_))
       refine oL (lA (a:=.v _) rfl) rfl rfl ?_
       refine oN (aN ?_)
       refine wT (?_)
       refine ⟨.inr rfl,oV Tryz.results50 rfl rfl ?_⟩
       ((have hpp:paiB (c.same++c.diff) c.nn l=true:=allN_end hk hge hj); refine vb_eq ?_; rw [paiB_append] at hpp; unfold clB; rw [hn1,hn2,hA,hB,hC,hpp]; rfl)
end Go.Proofs.YtfelpgeolclnbaaGreatDoor
namespace Go.Proofs.YtfelpgeolclnbaaGreatDoor
set_option linter.unusedVariables false
set_option linter.unusedSimpArgs false
open Go.RowKit
/-- The numbers of a predicate are such as the types hold. -/
structure PPred.R (p:PPred):Prop where
 each:∀ c∈p.cls,c.R
/-- A predicate as it may come. -/
structure PPred.Fits (p:PPred):Prop where
 vars:p.vars.length≤140737488355328
 cls:p.cls.length≤140737488355328
 each:∀ c∈p.cls,c.Fits
theorem sumA_ge {c:PCl}:∀ k j,j < k→k≤c.aux.length→(c.aux.getD j default).of_.cs.length≤sumA c k
 | 0,_,h,_=>absurd h (Nat.not_lt_zero _)
 | k+1,j,h,hk=>by
  show _≤sumA c k+(c.aux.getD k default).of_.cs.length
  by_cases e:j=k
  ·subst e; omega
  ·have:=sumA_ge (c:=c) k j (by omega) (by omega); omega
theorem sumI_ge {c:PCl}:∀ k j,j < k→k≤c.ints.length→(c.ints.getD j default).l.cs.length≤sumI c k
 | 0,_,h,_=>absurd h (Nat.not_lt_zero _)
 | k+1,j,h,hk=>by
  show _≤sumI c k+(c.ints.getD k default).l.cs.length
  by_cases e:j=k
  ·subst e; omega
  ·have:=sumI_ge (c:=c) k j (by omega) (by omega); omega
theorem few_ok {c:PCl} (h:fewB c=true):c.Ok:=by
 unfold fewB at h
 simp only [Bool.and_eq_true,Bool.not_eq_true',decide_eq_false_iff_not,decide_eq_true_eq] at h
 obtain ⟨⟨h1,h2⟩,h3⟩:=h
 have h4:c.nul.length+c.nn.length+c.aux.length+c.ints.length+c.tests.length+c.same.length+c.diff.length≤80:=by unfold fewN at h1; omega
 refine ⟨by omega,by omega,by omega,by omega,by omega,by omega,by omega,?_,?_,?_⟩
 ·intro a ha
  obtain ⟨j,hj,rfl⟩:=List.getElem_of_mem ha
  have:=sumA_ge (c:=c) c.aux.length j hj (Nat.le_refl _)
  rw [getD_at hj] at this
  omega
 ·intro a ha
  obtain ⟨j,hj,rfl⟩:=List.getElem_of_mem ha
  have:=sumI_ge (c:=c) c.ints.length j hj (Nat.le_refl _)
  rw [getD_at hj] at this
  omega
 ·intro a ha
  obtain ⟨j,hj,rfl⟩:=List.getElem_of_mem ha
  have:=allN_iff.1 h2 j hj
  unfold txtP at this
  rw [getD_at hj] at this
  simp only [Bool.not_eq_true',decide_eq_false_iff_not] at this
  omega
theorem bod45:bodied Tryz.prog 45=true:=by kernel_rfl
theorem bod46:bodied Tryz.prog 46=true:=by kernel_rfl
theorem bod47:bodied Tryz.prog 47=true:=by kernel_rfl
theorem bod48:bodied Tryz.prog 48=true:=by kernel_rfl
theorem bod49:bodied Tryz.prog 49=true:=by kernel_rfl
theorem bod50:bodied Tryz.prog 50=true:=by kernel_rfl
theorem bod72:bodied Tryz.prog 72=true:=by kernel_rfl
theorem bod73:bodied Tryz.prog 73=true:=by kernel_rfl
set_option maxRecDepth 100000 in
set_option maxHeartbeats 4000000 in
theorem nvar_p (x:PVar):PCall Tryz.prog 46 [.agg (vA x)] (.v (.bool (!varB x))):=by
 refine pB Tryz.func46 rfl Tryz.ntmps46 (Nat.le_of_ble_eq_true rfl) ?_
 refine wS (wR ?_)
 refine oW (LOp.bx rfl) rfl rfl 1 rfl ?_
 refine oL (lA (a:=.v _) rfl) rfl rfl ?_
 refine oN (aN (wS (wR ?_)))
 refine oL (LOp.ldN row80 rfl rfl rfl rfl rfl) rfl rfl ?_
 refine oL (LOp.call bod47 rfl (pvar_p x)) rfl rfl ?_
 refine oL (lP rfl (fun _ _=>nofun) (fun _=>rfl)) rfl rfl ?_
 refine oL (lA (a:=.v _) rfl) rfl rfl ?_
 refine oN (aN ?_)
 refine wT (?_)
 refine ⟨.inr rfl,oV Tryz.results46 rfl rfl ?_⟩
 rfl
set_option maxRecDepth 100000 in
set_option maxHeartbeats 4000000 in
theorem ixv_p (l:List PVar) (hl:l.length≤1000):PCall Tryz.prog 72 [vsA l,.clo 46 []] (.v (.int .i64 (idxQ l.length (domP l)))):=by
 refine pB Tryz.func72 rfl Tryz.ntmps72 (Nat.le_of_ble_eq_true rfl) ?_
 refine wS (wR ?_)
 refine oL (lA (a:=.v _) rfl) rfl rfl ?_
 refine oN (aN (wS (wS (wR ?_))))
 refine oL (lM (a:=.tree _ _) rfl) rfl rfl ?_
 refine oL (lT rfl Tryz.underlying34 rfl) rfl rfl ?_
 refine oL (lM (a:=.v _) rfl) rfl rfl ?_
 refine oN (aN (wB ?_))
 refine wL (fun n s=>∃ k:Nat,n=(l.length - k)∧s=⟨fL [(0,vsA l),(1,.clo 46 []),(7,.v (.int .i64 ((l.length:Nat):Int))),(8,.v (.int .i64 ((k:Nat):Int)))],hLz [],0⟩∧(k≤l.length∧∀ j,j < k→domP l j=true)) (n:=(l.length - 0)) (s1:=⟨fL [(0,vsA l),(1,.clo 46 []),(7,.v (.int .i64 ((l.length:Nat):Int))),(8,.v (.int .i64 ((0:Nat):Int)))],hLz [],0⟩) (cO (.cons rfl rfl (.cons rfl rfl (.cons rfl rfl (.cons rfl rfl .nil)))) .nil) ⟨0,rfl,rfl,⟨Nat.zero_le _,fun j h=>absurd h (Nat.not_lt_zero j)⟩⟩ ?_
 rintro n s ⟨k,rfl,rfl,hinv⟩
 obtain ⟨hk,hj⟩:=hinv
 refine wS (wR ?_)
 refine oL (lP rfl (fun _ _=>nofun) (fun _=>rfl)) rfl rfl ?_
 refine oN (aN (wS ?_))
 refine wC rfl (fun hc9=>?_) (fun hc9=>?_)
 ·skip
  have hlt:k < l.length:=Int.ofNat_lt.1 (of_decide_eq_true hc9)
  refine wK (aN (wS (wB (wS (wR ?_)))))
  refine oL (lM (a:=.v _) rfl) rfl rfl ?_
  refine oL (lA (a:=.v _) rfl) rfl rfl ?_
  refine oN (aN (wS (wR ?_)))
  refine oL (lM (a:=.clo _ _) rfl) rfl rfl ?_
  refine oL (lM (a:=.tree _ _) rfl) rfl rfl ?_
  refine oL (lM (a:=.v _) rfl) rfl rfl ?_
  refine oL (lI Tryz.underlying34 sz80 rfl rfl (by first | assumption | omega)) rfl rfl ?_
  refine oL (LOp.ldTN row80 rfl rfl) rfl rfl ?_
  refine oL (LOp.callVB [] bod46 rfl rfl (FzL.pure rfl) (nvar_p l[k])) rfl rfl ?_
  refine oN (aN ?_)
  refine wC rfl (fun hc16=>?_) (fun hc16=>?_)
  ·skip
   refine wS (wR ?_)
   refine oL (lM (a:=.v _) rfl) rfl rfl ?_
   refine oL (lA (a:=.v _) rfl) rfl rfl ?_
   refine oN (aN ?_)
   refine wT (bR (aR (aR (bR (aR (?_))))))
   refine ⟨.inr rfl,oV Tryz.results72 rfl rfl ?_⟩
   refine vi_eq (idxQ_hit hlt hj ?_); simp only [domP,getD_at hlt]; simpa using hc16
  ·skip
   refine wK (bN (aN (wR ?_)))
   refine oL (lJ rfl rfl (by omega) (by omega)) rfl rfl ?_
   refine oL (lM (a:=.v _) rfl) rfl rfl ?_
   refine oN (aN ?_)
   refine ⟨(l.length - (k+1)),⟨fL [(0,vsA l),(1,.clo 46 []),(7,.v (.int .i64 ((l.length:Nat):Int))),(8,.v (.int .i64 (((k+1):Nat):Int)))],hLz [],0⟩,by omega,(cO (.cons rfl rfl (.cons rfl rfl (.cons rfl rfl (.cons rfl rfl .nil)))) .nil),(k+1),rfl,rfl,?_⟩
   refine ⟨by omega,fun j h=>?_⟩
   rcases Nat.lt_succ_iff_lt_or_eq.1 h with h | rfl
   ·exact hj j h
   ·simp only [domP,getD_at hlt]; simpa using hc16
 ·skip
  have hge:¬ k < l.length:=fun h=>of_decide_eq_false hc9 (Int.ofNat_lt.2 h)
  refine AWP.exit (aE (aE (bE ?_)))
  refine aN (wS (wR ?_))
  refine oL (lA (a:=.v _) rfl) rfl rfl ?_
  refine oN (aN ?_)
  refine wT (?_)
  refine ⟨.inr rfl,oV Tryz.results72 rfl rfl ?_⟩
  exact vi_eq (idxQ_end hk hge hj)
set_option maxRecDepth 100000 in
set_option maxHeartbeats 4000000 in
theorem anyv_p (l:List PVar) (hl:l.length≤1000):PCall Tryz.prog 45 [vsA l,.clo 46 []] (.v (.bool (!allN l.length (domP l)))):=by
 refine pB Tryz.func45 rfl Tryz.ntmps45 (Nat.le_of_ble_eq_true rfl) ?_
 refine wS (wR ?_)
 refine oL (lA (a:=.v _) rfl) rfl rfl ?_
 refine oN (aN (wS (wR ?_)))
 refine oL (lM (a:=.tree _ _) rfl) rfl rfl ?_
 refine oL (lM (a:=.clo _ _) rfl) rfl rfl ?_
 refine oL (LOp.call bod72 rfl (ixv_p l hl)) rfl rfl ?_
 refine oL (lP rfl (fun _ _=>nofun) (fun _=>rfl)) rfl rfl ?_
 refine oL (lA (a:=.v _) rfl) rfl rfl ?_
 refine oN (aN ?_)
 refine wT (?_)
 refine ⟨.inr rfl,oV Tryz.results45 rfl rfl ?_⟩
 exact vb_eq idxQ_ge
set_option maxRecDepth 100000 in
set_option maxHeartbeats 4000000 in
theorem ncl_p (c:PCl) (p:PPred) (hc:c.Ok) (hr:c.R) (hl:p.vars.length≤1000):PCall Tryz.prog 49 [.agg (clA c),.tp (prA p) 0] (.v (.bool (!clB c p.vars))):=by
 refine pB Tryz.func49 rfl Tryz.ntmps49 (Nat.le_of_ble_eq_true rfl) ?_
 refine wS (wR ?_)
 refine oW (LOp.bx rfl) rfl rfl 1 rfl ?_
 refine oL (lA (a:=.v _) rfl) rfl rfl ?_
 refine oN (aN (wS (wR ?_)))
 refine oL (LOp.ldN row76 rfl rfl rfl rfl rfl) rfl rfl ?_
 refine oL (LOp.fieldAddrT fi37_2 rfl rfl) rfl rfl ?_
 refine oL (lE row34 rfl rfl) rfl rfl ?_
 refine oL (LOp.call bod50 rfl (pcl_p c p.vars hc hr hl)) rfl rfl ?_
 refine oL (lP rfl (fun _ _=>nofun) (fun _=>rfl)) rfl rfl ?_
 refine oL (lA (a:=.v _) rfl) rfl rfl ?_
 refine oN (aN ?_)
 refine wT (?_)
 refine ⟨.inr rfl,oV Tryz.results49 rfl rfl ?_⟩
 rfl
set_option maxRecDepth 100000 in
set_option maxHeartbeats 4000000 in
theorem ixc_p (p:PPred) (hp:p.Ok) (hr:p.R):PCall Tryz.prog 73 [.tree 7 (p.cls.map clA),.clo 49 [.tp (prA p) 0]] (.v (.int .i64 (idxQ p.cls.length (clsP p)))):=by
 refine pB Tryz.func73 rfl Tryz.ntmps73 (Nat.le_of_ble_eq_true rfl) ?_
 refine wS (wR ?_)
 refine oL (lA (a:=.v _) rfl) rfl rfl ?_
 refine oN (aN (wS (wS (wR ?_))))
 refine oL (lM (a:=.tree _ _) rfl) rfl rfl ?_
 refine oL (lT rfl Tryz.underlying35 rfl) rfl rfl ?_
 refine oL (lM (a:=.v _) rfl) rfl rfl ?_
 refine oN (aN (wB ?_))
 refine wL (fun n s=>∃ k:Nat,n=(p.cls.length - k)∧s=⟨fL [(0,.tree 7 (p.cls.map clA)),(1,.clo 49 [.tp (prA p) 0]),(7,.v (.int .i64 ((p.cls.length:Nat):Int))),(8,.v (.int .i64 ((k:Nat):Int)))],hLz [],0⟩∧(k≤p.cls.length∧∀ j,j < k→clsP p j=true)) (n:=(p.cls.length - 0)) (s1:=⟨fL [(0,.tree 7 (p.cls.map clA)),(1,.clo 49 [.tp (prA p) 0]),(7,.v (.int .i64 ((p.cls.length:Nat):Int))),(8,.v (.int .i64 ((0:Nat):Int)))],hLz [],0⟩) (cO (.cons rfl rfl (.cons rfl rfl (.cons rfl rfl (.cons rfl rfl .nil)))) .nil) ⟨0,rfl,rfl,⟨Nat.zero_le _,fun j h=>absurd h (Nat.not_lt_zero j)⟩⟩ ?_
 rintro n s ⟨k,rfl,rfl,hinv⟩
 obtain ⟨hk,hj⟩:=hinv
 have hcls:=hp.cls
 refine wS (wR ?_)
 refine oL (lP rfl (fun _ _=>nofun) (fun _=>rfl)) rfl rfl ?_
 refine oN (aN (wS ?_))
 refine wC rfl (fun hc9=>?_) (fun hc9=>?_)
 ·skip
  have hlt:k < p.cls.length:=Int.ofNat_lt.1 (of_decide_eq_true hc9)
  refine wK (aN (wS (wB (wS (wR ?_)))))
  refine oL (lM (a:=.v _) rfl) rfl rfl ?_
  refine oL (lA (a:=.v _) rfl) rfl rfl ?_
  refine oN (aN (wS (wR ?_)))
  refine oL (lM (a:=.clo _ _) rfl) rfl rfl ?_
  refine oL (lM (a:=.tree _ _) rfl) rfl rfl ?_
  refine oL (lM (a:=.v _) rfl) rfl rfl ?_
  refine oL (lI Tryz.underlying35 sz76 rfl rfl (by first | assumption | omega)) rfl rfl ?_
  refine oL (LOp.ldTN row76 rfl rfl) rfl rfl ?_
  refine oL (LOp.callVB [] bod49 rfl rfl (FzL.pure rfl) (ncl_p p.cls[k] p (hp.each _ (List.getElem_mem _)) (hr.each _ (List.getElem_mem _)) hp.vars)) rfl rfl ?_
  refine oN (aN ?_)
  refine wC rfl (fun hc16=>?_) (fun hc16=>?_)
  ·skip
   refine wS (wR ?_)
   refine oL (lM (a:=.v _) rfl) rfl rfl ?_
   refine oL (lA (a:=.v _) rfl) rfl rfl ?_
   refine oN (aN ?_)
   refine wT (bR (aR (aR (bR (aR (?_))))))
   refine ⟨.inr rfl,oV Tryz.results73 rfl rfl ?_⟩
   refine vi_eq (idxQ_hit hlt hj ?_); simp only [clsP,getD_at hlt]; simpa using hc16
  ·skip
   refine wK (bN (aN (wR ?_)))
   refine oL (lJ rfl rfl (by omega) (by omega)) rfl rfl ?_
   refine oL (lM (a:=.v _) rfl) rfl rfl ?_
   refine oN (aN ?_)
   refine ⟨(p.cls.length - (k+1)),⟨fL [(0,.tree 7 (p.cls.map clA)),(1,.clo 49 [.tp (prA p) 0]),(7,.v (.int .i64 ((p.cls.length:Nat):Int))),(8,.v (.int .i64 (((k+1):Nat):Int)))],hLz [],0⟩,by omega,(cO (.cons rfl rfl (.cons rfl rfl (.cons rfl rfl (.cons rfl rfl .nil)))) .nil),(k+1),rfl,rfl,?_⟩
   refine ⟨by omega,fun j h=>?_⟩
   rcases Nat.lt_succ_iff_lt_or_eq.1 h with h | rfl
   ·exact hj j h
   ·simp only [clsP,getD_at hlt]; simpa using hc16
 ·skip
  have hge:¬ k < p.cls.length:=fun h=>of_decide_eq_false hc9 (Int.ofNat_lt.2 h)
  refine AWP.exit (aE (aE (bE ?_)))
  refine aN (wS (wR ?_))
  refine oL (lA (a:=.v _) rfl) rfl rfl ?_
  refine oN (aN ?_)
  refine wT (?_)
  refine ⟨.inr rfl,oV Tryz.results73 rfl rfl ?_⟩
  exact vi_eq (idxQ_end hk hge hj)
set_option maxRecDepth 100000 in
set_option maxHeartbeats 4000000 in
theorem anyc_p (p:PPred) (hp:p.Ok) (hr:p.R):PCall Tryz.prog 48 [.tree 7 (p.cls.map clA),.clo 49 [.tp (prA p) 0]] (.v (.bool (!allN p.cls.length (clsP p)))):=by
 refine pB Tryz.func48 rfl Tryz.ntmps48 (Nat.le_of_ble_eq_true rfl) ?_
 refine wS (wR ?_)
 refine oL (lA (a:=.v _) rfl) rfl rfl ?_
 refine oN (aN (wS (wR ?_)))
 refine oL (lM (a:=.tree _ _) rfl) rfl rfl ?_
 refine oL (lM (a:=.clo _ _) rfl) rfl rfl ?_
 refine oL (LOp.call bod73 rfl (ixc_p p hp hr)) rfl rfl ?_
 refine oL (lP rfl (fun _ _=>nofun) (fun _=>rfl)) rfl rfl ?_
 refine oL (lA (a:=.v _) rfl) rfl rfl ?_
 refine oN (aN ?_)
 refine wT (?_)
 refine ⟨.inr rfl,oV Tryz.results48 rfl rfl ?_⟩
 exact vb_eq idxQ_ge
set_option maxRecDepth 100000 in
set_option maxHeartbeats 4000000 in
theorem pred_p (p:PPred) (v:Int) (hp:p.Ok) (hr:p.R):PCall Tryz.prog 26 [.agg (prA p),.v (.int .i64 v)] (.v (.bool (refB p v))):=by
 have hpv:=hp.vars
 refine pB Tryz.func26 rfl Tryz.ntmps26 (Nat.le_of_ble_eq_true rfl) ?_
 refine wS (wR ?_)
 refine oW (LOp.bx rfl) rfl rfl 1 rfl ?_
 refine oL (lA (a:=.v _) rfl) rfl rfl ?_
 refine oN (aN (wS (wS (wR ?_))))
 refine oL (lF fi37_0 rfl rfl rfl rfl rfl) rfl rfl ?_
 refine oL (lD row3 rfl rfl rfl rfl rfl) rfl rfl ?_
 refine oL (lP rfl (fun _ _=>nofun) (fun _=>rfl)) rfl rfl ?_
 refine oL (lM (a:=.v _) rfl) rfl rfl ?_
 refine oB 8 rfl (fun hg8=>?_) (fun hg8=>?_)
 ·skip
  refine oS rfl rfl ?_
  refine oS rfl rfl ?_
  refine oL (LOp.pkT (a:=.v _) rfl (by first | rfl | assumption) rfl) rfl rfl ?_
  refine oL (lM (a:=.v _) rfl) rfl rfl ?_
  refine oS rfl rfl ?_
  refine oS rfl rfl ?_
  refine oS rfl rfl ?_
  refine oS rfl rfl ?_
  refine oL (LOp.pkT (a:=.v _) rfl (by first | rfl | assumption) rfl) rfl rfl ?_
  refine oL (lM (a:=.v _) rfl) rfl rfl ?_
  refine oS rfl rfl ?_
  refine oS rfl rfl ?_
  refine oS rfl rfl ?_
  refine oS rfl rfl ?_
  refine oS rfl rfl ?_
  refine oL (LOp.pkT (a:=.v _) rfl (by first | rfl | assumption) rfl) rfl rfl ?_
  refine oL (lM (a:=.v _) rfl) rfl rfl ?_
  refine oS rfl rfl ?_
  refine oS rfl rfl ?_
  refine oS rfl rfl ?_
  refine oS rfl rfl ?_
  refine oL (LOp.pkT (a:=.v _) rfl (by first | rfl | assumption) rfl) rfl rfl ?_
  refine oL (lM (a:=.v _) rfl) rfl rfl ?_
  refine oS rfl rfl ?_
  refine oS rfl rfl ?_
  refine oS rfl rfl ?_
  refine oS rfl rfl ?_
  refine oL (LOp.pkT (a:=.v _) rfl (by first | rfl | assumption) rfl) rfl rfl ?_
  refine oN (aN ?_)
  refine AWP.condT rfl ?_
  refine wS (wR ?_)
  refine oL (lA (a:=.v _) rfl) rfl rfl ?_
  refine oN (aN ?_)
  refine wT (aR (?_))
  refine ⟨.inr rfl,oV Tryz.results26 rfl rfl ?_⟩
  (refine vb_eq ?_; unfold refB badP domB; simp_all; done)
 ·skip
  refine oL (lM (a:=.v _) rfl) rfl rfl ?_
  refine oL (lP rfl (fun _ _=>nofun) (fun _=>rfl)) rfl rfl ?_
  refine oL (lK rfl rfl rfl) rfl rfl ?_
  refine oL (lM (a:=.v _) rfl) rfl rfl ?_
  refine oB 12 rfl (fun hg12=>?_) (fun hg12=>?_)
  ·skip
   refine oS rfl rfl ?_
   refine oS rfl rfl ?_
   refine oS rfl rfl ?_
   refine oS rfl rfl ?_
   refine oL (LOp.pkT (a:=.v _) rfl (by first | rfl | assumption) rfl) rfl rfl ?_
   refine oL (lM (a:=.v _) rfl) rfl rfl ?_
   refine oS rfl rfl ?_
   refine oS rfl rfl ?_
   refine oS rfl rfl ?_
   refine oS rfl rfl ?_
   refine oS rfl rfl ?_
   refine oL (LOp.pkT (a:=.v _) rfl (by first | rfl | assumption) rfl) rfl rfl ?_
   refine oL (lM (a:=.v _) rfl) rfl rfl ?_
   refine oS rfl rfl ?_
   refine oS rfl rfl ?_
   refine oS rfl rfl ?_
   refine oS rfl rfl ?_
   refine oL (LOp.pkT (a:=.v _) rfl (by first | rfl | assumption) rfl) rfl rfl ?_
   refine oL (lM (a:=.v _) rfl) rfl rfl ?_
   refine oS rfl rfl ?_
   refine oS rfl rfl ?_
   refine oS rfl rfl ?_
   refine oS rfl rfl ?_
   refine oL (LOp.pkT (a:=.v _) rfl (by first | rfl | assumption) rfl) rfl rfl ?_
   refine oN (aN ?_)
   refine AWP.condT rfl ?_
   refine wS (wR ?_)
   refine oL (lA (a:=.v _) rfl) rfl rfl ?_
   refine oN (aN ?_)
   refine wT (aR (?_))
   refine ⟨.inr rfl,oV Tryz.results26 rfl rfl ?_⟩
   (refine vb_eq ?_; unfold refB badP domB; simp_all; done)
  ·skip
   refine oL (lF fi37_1 rfl rfl rfl rfl rfl) rfl rfl ?_
   refine oL (lD row3 rfl rfl rfl rfl rfl) rfl rfl ?_
   refine oL (lM (a:=.v _) rfl) rfl rfl ?_
   refine oL (lP rfl (fun _ _=>nofun) (fun _=>rfl)) rfl rfl ?_
   refine oL (lK rfl rfl rfl) rfl rfl ?_
   refine oL (lM (a:=.v _) rfl) rfl rfl ?_
   refine oB 18 rfl (fun hg18=>?_) (fun hg18=>?_)
   ·skip
    refine oS rfl rfl ?_
    refine oS rfl rfl ?_
    refine oS rfl rfl ?_
    refine oS rfl rfl ?_
    refine oS rfl rfl ?_
    refine oL (LOp.pkT (a:=.v _) rfl (by first | rfl | assumption) rfl) rfl rfl ?_
    refine oL (lM (a:=.v _) rfl) rfl rfl ?_
    refine oS rfl rfl ?_
    refine oS rfl rfl ?_
    refine oS rfl rfl ?_
    refine oS rfl rfl ?_
    refine oL (LOp.pkT (a:=.v _) rfl (by first | rfl | assumption) rfl) rfl rfl ?_
    refine oL (lM (a:=.v _) rfl) rfl rfl ?_
    refine oS rfl rfl ?_
    refine oS rfl rfl ?_
    refine oS rfl rfl ?_
    refine oS rfl rfl ?_
    refine oL (LOp.pkT (a:=.v _) rfl (by first | rfl | assumption) rfl) rfl rfl ?_
    refine oN (aN ?_)
    refine AWP.condT rfl ?_
    refine wS (wR ?_)
    refine oL (lA (a:=.v _) rfl) rfl rfl ?_
    refine oN (aN ?_)
    refine wT (aR (?_))
    refine ⟨.inr rfl,oV Tryz.results26 rfl rfl ?_⟩
    (refine vb_eq ?_; unfold refB badP domB; simp_all; done)
   ·skip
    refine oL (lF fi37_2 rfl rfl rfl rfl rfl) rfl rfl ?_
    refine oL (lD row34 rfl rfl rfl rfl rfl) rfl rfl ?_
    refine oL (lT rfl Tryz.underlying34 rfl) rfl rfl ?_
    refine oL (lM (a:=.v _) rfl) rfl rfl ?_
    refine oL (lP rfl (fun _ _=>nofun) (fun _=>rfl)) rfl rfl ?_
    refine oL (lK rfl rfl rfl) rfl rfl ?_
    refine oL (lM (a:=.v _) rfl) rfl rfl ?_
    refine oB 25 rfl (fun hg25=>?_) (fun hg25=>?_)
    ·skip
     refine oS rfl rfl ?_
     refine oS rfl rfl ?_
     refine oS rfl rfl ?_
     refine oS rfl rfl ?_
     refine oL (LOp.pkT (a:=.v _) rfl (by first | rfl | assumption) rfl) rfl rfl ?_
     refine oL (lM (a:=.v _) rfl) rfl rfl ?_
     refine oS rfl rfl ?_
     refine oS rfl rfl ?_
     refine oS rfl rfl ?_
     refine oS rfl rfl ?_
     refine oL (LOp.pkT (a:=.v _) rfl (by first | rfl | assumption) rfl) rfl rfl ?_
     refine oN (aN ?_)
     refine AWP.condT rfl ?_
     refine wS (wR ?_)
     refine oL (lA (a:=.v _) rfl) rfl rfl ?_
     refine oN (aN ?_)
     refine wT (aR (?_))
     refine ⟨.inr rfl,oV Tryz.results26 rfl rfl ?_⟩
     (refine vb_eq ?_; unfold refB badP domB; simp_all; done)
    ·skip
     refine oL (lF fi37_2 rfl rfl rfl rfl rfl) rfl rfl ?_
     refine oL (lD row34 rfl rfl rfl rfl rfl) rfl rfl ?_
     refine oL (lT rfl Tryz.underlying34 rfl) rfl rfl ?_
     refine oL (lP rfl (fun _ _=>nofun) (fun _=>rfl)) rfl rfl ?_
     refine oL (lK rfl rfl rfl) rfl rfl ?_
     refine oL (lM (a:=.v _) rfl) rfl rfl ?_
     refine oB 31 rfl (fun hg31=>?_) (fun hg31=>?_)
     ·skip
      refine oS rfl rfl ?_
      refine oS rfl rfl ?_
      refine oS rfl rfl ?_
      refine oS rfl rfl ?_
      refine oL (LOp.pkT (a:=.v _) rfl (by first | rfl | assumption) rfl) rfl rfl ?_
      refine oN (aN ?_)
      refine AWP.condT rfl ?_
      refine wS (wR ?_)
      refine oL (lA (a:=.v _) rfl) rfl rfl ?_
      refine oN (aN ?_)
      refine wT (aR (?_))
      refine ⟨.inr rfl,oV Tryz.results26 rfl rfl ?_⟩
      (refine vb_eq ?_; unfold refB badP domB; simp_all; intros; omega)
     ·skip
      refine oL (lF fi37_3 rfl rfl rfl rfl rfl) rfl rfl ?_
      refine oL (lD row35 rfl rfl rfl rfl rfl) rfl rfl ?_
      refine oL (lT rfl Tryz.underlying35 rfl) rfl rfl ?_
      refine oL (lP rfl (fun _ _=>nofun) (fun _=>rfl)) rfl rfl ?_
      refine oL (lK rfl rfl rfl) rfl rfl ?_
      refine oN (aN ?_)
      refine wC rfl (fun hc36=>?_) (fun hc36=>?_)
      ·skip
       refine wS (wR ?_)
       refine oL (lA (a:=.v _) rfl) rfl rfl ?_
       refine oN (aN ?_)
       refine wT (aR (?_))
       refine ⟨.inr rfl,oV Tryz.results26 rfl rfl ?_⟩
       (refine vb_eq ?_; unfold refB badP domB; simp_all; done)
      ·skip
       refine wK (aN (wS (wS (wR ?_))))
       refine oL (lF fi37_2 rfl rfl rfl rfl rfl) rfl rfl ?_
       refine oL (lD row34 rfl rfl rfl rfl rfl) rfl rfl ?_
       refine oL (LOp.call bod45 rfl (anyv_p p.vars hp.vars)) rfl rfl ?_
       refine oN (aN ?_)
       refine wC rfl (fun hc39=>?_) (fun hc39=>?_)
       ·skip
        refine wS (wR ?_)
        refine oL (lA (a:=.v _) rfl) rfl rfl ?_
        refine oN (aN ?_)
        refine wT (aR (?_))
        refine ⟨.inr rfl,oV Tryz.results26 rfl rfl ?_⟩
        (refine vb_eq ?_; unfold refB badP domB; simp_all; done)
       ·skip
        refine wK (aN (wS (wR ?_)))
        refine oL (lF fi37_3 rfl rfl rfl rfl rfl) rfl rfl ?_
        refine oL (lD row35 rfl rfl rfl rfl rfl) rfl rfl ?_
        refine oL (LOp.mkFn rfl) rfl rfl ?_
        refine oL (LOp.callB [0] bod48 rfl (fun i h h'=>match i,h with | 0,_=>FzP.pure rfl | 1,_=>FzP.clo (.cons (FzP.ptrL (by decide) rfl rfl (FzL.pure rfl)) .nil)) (anyc_p p hp hr)) rfl rfl ?_
        refine oL (lP rfl (fun _ _=>nofun) (fun _=>rfl)) rfl rfl ?_
        refine oL (lA (a:=.v _) rfl) rfl rfl ?_
        refine oN (aN ?_)
        refine wT (?_)
        refine ⟨.inr rfl,oV Tryz.results26 rfl rfl ?_⟩
        (refine vb_eq ?_; unfold refB badP domB; simp_all; done)
end Go.Proofs.YtfelpgeolclnbaaGreatDoor
