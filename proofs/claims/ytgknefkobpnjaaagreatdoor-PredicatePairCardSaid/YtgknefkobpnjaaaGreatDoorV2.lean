/- Texts of the claim. -/
import Derived.Lib.ConvBytes
import Derived.Lib.MinMax
import Derived.Test.YtgknefkobpnjaaaGreatDoorV1
namespace Go.Proofs.YtgknefkobpnjaaaGreatDoor
set_option linter.unusedVariables false
set_option linter.unusedSimpArgs false
open Go.RowKit
/-- The bounds of the auxiliary variables, one after the other. -/
def bV (c:PCl) (l:List PVar) (bs:List Int) (j:Nat):Int:=if (c.aux.getD j default).by_=0 then 16 else fV (c.aux.getD j default).of_ c.nn l bs / (c.aux.getD j default).by_+1
def bsAt (c:PCl) (l:List PVar):Nat→List Int
 | 0=>[]
 | j+1=>bsAt c l j++[bV c l (bsAt c l j) j]
theorem bsAt_len (c:PCl) (l:List PVar):∀ k,(bsAt c l k).length=k
 | 0=>rfl
 | k+1=>by simp [bsAt,bsAt_len c l k]
def auxP (c:PCl) (l:List PVar) (j:Nat):Bool :=
 if (c.aux.getD j default).by_=0 then !(decide (0 < ((c.aux.getD j default).of_.cs.length:Int))||!((c.aux.getD j default).of_.k==0))&&txtB (c.aux.getD j default).tx c.nn l
 else wiB (c.aux.getD j default).by_ 1 1000&&(c.aux.getD j default).tx==0&&!decide (fV (c.aux.getD j default).of_ c.nn l (bsAt c l j) < 0)
def intP (c:PCl) (l:List PVar) (j:Nat):Bool:=!decide (fV (c.ints.getD j default).l c.nn l (bsAt c l c.aux.length) < 0)
def tstP (c:PCl) (l:List PVar) (j:Nat):Bool:=tesB (c.tests.getD j default)&&txtB (c.tests.getD j default).v c.nn l
/-- Is a clause valid? -/
def clB (c:PCl) (l:List PVar):Bool:=ascB c.nul l.length&&ascB c.nn l.length&&allN c.aux.length (auxP c l)&&allN c.ints.length (intP c l)&&allN c.tests.length (tstP c l)&&(paiB c.same c.nn l&&paiB c.diff c.nn l)
/-- A clause that is not great. -/
structure PCl.Ok (c:PCl):Prop where
 nul:c.nul.length≤1000
 nn:c.nn.length≤1000
 aux:c.aux.length≤1000
 ints:c.ints.length≤1000
 tests:c.tests.length≤1000
 same:c.same.length≤1000
 diff:c.diff.length≤1000
 auxc:∀ a∈c.aux,a.of_.cs.length≤1000
 intc:∀ a∈c.ints,a.l.cs.length≤1000
 tes:∀ a∈c.tests,a.s.size≤1000
theorem fV_le {f:PLin} {nn:List Int} {l:List PVar} {bs:List Int} (hbs:∀ b∈bs,0≤b∧b≤4611686018427387904):fV f nn l bs≤1152921504606846977:=by
 unfold fV
 split
 ·rename_i h
  simp only [Bool.and_eq_true] at h
  exact (fS_rng h.1 hbs (allN_iff.1 h.2) _ (Nat.le_refl _)).2
 ·omega
theorem bsAt_rng {c:PCl} {l:List PVar}:∀ k,(∀ j,j < k→auxP c l j=true)→∀ b∈bsAt c l k,0≤b∧b≤4611686018427387904
 | 0,_,b,hb=>by cases hb
 | k+1,h,b,hb=>by
  have ih:=bsAt_rng k (fun j hj=>h j (by omega))
  rcases List.mem_append.1 hb with hb | hb
  ·exact ih b hb
  ·simp only [List.mem_singleton] at hb
   subst hb
   have h1:=h k (by omega)
   unfold bV
   split
   ·omega
   ·rename_i h0
    unfold auxP at h1
    rw [if_neg h0] at h1
    simp only [Bool.and_eq_true,wiB,decide_eq_true_eq,Bool.not_eq_true',decide_eq_false_iff_not,beq_iff_eq] at h1
    have h2:=fV_le (f:=(c.aux.getD k default).of_) (nn:=c.nn) (l:=l) ih
    have h3:=Int.ediv_le_self (a:=fV (c.aux.getD k default).of_ c.nn l (bsAt c l k)) (c.aux.getD k default).by_ (by omega)
    have h4:=Int.ediv_nonneg (a:=fV (c.aux.getD k default).of_ c.nn l (bsAt c l k)) (b:=(c.aux.getD k default).by_) (by omega) (by omega)
    omega
theorem Src.slB {η:Heap} {id ver w z len:Nat} {cs news:List AV} (hb:η id=some ⟨w,cs,z,false⟩) (hv:w=ver) (hne:Nat.beq len 0=false) (hc:takeFrom 0 news.length cs=some news):Src η [id] (.sl id ver 0 len) len news:=Src.sl hb hv rfl hne hc
theorem low_fl (u:Nat):∀ bs:List Int,lowL u ((bs.map iA).flatten)=true
 | []=>rfl
 | b :: bs=>by
  have:=low_fl u bs
  simpa [iA,lowL,AV.lowB] using this
theorem fl_len:∀ bs:List Int,((bs.map iA).flatten).length=bs.length
 | []=>rfl
 | b :: bs=>by have:=fl_len bs; simp [iA] at this ⊢; omega
theorem bs_step0 {c:PCl} {l:List PVar} {k:Nat} (hlt:k < c.aux.length) (h0:c.aux[k].by_=0):((bsAt c l k).map iA).flatten++[.v (.int .i64 16)]=((bsAt c l (k+1)).map iA).flatten:=by
 have e:bV c l (bsAt c l k) k=16:=by unfold bV; rw [getD_at hlt,if_pos h0]
 show _=((bsAt c l k++[bV c l (bsAt c l k) k]).map iA).flatten
 rw [e]; simp [iA]
theorem bs_step1 {c:PCl} {l:List PVar} {k:Nat} (hlt:k < c.aux.length) (h0:¬ c.aux[k].by_=0):((bsAt c l k).map iA).flatten++[.v (.int .i64 (fV c.aux[k].of_ c.nn l (bsAt c l k) / c.aux[k].by_+1))]=((bsAt c l (k+1)).map iA).flatten:=by
 have e:bV c l (bsAt c l k) k=fV c.aux[k].of_ c.nn l (bsAt c l k) / c.aux[k].by_+1:=by unfold bV; rw [getD_at hlt,if_neg h0]
 show _=((bsAt c l k++[bV c l (bsAt c l k) k]).map iA).flatten
 rw [e]; simp [iA]
theorem bb_eq {w z:Nat} {cs cs':List AV} (h:cs=cs'):some (Blk.mk w cs z false)=some (Blk.mk w cs' z false):=by rw [h]
theorem FzP.bounds {fp:List Nat} {η:Heap} {id k:Nat} {bs:List Int} (hid:id∈fp) (hb:η id=some ⟨k,(bs.map iA).flatten,1,Nat.beq k 0⟩) (hk:bs.length=k):FzP fp η (.sl id k 0 k) (isA bs):=by
 cases k with
 | zero=>
  have h0:bs=[]:=List.eq_nil_of_length_eq_zero hk
  subst h0
  intro C hg hη x hx
  obtain ⟨e,_,_⟩:=hx.slnil_inv ((hη id hid).trans hb) rfl rfl
  subst e
  exact .tree0 (by unfold maxLen; omega)
 | succ k=>exact FzP.slMap (f:=iA) hid hb rfl rfl rfl rfl hk (fun a _=>⟨rfl,rfl⟩)
theorem clB_aux {c:PCl} {l:List PVar} {k:Nat} (hlt:k < c.aux.length) (h:auxP c l k=false):false=clB c l:=by unfold clB; rw [allN_hit hlt h]; simp
theorem clB_int {c:PCl} {l:List PVar} {k:Nat} (hlt:k < c.ints.length) (h:intP c l k=false):false=clB c l:=by unfold clB; rw [allN_hit hlt h]; simp
theorem clB_tst {c:PCl} {l:List PVar} {k:Nat} (hlt:k < c.tests.length) (h:tstP c l k=false):false=clB c l:=by unfold clB; rw [allN_hit hlt h]; simp
theorem bod73:bodied Tryz.prog 73=true:=by kernel_rfl
theorem bod75:bodied Tryz.prog 75=true:=by kernel_rfl
theorem bod77:bodied Tryz.prog 77=true:=by kernel_rfl
theorem bod78:bodied Tryz.prog 78=true:=by kernel_rfl
theorem by2:(Tryz.prog.info? 2).map (·.bytes)=some 8:=by kernel_rfl
theorem fi35_0:fieldInfo Tryz.prog 35 0=some (0,1):=by kernel_rfl
theorem fi35_2:fieldInfo Tryz.prog 35 2=some (2,1):=by kernel_rfl
theorem fi35_3:fieldInfo Tryz.prog 35 3=some (3,1):=by kernel_rfl
theorem fi35_4:fieldInfo Tryz.prog 35 4=some (4,1):=by kernel_rfl
theorem fi35_5:fieldInfo Tryz.prog 35 5=some (5,1):=by kernel_rfl
theorem fi35_6:fieldInfo Tryz.prog 35 6=some (6,1):=by kernel_rfl
theorem fi52_0:fieldInfo Tryz.prog 52 0=some (0,1):=by kernel_rfl
theorem fi81_0:fieldInfo Tryz.prog 81 0=some (0,2):=by kernel_rfl
theorem fi81_1:fieldInfo Tryz.prog 81 1=some (2,1):=by kernel_rfl
theorem fi81_2:fieldInfo Tryz.prog 81 2=some (3,1):=by kernel_rfl
theorem fi84_0:fieldInfo Tryz.prog 84 0=some (0,2):=by kernel_rfl
theorem row30:rowOf Tryz.prog 30=some none:=by kernel_rfl
theorem row31:rowOf Tryz.prog 31=some none:=by kernel_rfl
theorem row32:rowOf Tryz.prog 32=some none:=by kernel_rfl
theorem row33:rowOf Tryz.prog 33=some none:=by kernel_rfl
theorem row52:rowOf Tryz.prog 52=some (some 4):=by kernel_rfl
theorem row79:rowOf Tryz.prog 79=some (some 2):=by kernel_rfl
theorem row81:rowOf Tryz.prog 81=some (some 4):=by kernel_rfl
theorem sz52:sizeInfo Tryz.prog 52=some 4:=by kernel_rfl
theorem sz81:sizeInfo Tryz.prog 81=some 4:=by kernel_rfl
theorem sz84:sizeInfo Tryz.prog 84=some 3:=by kernel_rfl
theorem zr2:zeroOf Tryz.prog 2=some (.int .i64 0):=by kernel_rfl
theorem zr81:zeroOf Tryz.prog 81=some (.agg #[.int .i64 0,.slice none 0 0,.int .i64 0,.int .i64 0]):=by kernel_rfl
set_option maxRecDepth 100000 in
set_option maxHeartbeats 4000000 in
theorem cl_p (c:PCl) (l:List PVar) (hc:c.Ok) (hl:l.length≤1000):PCall Tryz.prog 38 [.agg (clA c),vsA l] (.v (.bool (clB c l))):=by
 refine pB Tryz.func38 rfl Tryz.ntmps38 (Nat.le_of_ble_eq_true rfl) ?_
 refine wS (wR ?_)
 refine oW (LOp.bx rfl) rfl rfl 1 rfl ?_
 refine oL (lA (a:=.v _) rfl) rfl rfl ?_
 refine oN (aN (wS (wS (wR ?_))))
 refine oL (lF fi35_0 rfl rfl rfl rfl rfl) rfl rfl ?_
 refine oL (lD row29 rfl rfl rfl rfl rfl) rfl rfl ?_
 refine oL (lM (a:=.tree _ _) rfl) rfl rfl ?_
 refine oL (lT rfl Tryz.underlying22 rfl) rfl rfl ?_
 refine oL (LOp.call bod73 rfl (asc_p c.nul _ hc.nul)) rfl rfl ?_
 refine oL (lP rfl (fun _ _=>nofun) (fun _=>rfl)) rfl rfl ?_
 refine oL (lM (a:=.v _) rfl) rfl rfl ?_
 refine oB 17 rfl (fun hg17=>?_) (fun hg17=>?_)
 ·skip
  refine oS rfl rfl ?_
  refine oS rfl rfl ?_
  refine oS rfl rfl ?_
  refine oS rfl rfl ?_
  refine oS rfl rfl ?_
  refine oS rfl rfl ?_
  refine oL (LOp.pkT (a:=.v _) rfl (by first | rfl | assumption) rfl) rfl rfl ?_
  refine oN (aN ?_)
  refine AWP.condT rfl ?_
  refine wS (wR ?_)
  refine oL (lA (a:=.v _) rfl) rfl rfl ?_
  refine oN (aN ?_)
  refine wT (aR (?_))
  refine ⟨.inr rfl,oV Tryz.results38 rfl rfl ?_⟩
  refine vb_eq ?_; unfold clB; simp_all; done
 ·skip
  refine oL (lF fi35_1 rfl rfl rfl rfl rfl) rfl rfl ?_
  refine oL (lD row29 rfl rfl rfl rfl rfl) rfl rfl ?_
  refine oL (lM (a:=.tree _ _) rfl) rfl rfl ?_
  refine oL (lT rfl Tryz.underlying22 rfl) rfl rfl ?_
  refine oL (LOp.call bod73 rfl (asc_p c.nn _ hc.nn)) rfl rfl ?_
  refine oL (lP rfl (fun _ _=>nofun) (fun _=>rfl)) rfl rfl ?_
  refine oL (lK rfl rfl rfl) rfl rfl ?_
  refine oN (aN ?_)
  refine wC rfl (fun hc24=>?_) (fun hc24=>?_)
  ·skip
   refine wS (wR ?_)
   refine oL (lA (a:=.v _) rfl) rfl rfl ?_
   refine oN (aN ?_)
   refine wT (aR (?_))
   refine ⟨.inr rfl,oV Tryz.results38 rfl rfl ?_⟩
   refine vb_eq ?_; unfold clB; simp_all; done
  ·skip
   have hn12:ascB c.nul l.length=true∧ascB c.nn l.length=true:=by simp_all
   obtain ⟨hn1,hn2⟩:=hn12
   refine wK (aN (wS (wR ?_)))
   refine oL (lA (a:=.v _) rfl) rfl rfl ?_
   refine oN (aN (wS (wS (wR ?_))))
   refine oL (lA (a:=.v _) rfl) rfl rfl ?_
   refine oN (aN (wB ?_))
   refine AWP.lazyT 5 1 rfl 2 rfl ?_
   refine wL (fun n s=>∃ k:Nat,n=(c.aux.length - k)∧s=⟨fL [(1,vsA l),(2,.ptr 0 0 0),(5,.sl 1 k 0 k),(6,.v (.int .i64 ((k:Nat):Int)))],hLz [(0,⟨0,clA c,0,false⟩),(1,⟨k,((bsAt c l k).map iA).flatten,1,Nat.beq k 0⟩)],2⟩∧(k≤c.aux.length∧∀ j,j < k→auxP c l j=true)) (n:=(c.aux.length - 0)) (s1:=⟨fL [(1,vsA l),(2,.ptr 0 0 0),(5,.sl 1 0 0 0),(6,.v (.int .i64 ((0:Nat):Int)))],hLz [(0,⟨0,clA c,0,false⟩),(1,⟨0,((bsAt c l 0).map iA).flatten,1,Nat.beq 0 0⟩)],2⟩) (cO (.cons rfl rfl (.cons rfl rfl (.cons rfl rfl (.cons rfl rfl .nil)))) (.cons rfl rfl rfl (.cons (by first | rfl | exact bb_eq (bs_step0 hlt h0) | exact bb_eq (bs_step1 hlt h0)) rfl (low_fl _ _) .nil))) ⟨0,rfl,rfl,⟨Nat.zero_le _,fun j h=>absurd h (Nat.not_lt_zero j)⟩⟩ ?_
   rintro n s ⟨k,rfl,rfl,hinv⟩
   obtain ⟨hk,hj⟩:=hinv
   have haux:=hc.aux
   refine wS (wS (wR ?_))
   refine oL (lM (a:=.v _) rfl) rfl rfl ?_
   refine oL (lF fi35_2 rfl rfl rfl rfl rfl) rfl rfl ?_
   refine oL (lD row30 rfl rfl rfl rfl rfl) rfl rfl ?_
   refine oL (lT rfl Tryz.underlying30 rfl) rfl rfl ?_
   refine oL (lP rfl (fun _ _=>nofun) (fun _=>rfl)) rfl rfl ?_
   refine oN (aN ?_)
   refine wC rfl (fun hc29=>?_) (fun hc29=>?_)
   ·skip
    have hlt:k < c.aux.length:=Int.ofNat_lt.1 (of_decide_eq_true hc29)
    have ea:c.aux.getD k default=c.aux[k]:=getD_at hlt
    refine wK (aN (wS (wB (wS (wR ?_)))))
    refine oL (lF fi35_2 rfl rfl rfl rfl rfl) rfl rfl ?_
    refine oL (lD row30 rfl rfl rfl rfl rfl) rfl rfl ?_
    refine oL (lM (a:=.v _) rfl) rfl rfl ?_
    refine oL (lI Tryz.underlying30 sz81 rfl rfl (by first | assumption | omega)) rfl rfl ?_
    refine oL (LOp.ldTN row81 rfl rfl) rfl rfl ?_
    refine oW (LOp.al zr81 rfl) rfl rfl 3 rfl ?_
    refine AOps.wr (LOp.st sz81 rfl rfl rfl rfl rfl rfl rfl rfl) rfl rfl rfl ?_
    refine oN (aN (wS (wS (wR ?_))))
    refine oL (lF fi81_1 rfl rfl rfl rfl rfl) rfl rfl ?_
    refine oL (lD row2 rfl rfl rfl rfl rfl) rfl rfl ?_
    refine oL (lP rfl (fun _ _=>nofun) (fun _=>rfl)) rfl rfl ?_
    refine oN (aN ?_)
    refine wC rfl (fun hc39=>?_) (fun hc39=>?_)
    ·skip
     have h0:c.aux[k].by_=0:=by simpa using hc39
     refine wS (wS (wR ?_))
     refine oL (lF fi81_0 rfl rfl rfl rfl rfl) rfl rfl ?_
     refine oL (lF fi79_1 rfl rfl rfl rfl rfl) rfl rfl ?_
     refine oL (lD row77 rfl rfl rfl rfl rfl) rfl rfl ?_
     refine oL (lT rfl Tryz.underlying77 rfl) rfl rfl ?_
     refine oL (lP rfl (fun _ _=>nofun) (fun _=>rfl)) rfl rfl ?_
     refine oL (lM (a:=.v _) rfl) rfl rfl ?_
     refine oB 45 rfl (fun hg45=>?_) (fun hg45=>?_)
     ·skip
      refine oS rfl rfl ?_
      refine oS rfl rfl ?_
      refine oS rfl rfl ?_
      refine oS rfl rfl ?_
      refine oL (LOp.pkT (a:=.v _) rfl (by first | rfl | assumption) rfl) rfl rfl ?_
      refine oL (lM (a:=.v _) rfl) rfl rfl ?_
      refine oS rfl rfl ?_
      refine oS rfl rfl ?_
      refine oS rfl rfl ?_
      refine oS rfl rfl ?_
      refine oS rfl rfl ?_
      refine oS rfl rfl ?_
      refine oL (LOp.pkT (a:=.v _) rfl (by first | rfl | assumption) rfl) rfl rfl ?_
      refine oN (aN ?_)
      refine AWP.condT rfl ?_
      refine wS (wR ?_)
      refine oL (lA (a:=.v _) rfl) rfl rfl ?_
      refine oN (aN ?_)
      refine wT (aR (aR (bR (aR (aR (bR (aR (?_))))))))
      refine ⟨.inr rfl,oV Tryz.results38 rfl rfl ?_⟩
      exact vb_eq (clB_aux hlt (by unfold auxP; rw [ea,if_pos h0]; simp_all; done))
     ·skip
      refine oL (lF fi81_0 rfl rfl rfl rfl rfl) rfl rfl ?_
      refine oL (lF fi79_0 rfl rfl rfl rfl rfl) rfl rfl ?_
      refine oL (lD row2 rfl rfl rfl rfl rfl) rfl rfl ?_
      refine oL (lP rfl (fun _ _=>nofun) (fun _=>rfl)) rfl rfl ?_
      refine oL (lK rfl rfl rfl) rfl rfl ?_
      refine oL (lM (a:=.v _) rfl) rfl rfl ?_
      refine oB 51 rfl (fun hg51=>?_) (fun hg51=>?_)
      ·skip
       refine oS rfl rfl ?_
       refine oS rfl rfl ?_
       refine oS rfl rfl ?_
       refine oS rfl rfl ?_
       refine oS rfl rfl ?_
       refine oS rfl rfl ?_
       refine oL (LOp.pkT (a:=.v _) rfl (by first | rfl | assumption) rfl) rfl rfl ?_
       refine oN (aN ?_)
       refine AWP.condT rfl ?_
       refine wS (wR ?_)
       refine oL (lA (a:=.v _) rfl) rfl rfl ?_
       refine oN (aN ?_)
       refine wT (aR (aR (bR (aR (aR (bR (aR (?_))))))))
       refine ⟨.inr rfl,oV Tryz.results38 rfl rfl ?_⟩
       exact vb_eq (clB_aux hlt (by unfold auxP; rw [ea,if_pos h0]; simp_all; done))
      ·skip
       refine oL (lF fi81_2 rfl rfl rfl rfl rfl) rfl rfl ?_
       refine oL (lD row3 rfl rfl rfl rfl rfl) rfl rfl ?_
       refine oL (LOp.ldN row35 rfl rfl rfl rfl rfl) rfl rfl ?_
       refine oL (lM (a:=.tree _ _) rfl) rfl rfl ?_
       refine oL (LOp.call bod74 rfl (txt_p c.aux[k].tx c l hc.nn hl)) rfl rfl ?_
       refine oL (lP rfl (fun _ _=>nofun) (fun _=>rfl)) rfl rfl ?_
       refine oL (lK rfl rfl rfl) rfl rfl ?_
       refine oN (aN ?_)
       refine wC rfl (fun hc58=>?_) (fun hc58=>?_)
       ·skip
        have hax:auxP c l k=false:=by unfold auxP; rw [ea,if_pos h0]; simp_all
        refine wS (wR ?_)
        refine oL (lA (a:=.v _) rfl) rfl rfl ?_
        refine oN (aN ?_)
        refine wT (aR (aR (bR (aR (aR (bR (aR (?_))))))))
        refine ⟨.inr rfl,oV Tryz.results38 rfl rfl ?_⟩
        exact vb_eq (clB_aux hlt hax)
       ·skip
        have hax:auxP c l k=true:=by unfold auxP; rw [ea,if_pos h0]; simp_all
        refine wK (aN (wS (wR ?_)))
        refine oL (lM (a:=.sl _ _ _ _) rfl) rfl rfl ?_
        refine oW (LOp.bs Tryz.underlying137 sz2 zr2 rfl rfl rfl rfl) rfl rfl 4 rfl ?_
        refine AOps.gv (LOp.appendA (m:=1) (news:=[.v (.int .i64 _)]) Tryz.underlying137 sz2 zr2 by2 rfl rfl rfl rfl (by rw [fl_len,bsAt_len,Nat.mul_one]) (Src.slB rfl rfl rfl rfl) (by decide) rfl rfl (by omega) (by omega) (by unfold TV; omega)) rfl rfl 4 rfl rfl ?_
        refine oL (lA (a:=.sl _ _ _ _) rfl) rfl rfl ?_
        refine oN (aN ?_)
        refine AWP.exit (aE (bE ?_))
        refine aN (wR ?_)
        refine oL (lM (a:=.v _) rfl) rfl rfl ?_
        refine oL (lJ rfl rfl (by omega) (by omega)) rfl rfl ?_
        refine oL (lA (a:=.v _) rfl) rfl rfl ?_
        refine oN (aN ?_)
        refine ⟨(c.aux.length - (k+1)),⟨fL [(1,vsA l),(2,.ptr 0 0 0),(5,.sl 1 (k+1) 0 (k+1)),(6,.v (.int .i64 (((k+1):Nat):Int)))],hLz [(0,⟨0,clA c,0,false⟩),(1,⟨(k+1),((bsAt c l (k+1)).map iA).flatten,1,Nat.beq (k+1) 0⟩)],2⟩,by omega,(cO (.cons rfl rfl (.cons rfl rfl (.cons rfl rfl (.cons rfl rfl .nil)))) (.cons rfl rfl rfl (.cons (by first | rfl | exact bb_eq (bs_step0 hlt h0) | exact bb_eq (bs_step1 hlt h0)) rfl (low_fl _ _) .nil))),k+1,rfl,rfl,?_⟩
        refine ⟨by omega,fun j h=>?_⟩
        rcases Nat.lt_succ_iff_lt_or_eq.1 h with h | rfl
        ·exact hj j h
        ·first | exact hax | skip
    ·skip
     have h0:¬ c.aux[k].by_=0:=by simpa using hc39
     refine wK (aN (wS (wR ?_)))
     refine oL (lF fi81_0 rfl rfl rfl rfl rfl) rfl rfl ?_
     refine oL (LOp.ldN row79 rfl rfl rfl rfl rfl) rfl rfl ?_
     refine oL (LOp.ldN row35 rfl rfl rfl rfl rfl) rfl rfl ?_
     refine oL (lM (a:=.tree _ _) rfl) rfl rfl ?_
     refine oL (lM (a:=.sl _ _ _ _) rfl) rfl rfl ?_
     refine oL (LOp.callB [1] bod75 rfl (fun i h h'=>match i,h with | 0,_=>FzP.pure rfl | 1,_=>FzP.pure rfl | 2,_=>FzP.pure rfl | 3,_=>FzP.bounds (List.mem_singleton.2 rfl) rfl (bsAt_len _ _ _)) (form_p c.aux[k].of_ c l (bsAt c l k) (hc.auxc _ (List.getElem_mem _)) hc.nn hl (by rw [bsAt_len]; omega) (bsAt_rng k hj))) rfl rfl ?_
     refine oL (lA (a:=.v _) rfl) rfl rfl ?_
     refine oN (aN (wS (wS (wR ?_))))
     refine oL (lF fi81_1 rfl rfl rfl rfl rfl) rfl rfl ?_
     refine oL (lD row2 rfl rfl rfl rfl rfl) rfl rfl ?_
     refine oL (LOp.call bod76 rfl (wi_p c.aux[k].by_ 1 1000)) rfl rfl ?_
     refine oL (lP rfl (fun _ _=>nofun) (fun _=>rfl)) rfl rfl ?_
     refine oL (lM (a:=.v _) rfl) rfl rfl ?_
     refine oB 72 rfl (fun hg72=>?_) (fun hg72=>?_)
     ·skip
      refine oS rfl rfl ?_
      refine oS rfl rfl ?_
      refine oS rfl rfl ?_
      refine oL (LOp.pkT (a:=.v _) rfl (by first | rfl | assumption) rfl) rfl rfl ?_
      refine oL (lM (a:=.v _) rfl) rfl rfl ?_
      refine oS rfl rfl ?_
      refine oS rfl rfl ?_
      refine oL (LOp.pkT (a:=.v _) rfl (by first | rfl | assumption) rfl) rfl rfl ?_
      refine oN (aN ?_)
      refine AWP.condT rfl ?_
      refine wS (wR ?_)
      refine oL (lA (a:=.v _) rfl) rfl rfl ?_
      refine oN (aN ?_)
      refine wT (aR (bR (aR (aR (bR (aR (?_)))))))
      refine ⟨.inr rfl,oV Tryz.results38 rfl rfl ?_⟩
      exact vb_eq (clB_aux hlt (by unfold auxP; rw [ea,if_neg h0]; simp_all; done))
     ·skip
      refine oL (lF fi81_2 rfl rfl rfl rfl rfl) rfl rfl ?_
      refine oL (lD row3 rfl rfl rfl rfl rfl) rfl rfl ?_
      refine oL (lP rfl (fun _ _=>nofun) (fun _=>rfl)) rfl rfl ?_
      refine oL (lK rfl rfl rfl) rfl rfl ?_
      refine oL (lM (a:=.v _) rfl) rfl rfl ?_
      refine oB 77 rfl (fun hg77=>?_) (fun hg77=>?_)
      ·skip
       refine oS rfl rfl ?_
       refine oS rfl rfl ?_
       refine oL (LOp.pkT (a:=.v _) rfl (by first | rfl | assumption) rfl) rfl rfl ?_
       refine oN (aN ?_)
       refine AWP.condT rfl ?_
       refine wS (wR ?_)
       refine oL (lA (a:=.v _) rfl) rfl rfl ?_
       refine oN (aN ?_)
       refine wT (aR (bR (aR (aR (bR (aR (?_)))))))
       refine ⟨.inr rfl,oV Tryz.results38 rfl rfl ?_⟩
       exact vb_eq (clB_aux hlt (by unfold auxP; rw [ea,if_neg h0]; simp_all; done))
      ·skip
       refine oL (lM (a:=.v _) rfl) rfl rfl ?_
       refine oL (lP rfl (fun _ _=>nofun) (fun _=>rfl)) rfl rfl ?_
       refine oL (lK rfl rfl rfl) rfl rfl ?_
       refine oN (aN ?_)
       refine wC rfl (fun hc80=>?_) (fun hc80=>?_)
       ·skip
        have hax:auxP c l k=false:=by unfold auxP; rw [ea,if_neg h0]; simp_all
        refine wS (wR ?_)
        refine oL (lA (a:=.v _) rfl) rfl rfl ?_
        refine oN (aN ?_)
        refine wT (aR (bR (aR (aR (bR (aR (?_)))))))
        refine ⟨.inr rfl,oV Tryz.results38 rfl rfl ?_⟩
        exact vb_eq (clB_aux hlt hax)
       ·skip
        have hax:auxP c l k=true:=by unfold auxP; rw [ea,if_neg h0]; simp_all
        have hq:=hax
        unfold auxP at hq
        rw [ea,if_neg h0] at hq
        simp only [Bool.and_eq_true,wiB,decide_eq_true_eq,Bool.not_eq_true',decide_eq_false_iff_not,beq_iff_eq] at hq
        have hfle:=fV_le (f:=c.aux[k].of_) (nn:=c.nn) (l:=l) (bsAt_rng k hj)
        have hd1:=Int.ediv_le_self (a:=fV c.aux[k].of_ c.nn l (bsAt c l k)) c.aux[k].by_ (by omega)
        have hd2:=Int.ediv_nonneg (a:=fV c.aux[k].of_ c.nn l (bsAt c l k)) (b:=c.aux[k].by_) (by omega) (by omega)
        refine wK (aN (wR ?_))
        refine oL (lM (a:=.sl _ _ _ _) rfl) rfl rfl ?_
        refine oL (lM (a:=.v _) rfl) rfl rfl ?_
        refine oL (lF fi81_1 rfl rfl rfl rfl rfl) rfl rfl ?_
        refine oL (lD row2 rfl rfl rfl rfl rfl) rfl rfl ?_
        refine oL (LOp.quoI rfl rfl (by omega) (by omega) (by omega)) rfl rfl ?_
        refine oL (lJ rfl rfl (by omega) (by omega)) rfl rfl ?_
        refine oW (LOp.bs Tryz.underlying137 sz2 zr2 rfl rfl rfl rfl) rfl rfl 4 rfl ?_
        refine AOps.gv (LOp.appendA (m:=1) (news:=[.v (.int .i64 _)]) Tryz.underlying137 sz2 zr2 by2 rfl rfl rfl rfl (by rw [fl_len,bsAt_len,Nat.mul_one]) (Src.slB rfl rfl rfl rfl) (by decide) rfl rfl (by omega) (by omega) (by unfold TV; omega)) rfl rfl 4 rfl rfl ?_
        refine oL (lA (a:=.sl _ _ _ _) rfl) rfl rfl ?_
        refine oN (bN (aN (wR ?_)))
        refine oL (lM (a:=.v _) rfl) rfl rfl ?_
        refine oL (lJ rfl rfl (by omega) (by omega)) rfl rfl ?_
        refine oL (lA (a:=.v _) rfl) rfl rfl ?_
        refine oN (aN ?_)
        refine ⟨(c.aux.length - (k+1)),⟨fL [(1,vsA l),(2,.ptr 0 0 0),(5,.sl 1 (k+1) 0 (k+1)),(6,.v (.int .i64 (((k+1):Nat):Int)))],hLz [(0,⟨0,clA c,0,false⟩),(1,⟨(k+1),((bsAt c l (k+1)).map iA).flatten,1,Nat.beq (k+1) 0⟩)],2⟩,by omega,(cO (.cons rfl rfl (.cons rfl rfl (.cons rfl rfl (.cons rfl rfl .nil)))) (.cons rfl rfl rfl (.cons (by first | rfl | exact bb_eq (bs_step0 hlt h0) | exact bb_eq (bs_step1 hlt h0)) rfl (low_fl _ _) .nil))),k+1,rfl,rfl,?_⟩
        refine ⟨by omega,fun j h=>?_⟩
        rcases Nat.lt_succ_iff_lt_or_eq.1 h with h | rfl
        ·exact hj j h
        ·first | exact hax | skip
   ·skip
    have hge:¬ k < c.aux.length:=fun h=>of_decide_eq_false hc29 (Int.ofNat_lt.2 h)
    have hA:allN c.aux.length (auxP c l)=true:=allN_end hk hge hj
    have hkA:k=c.aux.length:=by omega
    subst hkA
    have hAj:=hj
    clear hj hk hge
    refine AWP.exit (aE (aE (bE ?_)))
    refine aN (wS (wS (wR ?_)))
    refine oL (lA (a:=.v _) rfl) rfl rfl ?_
    refine oN (aN (wB ?_))
    refine wL (fun n s=>∃ k2:Nat,n=(c.ints.length - k2)∧s=⟨fL [(1,vsA l),(2,.ptr 0 0 0),(5,.sl 1 c.aux.length 0 c.aux.length),(9,.v (.int .i64 ((k2:Nat):Int)))],hLz [(0,⟨0,clA c,0,false⟩),(1,⟨c.aux.length,((bsAt c l c.aux.length).map iA).flatten,1,Nat.beq c.aux.length 0⟩)],2⟩∧(k2≤c.ints.length∧∀ j,j < k2→intP c l j=true)) (n:=(c.ints.length - 0)) (s1:=⟨fL [(1,vsA l),(2,.ptr 0 0 0),(5,.sl 1 c.aux.length 0 c.aux.length),(9,.v (.int .i64 ((0:Nat):Int)))],hLz [(0,⟨0,clA c,0,false⟩),(1,⟨c.aux.length,((bsAt c l c.aux.length).map iA).flatten,1,Nat.beq c.aux.length 0⟩)],2⟩) (cO (.cons rfl rfl (.cons rfl rfl (.cons rfl rfl (.cons rfl rfl .nil)))) (.cons rfl rfl rfl (.cons rfl rfl (low_fl _ _) .nil))) ⟨0,rfl,rfl,⟨Nat.zero_le _,fun j h=>absurd h (Nat.not_lt_zero j)⟩⟩ ?_
    rintro n s ⟨k2,rfl,rfl,hinv⟩
    obtain ⟨hk,hj⟩:=hinv
    have haux:=hc.aux
    have hints:=hc.ints
    refine wS (wS (wR ?_))
    refine oL (lM (a:=.v _) rfl) rfl rfl ?_
    refine oL (lF fi35_3 rfl rfl rfl rfl rfl) rfl rfl ?_
    refine oL (lD row31 rfl rfl rfl rfl rfl) rfl rfl ?_
    refine oL (lT rfl Tryz.underlying31 rfl) rfl rfl ?_
    refine oL (lP rfl (fun _ _=>nofun) (fun _=>rfl)) rfl rfl ?_
    refine oN (aN ?_)
    refine wC rfl (fun hc93=>?_) (fun hc93=>?_)
    ·skip
     have hlt:k2 < c.ints.length:=Int.ofNat_lt.1 (of_decide_eq_true hc93)
     refine wK (aN (wS (wB (wS (AWP.regD mixed ?_)))))
     refine qL (lF fi35_3 rfl rfl rfl rfl rfl) rfl rfl ?_
     refine qL (lD row31 rfl rfl rfl rfl rfl) rfl rfl ?_
     refine qL (lM (a:=.v _) rfl) rfl rfl ?_
     refine qL (lI Tryz.underlying31 sz84 rfl rfl (by first | assumption | omega)) rfl rfl ?_
     refine qL (LOp.fieldAddrT fi84_0 rfl rfl) rfl rfl ?_
     refine qL (LOp.ldTN row79 rfl rfl) rfl rfl ?_
     refine qL (LOp.ldN row35 rfl rfl rfl rfl rfl) rfl rfl ?_
     refine qL (lM (a:=.tree _ _) rfl) rfl rfl ?_
     refine qL (lM (a:=.sl _ _ _ _) rfl) rfl rfl ?_
     refine qL (LOp.callB [1] bod75 rfl (fun i h h'=>match i,h with | 0,_=>FzP.pure rfl | 1,_=>FzP.pure rfl | 2,_=>FzP.pure rfl | 3,_=>FzP.bounds (List.mem_singleton.2 rfl) rfl (bsAt_len _ _ _)) (form_p c.ints[k2].l c l (bsAt c l c.aux.length) (hc.intc _ (List.getElem_mem _)) hc.nn hl (by rw [bsAt_len]; omega) (bsAt_rng c.aux.length hAj))) rfl rfl ?_
     refine qL (lP rfl (fun _ _=>nofun) (fun _=>rfl)) rfl rfl ?_
     refine SeqC.nil ⟨by kernel_rfl,?_⟩
     refine aN ?_
     refine wC rfl (fun hc106=>?_) (fun hc106=>?_)
     ·skip
      refine wS (wR ?_)
      refine oL (lA (a:=.v _) rfl) rfl rfl ?_
      refine oN (aN ?_)
      refine wT (bR (aR (aR (bR (aR (?_))))))
      refine ⟨.inr rfl,oV Tryz.results38 rfl rfl ?_⟩
      exact vb_eq (clB_int hlt (by simp only [intP,getD_at hlt]; simp_all))
     ·skip
      refine wK (bN (aN (wR ?_)))
      refine oL (lM (a:=.v _) rfl) rfl rfl ?_
      refine oL (lJ rfl rfl (by omega) (by omega)) rfl rfl ?_
      refine oL (lA (a:=.v _) rfl) rfl rfl ?_
      refine oN (aN ?_)
      refine ⟨(c.ints.length - (k2+1)),⟨fL [(1,vsA l),(2,.ptr 0 0 0),(5,.sl 1 c.aux.length 0 c.aux.length),(9,.v (.int .i64 (((k2+1):Nat):Int)))],hLz [(0,⟨0,clA c,0,false⟩),(1,⟨c.aux.length,((bsAt c l c.aux.length).map iA).flatten,1,Nat.beq c.aux.length 0⟩)],2⟩,by omega,(cO (.cons rfl rfl (.cons rfl rfl (.cons rfl rfl (.cons rfl rfl .nil)))) (.cons rfl rfl rfl (.cons rfl rfl (low_fl _ _) .nil))),k2+1,rfl,rfl,?_⟩
      refine ⟨by omega,fun j h=>?_⟩
      rcases Nat.lt_succ_iff_lt_or_eq.1 h with h | rfl
      ·exact hj j h
      ·simp only [intP,getD_at hlt]; simp_all
    ·skip
     have hge:¬ k2 < c.ints.length:=fun h=>of_decide_eq_false hc93 (Int.ofNat_lt.2 h)
     have hB:allN c.ints.length (intP c l)=true:=allN_end hk hge hj
     clear hj hk hge
     refine AWP.exit (aE (aE (bE ?_)))
     refine aN (wS (wS (wR ?_)))
     refine oL (lA (a:=.v _) rfl) rfl rfl ?_
     refine oN (aN (wB ?_))
     refine wL (fun n s=>∃ k3:Nat,n=(c.tests.length - k3)∧s=⟨fL [(1,vsA l),(2,.ptr 0 0 0),(10,.v (.int .i64 ((k3:Nat):Int)))],hLz [(0,⟨0,clA c,0,false⟩)],1⟩∧(k3≤c.tests.length∧∀ j,j < k3→tstP c l j=true)) (n:=(c.tests.length - 0)) (s1:=⟨fL [(1,vsA l),(2,.ptr 0 0 0),(10,.v (.int .i64 ((0:Nat):Int)))],hLz [(0,⟨0,clA c,0,false⟩)],1⟩) (cO (.cons rfl rfl (.cons rfl rfl (.cons rfl rfl .nil))) (.cons rfl rfl rfl .nil)) ⟨0,rfl,rfl,⟨Nat.zero_le _,fun j h=>absurd h (Nat.not_lt_zero j)⟩⟩ ?_
     rintro n s ⟨k3,rfl,rfl,hinv⟩
     obtain ⟨hk,hj⟩:=hinv
     have htests:=hc.tests
     refine wS (wS (wR ?_))
     refine oL (lM (a:=.v _) rfl) rfl rfl ?_
     refine oL (lF fi35_4 rfl rfl rfl rfl rfl) rfl rfl ?_
     refine oL (lD row32 rfl rfl rfl rfl rfl) rfl rfl ?_
     refine oL (lT rfl Tryz.underlying32 rfl) rfl rfl ?_
     refine oL (lP rfl (fun _ _=>nofun) (fun _=>rfl)) rfl rfl ?_
     refine oN (aN ?_)
     refine wC rfl (fun hc111=>?_) (fun hc111=>?_)
     ·skip
      have hlt:k3 < c.tests.length:=Int.ofNat_lt.1 (of_decide_eq_true hc111)
      refine wK (aN (wS (wB (wS (AWP.regD mixed ?_)))))
      refine qL (lF fi35_4 rfl rfl rfl rfl rfl) rfl rfl ?_
      refine qL (lD row32 rfl rfl rfl rfl rfl) rfl rfl ?_
      refine qL (lM (a:=.v _) rfl) rfl rfl ?_
      refine qL (lI Tryz.underlying32 sz52 rfl rfl (by first | assumption | omega)) rfl rfl ?_
      refine qL (LOp.ldTN row52 rfl rfl) rfl rfl ?_
      refine qL (LOp.call bod77 rfl (tes_p c.tests[k3] (hc.tes _ (List.getElem_mem _)))) rfl rfl ?_
      refine qL (lP rfl (fun _ _=>nofun) (fun _=>rfl)) rfl rfl ?_
      refine qL (lM (a:=.v _) rfl) rfl rfl ?_
      refine SeqC.splitB 121 rfl (fun hg121=>?_) (fun hg121=>?_)
      ·skip
       refine qS rfl rfl ?_
       refine qS rfl rfl ?_
       refine qS rfl rfl ?_
       refine qS rfl rfl ?_
       refine qS rfl rfl ?_
       refine qS rfl rfl ?_
       refine qS rfl rfl ?_
       refine qS rfl rfl ?_
       refine qS rfl rfl ?_
       refine qS rfl rfl ?_
       refine qL (LOp.pkT (a:=.v _) rfl (by first | rfl | assumption) rfl) rfl rfl ?_
       refine SeqC.nil ⟨by kernel_rfl,?_⟩
       refine aN ?_
       refine AWP.condT rfl ?_
       refine wS (wR ?_)
       refine oL (lA (a:=.v _) rfl) rfl rfl ?_
       refine oN (aN ?_)
       refine wT (bR (aR (aR (bR (aR (?_))))))
       refine ⟨.inr rfl,oV Tryz.results38 rfl rfl ?_⟩
       exact vb_eq (clB_tst hlt (by simp only [tstP,getD_at hlt]; simp_all))
      ·skip
       refine qL (lF fi35_4 rfl rfl rfl rfl rfl) rfl rfl ?_
       refine qL (lD row32 rfl rfl rfl rfl rfl) rfl rfl ?_
       refine qL (lM (a:=.v _) rfl) rfl rfl ?_
       refine qL (lI Tryz.underlying32 sz52 rfl rfl (by first | assumption | omega)) rfl rfl ?_
       refine qL (LOp.fieldAddrT fi52_0 rfl rfl) rfl rfl ?_
       refine qL (lE row3 rfl rfl) rfl rfl ?_
       refine qL (LOp.ldN row35 rfl rfl rfl rfl rfl) rfl rfl ?_
       refine qL (lM (a:=.tree _ _) rfl) rfl rfl ?_
       refine qL (LOp.call bod74 rfl (txt_p c.tests[k3].v c l hc.nn hl)) rfl rfl ?_
       refine qL (lP rfl (fun _ _=>nofun) (fun _=>rfl)) rfl rfl ?_
       refine qL (lK rfl rfl rfl) rfl rfl ?_
       refine SeqC.nil ⟨by kernel_rfl,?_⟩
       refine aN ?_
       refine wC rfl (fun hc132=>?_) (fun hc132=>?_)
       ·skip
        refine wS (wR ?_)
        refine oL (lA (a:=.v _) rfl) rfl rfl ?_
        refine oN (aN ?_)
        refine wT (bR (aR (aR (bR (aR (?_))))))
        refine ⟨.inr rfl,oV Tryz.results38 rfl rfl ?_⟩
        exact vb_eq (clB_tst hlt (by simp only [tstP,getD_at hlt]; simp_all))
       ·skip
        refine wK (bN (aN (wR ?_)))
        refine oL (lM (a:=.v _) rfl) rfl rfl ?_
        refine oL (lJ rfl rfl (by omega) (by omega)) rfl rfl ?_
        refine oL (lA (a:=.v _) rfl) rfl rfl ?_
        refine oN (aN ?_)
        refine ⟨(c.tests.length - (k3+1)),⟨fL [(1,vsA l),(2,.ptr 0 0 0),(10,.v (.int .i64 (((k3+1):Nat):Int)))],hLz [(0,⟨0,clA c,0,false⟩)],1⟩,by omega,(cO (.cons rfl rfl (.cons rfl rfl (.cons rfl rfl .nil))) (.cons rfl rfl rfl .nil)),k3+1,rfl,rfl,?_⟩
        refine ⟨by omega,fun j h=>?_⟩
        rcases Nat.lt_succ_iff_lt_or_eq.1 h with h | rfl
        ·exact hj j h
        ·simp only [tstP,getD_at hlt]; simp_all
     ·skip
      have hge:¬ k3 < c.tests.length:=fun h=>of_decide_eq_false hc111 (Int.ofNat_lt.2 h)
      refine AWP.exit (aE (aE (bE ?_)))
      refine aN (wS (wR ?_))
      refine oL (lF fi35_5 rfl rfl rfl rfl rfl) rfl rfl ?_
      refine oL (lD row33 rfl rfl rfl rfl rfl) rfl rfl ?_
      refine oL (LOp.ldN row35 rfl rfl rfl rfl rfl) rfl rfl ?_
      refine oL (lM (a:=.tree _ _) rfl) rfl rfl ?_
      refine oL (LOp.call bod78 rfl (pai_p c.same c l hc.same hc.nn hl)) rfl rfl ?_
      refine oL (lM (a:=.v _) rfl) rfl rfl ?_
      refine oB 138 rfl (fun hg138=>?_) (fun hg138=>?_)
      ·skip
       refine oL (lF fi35_6 rfl rfl rfl rfl rfl) rfl rfl ?_
       refine oL (lD row33 rfl rfl rfl rfl rfl) rfl rfl ?_
       refine oL (LOp.ldN row35 rfl rfl rfl rfl rfl) rfl rfl ?_
       refine oL (lM (a:=.tree _ _) rfl) rfl rfl ?_
       refine oL (LOp.call bod78 rfl (pai_p c.diff c l hc.diff hc.nn hl)) rfl rfl ?_
       refine oL (lK rfl rfl rfl) rfl rfl ?_
       refine oL (lA (a:=.v _) rfl) rfl rfl ?_
       refine oN (aN ?_)
       refine wT (?_)
       refine ⟨.inr rfl,oV Tryz.results38 rfl rfl ?_⟩
       refine vb_eq ?_; unfold clB; rw [hn1,hn2,hA,hB,allN_end hk hge hj]; simp_all; done
      ·skip
       refine oS rfl rfl ?_
       refine oS rfl rfl ?_
       refine oS rfl rfl ?_
       refine oS rfl rfl ?_
       refine oS rfl rfl ?_
       refine oL (LOp.pkF (a:=.v _) rfl (by first | rfl | assumption) rfl) rfl rfl ?_
       refine oL (lA (a:=.v _) rfl) rfl rfl ?_
       refine oN (aN ?_)
       refine wT (?_)
       refine ⟨.inr rfl,oV Tryz.results38 rfl rfl ?_⟩
       refine vb_eq ?_; unfold clB; simp_all; done
end Go.Proofs.YtgknefkobpnjaaaGreatDoor
namespace Go.Proofs.YtgknefkobpnjaaaGreatDoor
set_option linter.unusedVariables false
set_option linter.unusedSimpArgs false
open Go.RowKit
def clsP (p:PPred) (j:Nat):Bool:=clB (p.cls.getD j default) p.vars
def badP (p:PPred) (n:Int):Bool:=decide (p.tab < 0)||p.cols != n||decide (n < 1)||decide (n > p.vars.length)||!domB p.vars||decide ((p.cls.length:Int) > 256)
/-- Is a predicate valid? -/
def refB (p:PPred) (n:Int):Bool:=!badP p n&&allN p.cls.length (clsP p)
/-- A predicate that is not great. -/
structure PPred.Ok (p:PPred):Prop where
 vars:p.vars.length≤1000
 cls:p.cls.length≤1000
 each:∀ c∈p.cls,c.Ok
/-- A clause as it may come. -/
structure PCl.Fits (c:PCl):Prop where
 nul:c.nul.length≤140737488355328
 nn:c.nn.length≤140737488355328
 aux:c.aux.length≤140737488355328
 ints:c.ints.length≤140737488355328
 tests:c.tests.length≤140737488355328
 same:c.same.length≤140737488355328
 diff:c.diff.length≤140737488355328
 auxc:∀ a∈c.aux,a.of_.cs.length≤140737488355328
 intc:∀ a∈c.ints,a.l.cs.length≤140737488355328
 tes:∀ a∈c.tests,a.s.size≤140737488355328
def fewN (c:PCl):Nat:=c.nul.length+c.nn.length+c.aux.length+c.ints.length+c.tests.length+c.same.length+c.diff.length
def sumA (c:PCl):Nat→Nat
 | 0=>0
 | j+1=>sumA c j+(c.aux.getD j default).of_.cs.length
def sumI (c:PCl):Nat→Nat
 | 0=>0
 | j+1=>sumI c j+(c.ints.getD j default).l.cs.length
def txtP (c:PCl) (j:Nat):Bool:=!decide (((c.tests.getD j default).s.size:Int) > 40)
/-- Is a clause small enough for the statements? -/
def fewB (c:PCl):Bool:=!decide ((fewN c:Int) > 80)&&allN c.tests.length (txtP c)&&decide (((fewN c+sumA c c.aux.length+sumI c c.ints.length:Nat):Int)≤400)
theorem sumA_le {c:PCl} (hc:c.Fits):∀ k,k≤c.aux.length→sumA c k≤k * 140737488355328
 | 0,_=>Nat.le_refl _
 | k+1,h=>by
  have ih:=sumA_le hc k (by omega)
  have hk:k < c.aux.length:=h
  have h1:=hc.auxc _ (List.getElem_mem hk)
  have h2:sumA c (k+1)=sumA c k+c.aux[k].of_.cs.length:=by show sumA c k+(c.aux.getD k default).of_.cs.length=_; rw [getD_at hk]
  rw [h2,Nat.succ_mul]; omega
theorem sumI_le {c:PCl} (hc:c.Fits):∀ k,k≤c.ints.length→sumI c k≤k * 140737488355328
 | 0,_=>Nat.le_refl _
 | k+1,h=>by
  have ih:=sumI_le hc k (by omega)
  have hk:k < c.ints.length:=h
  have h1:=hc.intc _ (List.getElem_mem hk)
  have h2:sumI c (k+1)=sumI c k+c.ints[k].l.cs.length:=by show sumI c k+(c.ints.getD k default).l.cs.length=_; rw [getD_at hk]
  rw [h2,Nat.succ_mul]; omega
theorem bod37:bodied Tryz.prog 37=true:=by kernel_rfl
theorem bod38:bodied Tryz.prog 38=true:=by kernel_rfl
theorem fi25_0:fieldInfo Tryz.prog 25 0=some (0,1):=by kernel_rfl
theorem fi25_1:fieldInfo Tryz.prog 25 1=some (1,1):=by kernel_rfl
theorem fi25_2:fieldInfo Tryz.prog 25 2=some (2,1):=by kernel_rfl
theorem fi25_3:fieldInfo Tryz.prog 25 3=some (3,1):=by kernel_rfl
theorem row22:rowOf Tryz.prog 22=some none:=by kernel_rfl
theorem row23:rowOf Tryz.prog 23=some none:=by kernel_rfl
theorem sz35:sizeInfo Tryz.prog 35=some 7:=by kernel_rfl
set_option maxRecDepth 100000 in
set_option maxHeartbeats 4000000 in
theorem ref_p (p:PPred) (v:Int) (hp:p.Ok):PCall Tryz.prog 13 [.agg (prA p),.v (.int .i64 v)] (.v (.bool (refB p v))):=by
 refine pB Tryz.func13 rfl Tryz.ntmps13 (Nat.le_of_ble_eq_true rfl) ?_
 refine wS (wR ?_)
 refine oW (LOp.bx rfl) rfl rfl 1 rfl ?_
 refine oL (lA (a:=.v _) rfl) rfl rfl ?_
 refine oN (aN (wS (wS (wR ?_))))
 refine oL (lF fi25_0 rfl rfl rfl rfl rfl) rfl rfl ?_
 refine oL (lD row3 rfl rfl rfl rfl rfl) rfl rfl ?_
 refine oL (lP rfl (fun _ _=>nofun) (fun _=>rfl)) rfl rfl ?_
 refine oL (lM (a:=.v _) rfl) rfl rfl ?_
 refine oB 9 rfl (fun hg9=>?_) (fun hg9=>?_)
 ·skip
  refine oS rfl rfl ?_
  refine oS rfl rfl ?_
  refine oS rfl rfl ?_
  refine oS rfl rfl ?_
  refine oL (LOp.pkT (a:=.v _) rfl (by first | rfl | assumption) rfl) rfl rfl ?_
  refine oL (lM (a:=.v _) rfl) rfl rfl ?_
  refine oS rfl rfl ?_
  refine oS rfl rfl ?_
  refine oL (LOp.pkT (a:=.v _) rfl (by first | rfl | assumption) rfl) rfl rfl ?_
  refine oL (lM (a:=.v _) rfl) rfl rfl ?_
  refine oS rfl rfl ?_
  refine oS rfl rfl ?_
  refine oS rfl rfl ?_
  refine oS rfl rfl ?_
  refine oS rfl rfl ?_
  refine oL (LOp.pkT (a:=.v _) rfl (by first | rfl | assumption) rfl) rfl rfl ?_
  refine oL (lM (a:=.v _) rfl) rfl rfl ?_
  refine oS rfl rfl ?_
  refine oS rfl rfl ?_
  refine oS rfl rfl ?_
  refine oS rfl rfl ?_
  refine oL (LOp.pkT (a:=.v _) rfl (by first | rfl | assumption) rfl) rfl rfl ?_
  refine oL (lM (a:=.v _) rfl) rfl rfl ?_
  refine oS rfl rfl ?_
  refine oS rfl rfl ?_
  refine oS rfl rfl ?_
  refine oS rfl rfl ?_
  refine oL (LOp.pkT (a:=.v _) rfl (by first | rfl | assumption) rfl) rfl rfl ?_
  refine oN (aN ?_)
  refine AWP.condT rfl ?_
  refine wS (wR ?_)
  refine oL (lA (a:=.v _) rfl) rfl rfl ?_
  refine oN (aN ?_)
  refine wT (aR (?_))
  refine ⟨.inr rfl,oV Tryz.results13 rfl rfl ?_⟩
  (refine vb_eq ?_; unfold refB; rw [show badP p v=true by unfold badP; simp_all]; rfl)
 ·skip
  refine oL (lF fi25_1 rfl rfl rfl rfl rfl) rfl rfl ?_
  refine oL (lD row3 rfl rfl rfl rfl rfl) rfl rfl ?_
  refine oL (lM (a:=.v _) rfl) rfl rfl ?_
  refine oL (lP rfl (fun _ _=>nofun) (fun _=>rfl)) rfl rfl ?_
  refine oL (lK rfl rfl rfl) rfl rfl ?_
  refine oL (lM (a:=.v _) rfl) rfl rfl ?_
  refine oB 15 rfl (fun hg15=>?_) (fun hg15=>?_)
  ·skip
   refine oS rfl rfl ?_
   refine oS rfl rfl ?_
   refine oL (LOp.pkT (a:=.v _) rfl (by first | rfl | assumption) rfl) rfl rfl ?_
   refine oL (lM (a:=.v _) rfl) rfl rfl ?_
   refine oS rfl rfl ?_
   refine oS rfl rfl ?_
   refine oS rfl rfl ?_
   refine oS rfl rfl ?_
   refine oS rfl rfl ?_
   refine oL (LOp.pkT (a:=.v _) rfl (by first | rfl | assumption) rfl) rfl rfl ?_
   refine oL (lM (a:=.v _) rfl) rfl rfl ?_
   refine oS rfl rfl ?_
   refine oS rfl rfl ?_
   refine oS rfl rfl ?_
   refine oS rfl rfl ?_
   refine oL (LOp.pkT (a:=.v _) rfl (by first | rfl | assumption) rfl) rfl rfl ?_
   refine oL (lM (a:=.v _) rfl) rfl rfl ?_
   refine oS rfl rfl ?_
   refine oS rfl rfl ?_
   refine oS rfl rfl ?_
   refine oS rfl rfl ?_
   refine oL (LOp.pkT (a:=.v _) rfl (by first | rfl | assumption) rfl) rfl rfl ?_
   refine oN (aN ?_)
   refine AWP.condT rfl ?_
   refine wS (wR ?_)
   refine oL (lA (a:=.v _) rfl) rfl rfl ?_
   refine oN (aN ?_)
   refine wT (aR (?_))
   refine ⟨.inr rfl,oV Tryz.results13 rfl rfl ?_⟩
   (refine vb_eq ?_; unfold refB; rw [show badP p v=true by unfold badP; simp_all]; rfl)
  ·skip
   refine oL (lM (a:=.v _) rfl) rfl rfl ?_
   refine oL (lP rfl (fun _ _=>nofun) (fun _=>rfl)) rfl rfl ?_
   refine oL (lK rfl rfl rfl) rfl rfl ?_
   refine oL (lM (a:=.v _) rfl) rfl rfl ?_
   refine oB 19 rfl (fun hg19=>?_) (fun hg19=>?_)
   ·skip
    refine oS rfl rfl ?_
    refine oS rfl rfl ?_
    refine oS rfl rfl ?_
    refine oS rfl rfl ?_
    refine oS rfl rfl ?_
    refine oL (LOp.pkT (a:=.v _) rfl (by first | rfl | assumption) rfl) rfl rfl ?_
    refine oL (lM (a:=.v _) rfl) rfl rfl ?_
    refine oS rfl rfl ?_
    refine oS rfl rfl ?_
    refine oS rfl rfl ?_
    refine oS rfl rfl ?_
    refine oL (LOp.pkT (a:=.v _) rfl (by first | rfl | assumption) rfl) rfl rfl ?_
    refine oL (lM (a:=.v _) rfl) rfl rfl ?_
    refine oS rfl rfl ?_
    refine oS rfl rfl ?_
    refine oS rfl rfl ?_
    refine oS rfl rfl ?_
    refine oL (LOp.pkT (a:=.v _) rfl (by first | rfl | assumption) rfl) rfl rfl ?_
    refine oN (aN ?_)
    refine AWP.condT rfl ?_
    refine wS (wR ?_)
    refine oL (lA (a:=.v _) rfl) rfl rfl ?_
    refine oN (aN ?_)
    refine wT (aR (?_))
    refine ⟨.inr rfl,oV Tryz.results13 rfl rfl ?_⟩
    (refine vb_eq ?_; unfold refB; rw [show badP p v=true by unfold badP; simp_all]; rfl)
   ·skip
    refine oL (lM (a:=.v _) rfl) rfl rfl ?_
    refine oL (lF fi25_2 rfl rfl rfl rfl rfl) rfl rfl ?_
    refine oL (lD row22 rfl rfl rfl rfl rfl) rfl rfl ?_
    refine oL (lT rfl Tryz.underlying22 rfl) rfl rfl ?_
    refine oL (lP rfl (fun _ _=>nofun) (fun _=>rfl)) rfl rfl ?_
    refine oL (lK rfl rfl rfl) rfl rfl ?_
    refine oL (lM (a:=.v _) rfl) rfl rfl ?_
    refine oB 26 rfl (fun hg26=>?_) (fun hg26=>?_)
    ·skip
     refine oS rfl rfl ?_
     refine oS rfl rfl ?_
     refine oS rfl rfl ?_
     refine oS rfl rfl ?_
     refine oL (LOp.pkT (a:=.v _) rfl (by first | rfl | assumption) rfl) rfl rfl ?_
     refine oL (lM (a:=.v _) rfl) rfl rfl ?_
     refine oS rfl rfl ?_
     refine oS rfl rfl ?_
     refine oS rfl rfl ?_
     refine oS rfl rfl ?_
     refine oL (LOp.pkT (a:=.v _) rfl (by first | rfl | assumption) rfl) rfl rfl ?_
     refine oN (aN ?_)
     refine AWP.condT rfl ?_
     refine wS (wR ?_)
     refine oL (lA (a:=.v _) rfl) rfl rfl ?_
     refine oN (aN ?_)
     refine wT (aR (?_))
     refine ⟨.inr rfl,oV Tryz.results13 rfl rfl ?_⟩
     (refine vb_eq ?_; unfold refB; rw [show badP p v=true by unfold badP; simp_all]; rfl)
    ·skip
     refine oL (lF fi25_2 rfl rfl rfl rfl rfl) rfl rfl ?_
     refine oL (lD row22 rfl rfl rfl rfl rfl) rfl rfl ?_
     refine oL (LOp.call bod37 rfl (dom_p p.vars hp.vars)) rfl rfl ?_
     refine oL (lP rfl (fun _ _=>nofun) (fun _=>rfl)) rfl rfl ?_
     refine oL (lK rfl rfl rfl) rfl rfl ?_
     refine oL (lM (a:=.v _) rfl) rfl rfl ?_
     refine oB 32 rfl (fun hg32=>?_) (fun hg32=>?_)
     ·skip
      refine oS rfl rfl ?_
      refine oS rfl rfl ?_
      refine oS rfl rfl ?_
      refine oS rfl rfl ?_
      refine oL (LOp.pkT (a:=.v _) rfl (by first | rfl | assumption) rfl) rfl rfl ?_
      refine oN (aN ?_)
      refine AWP.condT rfl ?_
      refine wS (wR ?_)
      refine oL (lA (a:=.v _) rfl) rfl rfl ?_
      refine oN (aN ?_)
      refine wT (aR (?_))
      refine ⟨.inr rfl,oV Tryz.results13 rfl rfl ?_⟩
      (refine vb_eq ?_; unfold refB; rw [show badP p v=true by unfold badP; simp_all]; rfl)
     ·skip
      refine oL (lF fi25_3 rfl rfl rfl rfl rfl) rfl rfl ?_
      refine oL (lD row23 rfl rfl rfl rfl rfl) rfl rfl ?_
      refine oL (lT rfl Tryz.underlying23 rfl) rfl rfl ?_
      refine oL (lP rfl (fun _ _=>nofun) (fun _=>rfl)) rfl rfl ?_
      refine oL (lK rfl rfl rfl) rfl rfl ?_
      refine oN (aN ?_)
      refine wC rfl (fun hc37=>?_) (fun hc37=>?_)
      ·skip
       refine wS (wR ?_)
       refine oL (lA (a:=.v _) rfl) rfl rfl ?_
       refine oN (aN ?_)
       refine wT (aR (?_))
       refine ⟨.inr rfl,oV Tryz.results13 rfl rfl ?_⟩
       (refine vb_eq ?_; unfold refB; rw [show badP p v=true by unfold badP; simp_all]; rfl)
      ·skip
       have hbad:badP p v=false:=by unfold badP; simp_all
       refine wK (aN (wS (wS (wR ?_))))
       refine oL (lA (a:=.v _) rfl) rfl rfl ?_
       refine oN (aN (wB ?_))
       refine wL (fun n s=>∃ k:Nat,n=(p.cls.length - k)∧s=⟨fL [(2,.ptr 0 0 0),(5,.v (.int .i64 ((k:Nat):Int)))],hLz [(0,⟨0,prA p,0,false⟩)],1⟩∧(k≤p.cls.length∧∀ j,j < k→clsP p j=true)) (n:=(p.cls.length - 0)) (s1:=⟨fL [(2,.ptr 0 0 0),(5,.v (.int .i64 ((0:Nat):Int)))],hLz [(0,⟨0,prA p,0,false⟩)],1⟩) (cO (.cons rfl rfl (.cons rfl rfl .nil)) (.cons rfl rfl rfl .nil)) ⟨0,rfl,rfl,⟨Nat.zero_le _,fun j h=>absurd h (Nat.not_lt_zero j)⟩⟩ ?_
       rintro n s ⟨k,rfl,rfl,hinv⟩
       obtain ⟨hk,hj⟩:=hinv
       have hcls:=hp.cls
       refine wS (wS (wR ?_))
       refine oL (lM (a:=.v _) rfl) rfl rfl ?_
       refine oL (lF fi25_3 rfl rfl rfl rfl rfl) rfl rfl ?_
       refine oL (lD row23 rfl rfl rfl rfl rfl) rfl rfl ?_
       refine oL (lT rfl Tryz.underlying23 rfl) rfl rfl ?_
       refine oL (lP rfl (fun _ _=>nofun) (fun _=>rfl)) rfl rfl ?_
       refine oN (aN ?_)
       refine wC rfl (fun hc42=>?_) (fun hc42=>?_)
       ·skip
        have hlt:k < p.cls.length:=Int.ofNat_lt.1 (of_decide_eq_true hc42)
        refine wK (aN (wS (wB (wS (AWP.regD mixed ?_)))))
        refine qL (lF fi25_3 rfl rfl rfl rfl rfl) rfl rfl ?_
        refine qL (lD row23 rfl rfl rfl rfl rfl) rfl rfl ?_
        refine qL (lM (a:=.v _) rfl) rfl rfl ?_
        refine qL (lI Tryz.underlying23 sz35 rfl rfl (by first | assumption | omega)) rfl rfl ?_
        refine qL (LOp.ldTN row35 rfl rfl) rfl rfl ?_
        refine qL (lF fi25_2 rfl rfl rfl rfl rfl) rfl rfl ?_
        refine qL (lD row22 rfl rfl rfl rfl rfl) rfl rfl ?_
        refine qL (LOp.call bod38 rfl (cl_p p.cls[k] p.vars (hp.each _ (List.getElem_mem _)) hp.vars)) rfl rfl ?_
        refine qL (lP rfl (fun _ _=>nofun) (fun _=>rfl)) rfl rfl ?_
        refine SeqC.nil ⟨by kernel_rfl,?_⟩
        refine aN ?_
        refine wC rfl (fun hc53=>?_) (fun hc53=>?_)
        ·skip
         refine wS (wR ?_)
         refine oL (lA (a:=.v _) rfl) rfl rfl ?_
         refine oN (aN ?_)
         refine wT (bR (aR (aR (bR (aR (?_))))))
         refine ⟨.inr rfl,oV Tryz.results13 rfl rfl ?_⟩
         (refine vb_eq ?_; unfold refB; rw [hbad,allN_hit hlt (by simp only [clsP,getD_at hlt]; simp_all)]; rfl)
        ·skip
         refine wK (bN (aN (wR ?_)))
         refine oL (lM (a:=.v _) rfl) rfl rfl ?_
         refine oL (lJ rfl rfl (by omega) (by omega)) rfl rfl ?_
         refine oL (lA (a:=.v _) rfl) rfl rfl ?_
         refine oN (aN ?_)
         refine ⟨(p.cls.length - (k+1)),⟨fL [(2,.ptr 0 0 0),(5,.v (.int .i64 (((k+1):Nat):Int)))],hLz [(0,⟨0,prA p,0,false⟩)],1⟩,by omega,(cO (.cons rfl rfl (.cons rfl rfl .nil)) (.cons rfl rfl rfl .nil)),k+1,rfl,rfl,?_⟩
         refine ⟨by omega,fun j h=>?_⟩
         rcases Nat.lt_succ_iff_lt_or_eq.1 h with h | rfl
         ·exact hj j h
         ·simp only [clsP,getD_at hlt]; simp_all
       ·skip
        have hge:¬ k < p.cls.length:=fun h=>of_decide_eq_false hc42 (Int.ofNat_lt.2 h)
        refine AWP.exit (aE (aE (bE ?_)))
        refine aN (wS (wR ?_))
        refine oL (lA (a:=.v _) rfl) rfl rfl ?_
        refine oN (aN ?_)
        refine wT (?_)
        refine ⟨.inr rfl,oV Tryz.results13 rfl rfl ?_⟩
        (refine vb_eq ?_; unfold refB; rw [hbad,allN_end hk hge hj]; rfl)
set_option maxRecDepth 100000 in
set_option maxHeartbeats 4000000 in
theorem few_p (c:PCl) (hc:c.Fits):PCall Tryz.prog 11 [.agg (clA c)] (.v (.bool (fewB c))):=by
 have q1:=hc.nul
 have q2:=hc.nn
 have q3:=hc.aux
 have q4:=hc.ints
 have q5:=hc.tests
 have q6:=hc.same
 have q7:=hc.diff
 refine pB Tryz.func11 rfl Tryz.ntmps11 (Nat.le_of_ble_eq_true rfl) ?_
 refine wS (wR ?_)
 refine oW (LOp.bx rfl) rfl rfl 1 rfl ?_
 refine oL (lA (a:=.v _) rfl) rfl rfl ?_
 refine oN (aN (wS (wR ?_)))
 refine oL (lF fi35_0 rfl rfl rfl rfl rfl) rfl rfl ?_
 refine oL (lD row29 rfl rfl rfl rfl rfl) rfl rfl ?_
 refine oL (lT rfl Tryz.underlying29 rfl) rfl rfl ?_
 refine oL (lF fi35_1 rfl rfl rfl rfl rfl) rfl rfl ?_
 refine oL (lD row29 rfl rfl rfl rfl rfl) rfl rfl ?_
 refine oL (lT rfl Tryz.underlying29 rfl) rfl rfl ?_
 refine oL (lJ rfl rfl (by omega) (by omega)) rfl rfl ?_
 refine oL (lF fi35_2 rfl rfl rfl rfl rfl) rfl rfl ?_
 refine oL (lD row30 rfl rfl rfl rfl rfl) rfl rfl ?_
 refine oL (lT rfl Tryz.underlying30 rfl) rfl rfl ?_
 refine oL (lJ rfl rfl (by omega) (by omega)) rfl rfl ?_
 refine oL (lF fi35_3 rfl rfl rfl rfl rfl) rfl rfl ?_
 refine oL (lD row31 rfl rfl rfl rfl rfl) rfl rfl ?_
 refine oL (lT rfl Tryz.underlying31 rfl) rfl rfl ?_
 refine oL (lJ rfl rfl (by omega) (by omega)) rfl rfl ?_
 refine oL (lF fi35_4 rfl rfl rfl rfl rfl) rfl rfl ?_
 refine oL (lD row32 rfl rfl rfl rfl rfl) rfl rfl ?_
 refine oL (lT rfl Tryz.underlying32 rfl) rfl rfl ?_
 refine oL (lJ rfl rfl (by omega) (by omega)) rfl rfl ?_
 refine oL (lF fi35_5 rfl rfl rfl rfl rfl) rfl rfl ?_
 refine oL (lD row33 rfl rfl rfl rfl rfl) rfl rfl ?_
 refine oL (lT rfl Tryz.underlying33 rfl) rfl rfl ?_
 refine oL (lJ rfl rfl (by omega) (by omega)) rfl rfl ?_
 refine oL (lF fi35_6 rfl rfl rfl rfl rfl) rfl rfl ?_
 refine oL (lD row33 rfl rfl rfl rfl rfl) rfl rfl ?_
 refine oL (lT rfl Tryz.underlying33 rfl) rfl rfl ?_
 refine oL (lJ rfl rfl (by omega) (by omega)) rfl rfl ?_
 refine oL (lA (a:=.v _) rfl) rfl rfl ?_
 refine oN (aN (wS (wS (wR ?_))))
 refine oL (lM (a:=.v _) rfl) rfl rfl ?_
 refine oL (lP rfl (fun _ _=>nofun) (fun _=>rfl)) rfl rfl ?_
 refine oN (aN ?_)
 refine wC rfl (fun hc35=>?_) (fun hc35=>?_)
 ·skip
  refine wS (wR ?_)
  refine oL (lA (a:=.v _) rfl) rfl rfl ?_
  refine oN (aN ?_)
  refine wT (aR (?_))
  refine ⟨.inr rfl,oV Tryz.results11 rfl rfl ?_⟩
  (refine vb_eq ?_; unfold fewB; rw [show decide ((fewN c:Int) > 80)=true by (have:=of_decide_eq_true hc35; unfold fewN; simp; omega)]; rfl)
 ·skip
  have hfew:fewN c≤80:=by have:=of_decide_eq_false hc35; unfold fewN; omega
  refine wK (aN (wS (wS (wR ?_))))
  refine oL (lA (a:=.v _) rfl) rfl rfl ?_
  refine oN (aN (wB ?_))
  refine wL (fun n s=>∃ k:Nat,n=(c.aux.length - k)∧s=⟨fL [(1,.ptr 0 0 0),(3,.v (.int .i64 ((fewN c+sumA c k:Nat):Int))),(4,.v (.int .i64 ((k:Nat):Int)))],hLz [(0,⟨0,clA c,0,false⟩)],1⟩∧(k≤c.aux.length∧∀ j,j < k→(fun _=>true) j=true)) (n:=(c.aux.length - 0)) (s1:=⟨fL [(1,.ptr 0 0 0),(3,.v (.int .i64 ((fewN c+sumA c 0:Nat):Int))),(4,.v (.int .i64 ((0:Nat):Int)))],hLz [(0,⟨0,clA c,0,false⟩)],1⟩) (cO (.cons rfl rfl (.cons (by first | rfl | exact vi_eq (by rw [hs]; omega)) rfl (.cons rfl rfl .nil))) (.cons rfl rfl rfl .nil)) ⟨0,rfl,rfl,⟨Nat.zero_le _,fun j h=>absurd h (Nat.not_lt_zero j)⟩⟩ ?_
  rintro n s ⟨k,rfl,rfl,hinv⟩
  obtain ⟨hk,hj⟩:=hinv
  have hsz:fewN c≤80:=by omega
  have h80:c.nul.length+c.nn.length+c.aux.length+c.ints.length+c.tests.length+c.same.length+c.diff.length≤80:=hsz
  have hsA:=sumA_le hc k hk
  refine wS (wS (wR ?_))
  refine oL (lM (a:=.v _) rfl) rfl rfl ?_
  refine oL (lF fi35_2 rfl rfl rfl rfl rfl) rfl rfl ?_
  refine oL (lD row30 rfl rfl rfl rfl rfl) rfl rfl ?_
  refine oL (lT rfl Tryz.underlying30 rfl) rfl rfl ?_
  refine oL (lP rfl (fun _ _=>nofun) (fun _=>rfl)) rfl rfl ?_
  refine oN (aN ?_)
  refine wC rfl (fun hc40=>?_) (fun hc40=>?_)
  ·skip
   have hlt:k < c.aux.length:=Int.ofNat_lt.1 (of_decide_eq_true hc40)
   have hcl:=hc.auxc _ (List.getElem_mem hlt)
   have hs:sumA c (k+1)=sumA c k+c.aux[k].of_.cs.length:=by show sumA c k+(c.aux.getD k default).of_.cs.length=_; rw [getD_at hlt]
   refine wK (aN (wS (wB (wR ?_))))
   refine oL (lM (a:=.v _) rfl) rfl rfl ?_
   refine oL (lF fi35_2 rfl rfl rfl rfl rfl) rfl rfl ?_
   refine oL (lD row30 rfl rfl rfl rfl rfl) rfl rfl ?_
   refine oL (lM (a:=.v _) rfl) rfl rfl ?_
   refine oL (lI Tryz.underlying30 sz81 rfl rfl (by first | assumption | omega)) rfl rfl ?_
   refine oL (LOp.fieldAddrT fi81_0 rfl rfl) rfl rfl ?_
   refine oL (LOp.fieldAddrT fi79_1 rfl rfl) rfl rfl ?_
   refine oL (lE row77 rfl rfl) rfl rfl ?_
   refine oL (lT rfl Tryz.underlying77 rfl) rfl rfl ?_
   refine oL (lJ rfl rfl (by omega) (by omega)) rfl rfl ?_
   refine oL (lA (a:=.v _) rfl) rfl rfl ?_
   refine oN (bN (aN (wR ?_)))
   refine oL (lM (a:=.v _) rfl) rfl rfl ?_
   refine oL (lJ rfl rfl (by omega) (by omega)) rfl rfl ?_
   refine oL (lA (a:=.v _) rfl) rfl rfl ?_
   refine oN (aN ?_)
   refine ⟨(c.aux.length - (k+1)),⟨fL [(1,.ptr 0 0 0),(3,.v (.int .i64 ((fewN c+sumA c (k+1):Nat):Int))),(4,.v (.int .i64 (((k+1):Nat):Int)))],hLz [(0,⟨0,clA c,0,false⟩)],1⟩,by omega,(cO (.cons rfl rfl (.cons (by first | rfl | exact vi_eq (by rw [hs]; omega)) rfl (.cons rfl rfl .nil))) (.cons rfl rfl rfl .nil)),k+1,rfl,rfl,?_⟩
   refine ⟨by omega,fun j h=>?_⟩
   rcases Nat.lt_succ_iff_lt_or_eq.1 h with h | rfl
   ·exact hj j h
   ·rfl
  ·skip
   have hge:¬ k < c.aux.length:=fun h=>of_decide_eq_false hc40 (Int.ofNat_lt.2 h)
   have hkA:k=c.aux.length:=by omega
   subst hkA
   clear hj hk hge
   refine AWP.exit (aE (aE (bE ?_)))
   refine aN (wS (wS (wR ?_)))
   refine oL (lA (a:=.v _) rfl) rfl rfl ?_
   refine oN (aN (wB ?_))
   refine wL (fun n s=>∃ k2:Nat,n=(c.ints.length - k2)∧s=⟨fL [(1,.ptr 0 0 0),(3,.v (.int .i64 ((fewN c+sumA c c.aux.length+sumI c k2:Nat):Int))),(5,.v (.int .i64 ((k2:Nat):Int)))],hLz [(0,⟨0,clA c,0,false⟩)],1⟩∧(k2≤c.ints.length∧∀ j,j < k2→(fun _=>true) j=true)) (n:=(c.ints.length - 0)) (s1:=⟨fL [(1,.ptr 0 0 0),(3,.v (.int .i64 ((fewN c+sumA c c.aux.length+sumI c 0:Nat):Int))),(5,.v (.int .i64 ((0:Nat):Int)))],hLz [(0,⟨0,clA c,0,false⟩)],1⟩) (cO (.cons rfl rfl (.cons (by first | rfl | exact vi_eq (by rw [hs]; omega)) rfl (.cons rfl rfl .nil))) (.cons rfl rfl rfl .nil)) ⟨0,rfl,rfl,⟨Nat.zero_le _,fun j h=>absurd h (Nat.not_lt_zero j)⟩⟩ ?_
   rintro n s ⟨k2,rfl,rfl,hinv⟩
   obtain ⟨hk,hj⟩:=hinv
   have hsz:fewN c≤80:=by omega
   have h80:c.nul.length+c.nn.length+c.aux.length+c.ints.length+c.tests.length+c.same.length+c.diff.length≤80:=hsz
   have hsI:=sumI_le hc k2 hk
   have hsA:=sumA_le hc c.aux.length (Nat.le_refl _)
   refine wS (wS (wR ?_))
   refine oL (lM (a:=.v _) rfl) rfl rfl ?_
   refine oL (lF fi35_3 rfl rfl rfl rfl rfl) rfl rfl ?_
   refine oL (lD row31 rfl rfl rfl rfl rfl) rfl rfl ?_
   refine oL (lT rfl Tryz.underlying31 rfl) rfl rfl ?_
   refine oL (lP rfl (fun _ _=>nofun) (fun _=>rfl)) rfl rfl ?_
   refine oN (aN ?_)
   refine wC rfl (fun hc57=>?_) (fun hc57=>?_)
   ·skip
    have hlt:k2 < c.ints.length:=Int.ofNat_lt.1 (of_decide_eq_true hc57)
    have hcl:=hc.intc _ (List.getElem_mem hlt)
    have hs:sumI c (k2+1)=sumI c k2+c.ints[k2].l.cs.length:=by show sumI c k2+(c.ints.getD k2 default).l.cs.length=_; rw [getD_at hlt]
    refine wK (aN (wS (wB (wR ?_))))
    refine oL (lM (a:=.v _) rfl) rfl rfl ?_
    refine oL (lF fi35_3 rfl rfl rfl rfl rfl) rfl rfl ?_
    refine oL (lD row31 rfl rfl rfl rfl rfl) rfl rfl ?_
    refine oL (lM (a:=.v _) rfl) rfl rfl ?_
    refine oL (lI Tryz.underlying31 sz84 rfl rfl (by first | assumption | omega)) rfl rfl ?_
    refine oL (LOp.fieldAddrT fi84_0 rfl rfl) rfl rfl ?_
    refine oL (LOp.fieldAddrT fi79_1 rfl rfl) rfl rfl ?_
    refine oL (lE row77 rfl rfl) rfl rfl ?_
    refine oL (lT rfl Tryz.underlying77 rfl) rfl rfl ?_
    refine oL (lJ rfl rfl (by omega) (by omega)) rfl rfl ?_
    refine oL (lA (a:=.v _) rfl) rfl rfl ?_
    refine oN (bN (aN (wR ?_)))
    refine oL (lM (a:=.v _) rfl) rfl rfl ?_
    refine oL (lJ rfl rfl (by omega) (by omega)) rfl rfl ?_
    refine oL (lA (a:=.v _) rfl) rfl rfl ?_
    refine oN (aN ?_)
    refine ⟨(c.ints.length - (k2+1)),⟨fL [(1,.ptr 0 0 0),(3,.v (.int .i64 ((fewN c+sumA c c.aux.length+sumI c (k2+1):Nat):Int))),(5,.v (.int .i64 (((k2+1):Nat):Int)))],hLz [(0,⟨0,clA c,0,false⟩)],1⟩,by omega,(cO (.cons rfl rfl (.cons (by first | rfl | exact vi_eq (by rw [hs]; omega)) rfl (.cons rfl rfl .nil))) (.cons rfl rfl rfl .nil)),k2+1,rfl,rfl,?_⟩
    refine ⟨by omega,fun j h=>?_⟩
    rcases Nat.lt_succ_iff_lt_or_eq.1 h with h | rfl
    ·exact hj j h
    ·rfl
   ·skip
    have hge:¬ k2 < c.ints.length:=fun h=>of_decide_eq_false hc57 (Int.ofNat_lt.2 h)
    have hkA:k2=c.ints.length:=by omega
    subst hkA
    clear hj hk hge
    refine AWP.exit (aE (aE (bE ?_)))
    refine aN (wS (wS (wR ?_)))
    refine oL (lA (a:=.v _) rfl) rfl rfl ?_
    refine oN (aN (wB ?_))
    refine wL (fun n s=>∃ k3:Nat,n=(c.tests.length - k3)∧s=⟨fL [(1,.ptr 0 0 0),(3,.v (.int .i64 ((fewN c+sumA c c.aux.length+sumI c c.ints.length:Nat):Int))),(6,.v (.int .i64 ((k3:Nat):Int)))],hLz [(0,⟨0,clA c,0,false⟩)],1⟩∧(k3≤c.tests.length∧∀ j,j < k3→txtP c j=true)) (n:=(c.tests.length - 0)) (s1:=⟨fL [(1,.ptr 0 0 0),(3,.v (.int .i64 ((fewN c+sumA c c.aux.length+sumI c c.ints.length:Nat):Int))),(6,.v (.int .i64 ((0:Nat):Int)))],hLz [(0,⟨0,clA c,0,false⟩)],1⟩) (cO (.cons rfl rfl (.cons rfl rfl (.cons rfl rfl .nil))) (.cons rfl rfl rfl .nil)) ⟨0,rfl,rfl,⟨Nat.zero_le _,fun j h=>absurd h (Nat.not_lt_zero j)⟩⟩ ?_
    rintro n s ⟨k3,rfl,rfl,hinv⟩
    obtain ⟨hk,hj⟩:=hinv
    have hsz:fewN c≤80:=by omega
    have h80:c.nul.length+c.nn.length+c.aux.length+c.ints.length+c.tests.length+c.same.length+c.diff.length≤80:=hsz
    refine wS (wS (wR ?_))
    refine oL (lM (a:=.v _) rfl) rfl rfl ?_
    refine oL (lF fi35_4 rfl rfl rfl rfl rfl) rfl rfl ?_
    refine oL (lD row32 rfl rfl rfl rfl rfl) rfl rfl ?_
    refine oL (lT rfl Tryz.underlying32 rfl) rfl rfl ?_
    refine oL (lP rfl (fun _ _=>nofun) (fun _=>rfl)) rfl rfl ?_
    refine oN (aN ?_)
    refine wC rfl (fun hc74=>?_) (fun hc74=>?_)
    ·skip
     have hlt:k3 < c.tests.length:=Int.ofNat_lt.1 (of_decide_eq_true hc74)
     refine wK (aN (wS (wB (wS (wR ?_)))))
     refine oL (lF fi35_4 rfl rfl rfl rfl rfl) rfl rfl ?_
     refine oL (lD row32 rfl rfl rfl rfl rfl) rfl rfl ?_
     refine oL (lM (a:=.v _) rfl) rfl rfl ?_
     refine oL (lI Tryz.underlying32 sz52 rfl rfl (by first | assumption | omega)) rfl rfl ?_
     refine oL (LOp.fieldAddrT fi52_3 rfl rfl) rfl rfl ?_
     refine oL (lE row9 rfl rfl) rfl rfl ?_
     refine oL (LOp.lenStr rfl Tryz.underlying9 rfl) rfl rfl ?_
     refine oL (lP rfl (fun _ _=>nofun) (fun _=>rfl)) rfl rfl ?_
     refine oN (aN ?_)
     refine wC rfl (fun hc84=>?_) (fun hc84=>?_)
     ·skip
      refine wS (wR ?_)
      refine oL (lA (a:=.v _) rfl) rfl rfl ?_
      refine oN (aN ?_)
      refine wT (bR (aR (aR (bR (aR (?_))))))
      refine ⟨.inr rfl,oV Tryz.results11 rfl rfl ?_⟩
      (refine vb_eq ?_; unfold fewB; rw [allN_hit hlt (by simp only [txtP,getD_at hlt]; simp_all)]; simp; done)
     ·skip
      refine wK (bN (aN (wR ?_)))
      refine oL (lM (a:=.v _) rfl) rfl rfl ?_
      refine oL (lJ rfl rfl (by omega) (by omega)) rfl rfl ?_
      refine oL (lA (a:=.v _) rfl) rfl rfl ?_
      refine oN (aN ?_)
      refine ⟨(c.tests.length - (k3+1)),⟨fL [(1,.ptr 0 0 0),(3,.v (.int .i64 ((fewN c+sumA c c.aux.length+sumI c c.ints.length:Nat):Int))),(6,.v (.int .i64 (((k3+1):Nat):Int)))],hLz [(0,⟨0,clA c,0,false⟩)],1⟩,by omega,(cO (.cons rfl rfl (.cons rfl rfl (.cons rfl rfl .nil))) (.cons rfl rfl rfl .nil)),k3+1,rfl,rfl,?_⟩
      refine ⟨by omega,fun j h=>?_⟩
      rcases Nat.lt_succ_iff_lt_or_eq.1 h with h | rfl
      ·exact hj j h
      ·simp only [txtP,getD_at hlt]; simp_all
    ·skip
     have hge:¬ k3 < c.tests.length:=fun h=>of_decide_eq_false hc74 (Int.ofNat_lt.2 h)
     refine AWP.exit (aE (aE (bE ?_)))
     refine aN (wS (wR ?_))
     refine oL (lM (a:=.v _) rfl) rfl rfl ?_
     refine oL (lP rfl (fun _ _=>nofun) (fun _=>rfl)) rfl rfl ?_
     refine oL (lA (a:=.v _) rfl) rfl rfl ?_
     refine oN (aN ?_)
     refine wT (?_)
     refine ⟨.inr rfl,oV Tryz.results11 rfl rfl ?_⟩
     (refine vb_eq ?_; unfold fewB; rw [allN_end hk hge hj,show decide ((fewN c:Int) > 80)=false by (simp; omega)]; rfl)
end Go.Proofs.YtgknefkobpnjaaaGreatDoor
namespace Go.Proofs.YtgknefkobpnjaaaGreatDoor
set_option linter.unusedVariables false
set_option linter.unusedSimpArgs false
open Go.RowKit
end Go.Proofs.YtgknefkobpnjaaaGreatDoor
namespace Go.Proofs.YtgknefkobpnjaaaGreatDoor
set_option linter.unusedVariables false
set_option linter.unusedSimpArgs false
open Go.RowKit
/-- The values of a list, read with some blocks taken for immutable ones. -/
inductive FzL (fp:List Nat) (η:Heap):List AV→List AV→Prop where
 | nil:FzL fp η [] []
 | cons {a r:AV} {ls rs:List AV}:FzP fp η a r→FzL fp η ls rs→FzL fp η (a :: ls) (r :: rs)
theorem FzL.at {fp:List Nat} {η:Heap} {ls rs:List AV} (h:FzL fp η ls rs):ls.length=rs.length∧∀ i (h:i < ls.length) (h':i < rs.length),FzP fp η ls[i] rs[i]:=by
 induction h with
 | nil=>exact ⟨rfl,fun i h=>absurd h (by simp)⟩
 | cons h1 _ ih=>
  refine ⟨by simp [ih.1],fun i h h'=>?_⟩
  cases i with
  | zero=>exact h1
  | succ i=>exact ih.2 i (by simpa using h) (by simpa using h')
theorem FzL.pure {fp:List Nat} {η:Heap}:∀ {ls:List AV},pureL ls=true→FzL fp η ls ls
 | [],_=>.nil
 | a :: ls,h=>by
  simp only [pureL,Bool.and_eq_true] at h
  exact .cons (FzP.pure h.1) (FzL.pure h.2)
theorem FzP.clo {fp:List Nat} {η:Heap} {f:FuncId} {cs ds:List AV} (h:FzL fp η cs ds):FzP fp η (.clo f cs) (.clo f ds):=fun C hg hη x hx=>by
 obtain ⟨vs,rfl,h1,h2⟩:=hx.clo_inv
 obtain ⟨hl,hi⟩:=h.at
 exact .clo (by omega) (fun i h h'=>hi i (by omega) h C hg hη _ (h2 i (by omega) h'))
theorem FzP.ptrL {fp:List Nat} {η:Heap} {id ver o w z:Nat} {cs ds:List AV} (hid:id∈fp) (hb:η id=some ⟨w,cs,z,false⟩) (hv:w=ver) (h:FzL fp η cs ds):FzP fp η (.ptr id ver o) (.tp ds o) :=
 FzP.ptr (b:=⟨w,cs,z,false⟩) hid hb hv rfl h.at.1.symm (fun j h1 h2=>h.at.2 j h1 h2)
section
variable {P:Program} {τ:Nat→AV} {η:Heap} {d:Option Tmp} {ty:TypeId} {pos:String} {af:Array Edge} {g:Option (Nat×Bool)}
/-- The call of a closure that is handed blocks of the call's own to look at. -/
theorem LOp.callVB {g0:Operand} {f:FuncId} {caps:List AV} {xs:Array Operand} {ats:Array TypeId} {y:Value} {ys args:List AV} (fp:List Nat) (hb:bodied P f=true) (hg0:aev τ g0=.clo f caps) (hys:xs.toList.map (aev τ)++caps=ys) (hf:FzL fp η ys args) (hc:PCall P f args (.v y)) :
  LOp P ⟨d,.call { callee:=.value g0,args:=xs,argTypes:=ats },ty,pos,af,g⟩ τ η fp [] (.v y):=by
 refine LOp.of_callB hc fun C a hg hxs hη=>?_
 have h0:=hxs g0 (by simp [Op.operands,Call.operands])
 rw [hg0] at h0
 obtain ⟨vs,hv,hl,hi⟩:=h0.clo_inv
 refine ⟨xs.map a.eval++vs,?_,?_⟩
 ·have hlen:=hf.at.1
  subst hys
  refine ⟨by rw [← hlen]; simp [hl],fun i h h'=>?_⟩
  have hlt:i < (xs.toList.map (aev τ)++caps).length:=by rw [hlen]; exact h
  have hF:=(hf.at.2 i hlt h) C hg hη ((xs.map a.eval++vs)[i]) ?_
  ·exact hF.mono (fun b hb=>hb.imp (fun h=>h) Ctx.mineOf_mine) (fun _ _=>rfl)
  ·by_cases hlx:i < xs.size
   ·have e1:(xs.toList.map (aev τ)++caps)[i]=aev τ xs[i]:=by
     rw [List.getElem_append_left (by simpa using hlx)]; simp
    have e2:(xs.map a.eval++vs)[i]=a.eval xs[i]:=by
     rw [Array.getElem_append_left (by simpa using hlx)]; simp
    rw [e1,e2]
    exact hxs _ (by simp [Op.operands,Call.operands])
   ·have e1:(xs.toList.map (aev τ)++caps)[i]=caps[i - xs.size]'(by simp at hlt; omega):=by
     rw [List.getElem_append_right (by simpa using hlx)]; simp
    have e2:(xs.map a.eval++vs)[i]=vs[i - xs.size]'(by simp at h'; omega):=by
     rw [Array.getElem_append_right (by simpa using hlx)]; simp
    rw [e1,e2]
    exact hi _ _ _
 ·have e:(execOp a.eval ⟨d,.call { callee:=.value g0,args:=xs,argTypes:=ats },ty,pos,af,g⟩).run P C.w=(callFunc f (#[]++xs.map a.eval++vs)).run P C.w:=by
   have e0:execOp a.eval ⟨d,.call { callee:=.value g0,args:=xs,argTypes:=ats },ty,pos,af,g⟩=(do let dd ← Deferred.ofValue (a.eval g0) (xs.map a.eval); invoke dd.target dd.args):=rfl
   rw [e0,hv]
   rfl
  rw [e,run_callFunc' hb]
  simp
theorem LOp.mkFn {f:FuncId} {caps:Array Operand} {cs:List AV} (h:caps.toList.map (aev τ)=cs):LOp P ⟨d,.makeFunc (.func f) #[] caps,ty,pos,af,g⟩ τ η [] [] (.clo f cs):=by
 subst h; exact LOp.makeFunc
end
end Go.Proofs.YtgknefkobpnjaaaGreatDoor
namespace Go.Proofs.YtgknefkobpnjaaaGreatDoor
set_option linter.unusedVariables false
set_option linter.unusedSimpArgs false
open Go.RowKit
section
variable {P:Program} {τ:Nat→AV} {η:Heap} {d:Option Tmp} {ty:TypeId} {pos:String} {af:Array Edge} {g:Option (Nat×Bool)}
end
end Go.Proofs.YtgknefkobpnjaaaGreatDoor
