/- Texts of the claim. -/
import Derived.Lib.ConvBytes
import Derived.Lib.MinMax
import Derived.Test.YtfelpgeolclnbaaGreatDoorV1
namespace Go.Proofs.YtfelpgeolclnbaaGreatDoor
set_option linter.unusedVariables false
set_option linter.unusedSimpArgs false
open Go.RowKit
/-- The bounds of the auxiliary variables, one after the other. -/
def bV (c:PCl) (l:List PVar) (bs:List Int) (j:Nat):Int:=if (c.aux.getD j default).by_=0 then 16 else fV (c.aux.getD j default).of_ c.nn l bs / (c.aux.getD j default).by_+1
def bsAt (c:PCl) (l:List PVar):Nat→List Int
 | 0=>[]
 | j+1=>bsAt c l j++[bV c l (bsAt c l j) j]
theorem bsAt_len (c:PCl) (l:List PVar):∀ k,(bsAt c l k).length=k
 | 0=>rfl
 | k+1=>by simp [bsAt,bsAt_len c l k]
def auxP (c:PCl) (l:List PVar) (j:Nat):Bool :=
 if (c.aux.getD j default).by_=0 then !(decide (0 < ((c.aux.getD j default).of_.cs.length:Int))||!((c.aux.getD j default).of_.k==0))&&txtB (c.aux.getD j default).tx c.nn l
 else wiB (c.aux.getD j default).by_ 1 1000&&(c.aux.getD j default).tx==0&&!decide (fV (c.aux.getD j default).of_ c.nn l (bsAt c l j) < 0)
def intP (c:PCl) (l:List PVar) (j:Nat):Bool:=!decide (fV (c.ints.getD j default).l c.nn l (bsAt c l c.aux.length) < 0)
def tstP (c:PCl) (l:List PVar) (j:Nat):Bool:=tesB (c.tests.getD j default)&&txtB (c.tests.getD j default).v c.nn l
/-- Is a clause valid? -/
def clB (c:PCl) (l:List PVar):Bool:=ascB c.nul l.length&&ascB c.nn l.length&&allN c.aux.length (auxP c l)&&allN c.ints.length (intP c l)&&allN c.tests.length (tstP c l)&&(paiB c.same c.nn l&&paiB c.diff c.nn l)
/-- A clause that is not great. -/
structure PCl.Ok (c:PCl):Prop where
 nul:c.nul.length≤1000
 nn:c.nn.length≤1000
 aux:c.aux.length≤1000
 ints:c.ints.length≤1000
 tests:c.tests.length≤1000
 same:c.same.length≤1000
 diff:c.diff.length≤1000
 auxc:∀ a∈c.aux,a.of_.cs.length≤1000
 intc:∀ a∈c.ints,a.l.cs.length≤1000
 tes:∀ a∈c.tests,a.s.size≤1000
theorem fV_le {f:PLin} {nn:List Int} {l:List PVar} {bs:List Int} (hbs:∀ b∈bs,0≤b∧b≤4611686018427387904):fV f nn l bs≤1152921504606846977:=by
 unfold fV
 split
 ·rename_i h
  simp only [Bool.and_eq_true] at h
  exact (fS_rng h.1 hbs (allN_iff.1 h.2) _ (Nat.le_refl _)).2
 ·omega
theorem bsAt_rng {c:PCl} {l:List PVar}:∀ k,(∀ j,j < k→auxP c l j=true)→∀ b∈bsAt c l k,0≤b∧b≤4611686018427387904
 | 0,_,b,hb=>by cases hb
 | k+1,h,b,hb=>by
  have ih:=bsAt_rng k (fun j hj=>h j (by omega))
  rcases List.mem_append.1 hb with hb | hb
  ·exact ih b hb
  ·simp only [List.mem_singleton] at hb
   subst hb
   have h1:=h k (by omega)
   unfold bV
   split
   ·omega
   ·rename_i h0
    unfold auxP at h1
    rw [if_neg h0] at h1
    simp only [Bool.and_eq_true,wiB,decide_eq_true_eq,Bool.not_eq_true',decide_eq_false_iff_not,beq_iff_eq] at h1
    have h2:=fV_le (f:=(c.aux.getD k default).of_) (nn:=c.nn) (l:=l) ih
    have h3:=Int.ediv_le_self (a:=fV (c.aux.getD k default).of_ c.nn l (bsAt c l k)) (c.aux.getD k default).by_ (by omega)
    have h4:=Int.ediv_nonneg (a:=fV (c.aux.getD k default).of_ c.nn l (bsAt c l k)) (b:=(c.aux.getD k default).by_) (by omega) (by omega)
    omega
theorem Src.slB {η:Heap} {id ver w z len:Nat} {cs news:List AV} (hb:η id=some ⟨w,cs,z,false⟩) (hv:w=ver) (hne:Nat.beq len 0=false) (hc:takeFrom 0 news.length cs=some news):Src η [id] (.sl id ver 0 len) len news:=Src.sl hb hv rfl hne hc
theorem low_fl (u:Nat):∀ bs:List Int,lowL u ((bs.map iA).flatten)=true
 | []=>rfl
 | b :: bs=>by
  have:=low_fl u bs
  simpa [iA,lowL,AV.lowB] using this
theorem fl_len:∀ bs:List Int,((bs.map iA).flatten).length=bs.length
 | []=>rfl
 | b :: bs=>by have:=fl_len bs; simp [iA] at this ⊢; omega
theorem bs_step0 {c:PCl} {l:List PVar} {k:Nat} (hlt:k < c.aux.length) (h0:c.aux[k].by_=0):((bsAt c l k).map iA).flatten++[.v (.int .i64 16)]=((bsAt c l (k+1)).map iA).flatten:=by
 have e:bV c l (bsAt c l k) k=16:=by unfold bV; rw [getD_at hlt,if_pos h0]
 show _=((bsAt c l k++[bV c l (bsAt c l k) k]).map iA).flatten
 rw [e]; simp [iA]
theorem bs_step1 {c:PCl} {l:List PVar} {k:Nat} (hlt:k < c.aux.length) (h0:¬ c.aux[k].by_=0):((bsAt c l k).map iA).flatten++[.v (.int .i64 (fV c.aux[k].of_ c.nn l (bsAt c l k) / c.aux[k].by_+1))]=((bsAt c l (k+1)).map iA).flatten:=by
 have e:bV c l (bsAt c l k) k=fV c.aux[k].of_ c.nn l (bsAt c l k) / c.aux[k].by_+1:=by unfold bV; rw [getD_at hlt,if_neg h0]
 show _=((bsAt c l k++[bV c l (bsAt c l k) k]).map iA).flatten
 rw [e]; simp [iA]
theorem bb_eq {w z:Nat} {cs cs':List AV} (h:cs=cs'):some (Blk.mk w cs z false)=some (Blk.mk w cs' z false):=by rw [h]
theorem FzP.bounds {fp:List Nat} {η:Heap} {id k:Nat} {bs:List Int} (hid:id∈fp) (hb:η id=some ⟨k,(bs.map iA).flatten,1,Nat.beq k 0⟩) (hk:bs.length=k):FzP fp η (.sl id k 0 k) (isA bs):=by
 cases k with
 | zero=>
  have h0:bs=[]:=List.eq_nil_of_length_eq_zero hk
  subst h0
  intro C hg hη x hx
  obtain ⟨e,_,_⟩:=hx.slnil_inv ((hη id hid).trans hb) rfl rfl
  subst e
  exact .tree0 (by unfold maxLen; omega)
 | succ k=>exact FzP.slMap (f:=iA) hid hb rfl rfl rfl rfl hk (fun a _=>⟨rfl,rfl⟩)
theorem clB_aux {c:PCl} {l:List PVar} {k:Nat} (hlt:k < c.aux.length) (h:auxP c l k=false):false=clB c l:=by unfold clB; rw [allN_hit hlt h]; simp
theorem clB_int {c:PCl} {l:List PVar} {k:Nat} (hlt:k < c.ints.length) (h:intP c l k=false):false=clB c l:=by unfold clB; rw [allN_hit hlt h]; simp
theorem clB_tst {c:PCl} {l:List PVar} {k:Nat} (hlt:k < c.tests.length) (h:tstP c l k=false):false=clB c l:=by unfold clB; rw [allN_hit hlt h]; simp
theorem bod37:bodied Tryz.prog 37=true:=by kernel_rfl
theorem bod39:bodied Tryz.prog 39=true:=by kernel_rfl
theorem bod41:bodied Tryz.prog 41=true:=by kernel_rfl
theorem bod42:bodied Tryz.prog 42=true:=by kernel_rfl
theorem by2:(Tryz.prog.info? 2).map (·.bytes)=some 8:=by kernel_rfl
theorem fi76_0:fieldInfo Tryz.prog 76 0=some (0,1):=by kernel_rfl
theorem fi76_2:fieldInfo Tryz.prog 76 2=some (2,1):=by kernel_rfl
theorem fi76_3:fieldInfo Tryz.prog 76 3=some (3,1):=by kernel_rfl
theorem fi76_4:fieldInfo Tryz.prog 76 4=some (4,1):=by kernel_rfl
theorem fi76_5:fieldInfo Tryz.prog 76 5=some (5,1):=by kernel_rfl
theorem fi76_6:fieldInfo Tryz.prog 76 6=some (6,1):=by kernel_rfl
theorem fi109_0:fieldInfo Tryz.prog 109 0=some (0,1):=by kernel_rfl
theorem fi107_0:fieldInfo Tryz.prog 107 0=some (0,2):=by kernel_rfl
theorem fi107_1:fieldInfo Tryz.prog 107 1=some (2,1):=by kernel_rfl
theorem fi107_2:fieldInfo Tryz.prog 107 2=some (3,1):=by kernel_rfl
theorem fi100_0:fieldInfo Tryz.prog 100 0=some (0,2):=by kernel_rfl
theorem row71:rowOf Tryz.prog 71=some none:=by kernel_rfl
theorem row72:rowOf Tryz.prog 72=some none:=by kernel_rfl
theorem row73:rowOf Tryz.prog 73=some none:=by kernel_rfl
theorem row74:rowOf Tryz.prog 74=some none:=by kernel_rfl
theorem row109:rowOf Tryz.prog 109=some (some 4):=by kernel_rfl
theorem row98:rowOf Tryz.prog 98=some (some 2):=by kernel_rfl
theorem row107:rowOf Tryz.prog 107=some (some 4):=by kernel_rfl
theorem sz109:sizeInfo Tryz.prog 109=some 4:=by kernel_rfl
theorem sz107:sizeInfo Tryz.prog 107=some 4:=by kernel_rfl
theorem sz100:sizeInfo Tryz.prog 100=some 3:=by kernel_rfl
theorem zr2:zeroOf Tryz.prog 2=some (.int .i64 0):=by kernel_rfl
theorem zr107:zeroOf Tryz.prog 107=some (.agg #[.int .i64 0,.slice none 0 0,.int .i64 0,.int .i64 0]):=by kernel_rfl
set_option maxRecDepth 100000 in
set_option maxHeartbeats 4000000 in
theorem cl_p (c:PCl) (l:List PVar) (hc:c.Ok) (hl:l.length≤1000):PCall Tryz.prog 23 [.agg (clA c),vsA l] (.v (.bool (clB c l))):=by
 refine pB Tryz.func23 rfl Tryz.ntmps23 (Nat.le_of_ble_eq_true rfl) ?_
 refine wS (wR ?_)
 refine oW (LOp.bx rfl) rfl rfl 1 rfl ?_
 refine oL (lA (a:=.v _) rfl) rfl rfl ?_
 refine oN (aN (wS (wS (wR ?_))))
 refine oL (lF fi76_0 rfl rfl rfl rfl rfl) rfl rfl ?_
 refine oL (lD row70 rfl rfl rfl rfl rfl) rfl rfl ?_
 refine oL (lM (a:=.tree _ _) rfl) rfl rfl ?_
 refine oL (lT rfl Tryz.underlying34 rfl) rfl rfl ?_
 refine oL (LOp.call bod37 rfl (asc_p c.nul _ hc.nul)) rfl rfl ?_
 refine oL (lP rfl (fun _ _=>nofun) (fun _=>rfl)) rfl rfl ?_
 refine oL (lM (a:=.v _) rfl) rfl rfl ?_
 refine oB 17 rfl (fun hg17=>?_) (fun hg17=>?_)
 ·skip
  refine oS rfl rfl ?_
  refine oS rfl rfl ?_
  refine oS rfl rfl ?_
  refine oS rfl rfl ?_
  refine oS rfl rfl ?_
  refine oS rfl rfl ?_
  refine oL (LOp.pkT (a:=.v _) rfl (by first | rfl | assumption) rfl) rfl rfl ?_
  refine oN (aN ?_)
  refine AWP.condT rfl ?_
  refine wS (wR ?_)
  refine oL (lA (a:=.v _) rfl) rfl rfl ?_
  refine oN (aN ?_)
  refine wT (aR (?_))
  refine ⟨.inr rfl,oV Tryz.results23 rfl rfl ?_⟩
  refine vb_eq ?_; unfold clB; simp_all; done
 ·skip
  refine oL (lF fi76_1 rfl rfl rfl rfl rfl) rfl rfl ?_
  refine oL (lD row70 rfl rfl rfl rfl rfl) rfl rfl ?_
  refine oL (lM (a:=.tree _ _) rfl) rfl rfl ?_
  refine oL (lT rfl Tryz.underlying34 rfl) rfl rfl ?_
  refine oL (LOp.call bod37 rfl (asc_p c.nn _ hc.nn)) rfl rfl ?_
  refine oL (lP rfl (fun _ _=>nofun) (fun _=>rfl)) rfl rfl ?_
  refine oL (lK rfl rfl rfl) rfl rfl ?_
  refine oN (aN ?_)
  refine wC rfl (fun hc24=>?_) (fun hc24=>?_)
  ·skip
   refine wS (wR ?_)
   refine oL (lA (a:=.v _) rfl) rfl rfl ?_
   refine oN (aN ?_)
   refine wT (aR (?_))
   refine ⟨.inr rfl,oV Tryz.results23 rfl rfl ?_⟩
   refine vb_eq ?_; unfold clB; simp_all; done
  ·skip
   have hn12:ascB c.nul l.length=true∧ascB c.nn l.length=true:=by simp_all
   obtain ⟨hn1,hn2⟩:=hn12
   refine wK (aN (wS (wR ?_)))
   refine oL (lA (a:=.v _) rfl) rfl rfl ?_
   refine oN (aN (wS (wS (wR ?_))))
   refine oL (lA (a:=.v _) rfl) rfl rfl ?_
   refine oN (aN (wB ?_))
   refine AWP.lazyT 5 1 rfl 2 rfl ?_
   refine wL (fun n s=>∃ k:Nat,n=(c.aux.length - k)∧s=⟨fL [(1,vsA l),(2,.ptr 0 0 0),(5,.sl 1 k 0 k),(6,.v (.int .i64 ((k:Nat):Int)))],hLz [(0,⟨0,clA c,0,false⟩),(1,⟨k,((bsAt c l k).map iA).flatten,1,Nat.beq k 0⟩)],2⟩∧(k≤c.aux.length∧∀ j,j < k→auxP c l j=true)) (n:=(c.aux.length - 0)) (s1:=⟨fL [(1,vsA l),(2,.ptr 0 0 0),(5,.sl 1 0 0 0),(6,.v (.int .i64 ((0:Nat):Int)))],hLz [(0,⟨0,clA c,0,false⟩),(1,⟨0,((bsAt c l 0).map iA).flatten,1,Nat.beq 0 0⟩)],2⟩) (cO (.cons rfl rfl (.cons rfl rfl (.cons rfl rfl (.cons rfl rfl .nil)))) (.cons rfl rfl rfl (.cons (by first | rfl | exact bb_eq (bs_step0 hlt h0) | exact bb_eq (bs_step1 hlt h0)) rfl (low_fl _ _) .nil))) ⟨0,rfl,rfl,⟨Nat.zero_le _,fun j h=>absurd h (Nat.not_lt_zero j)⟩⟩ ?_
   rintro n s ⟨k,rfl,rfl,hinv⟩
   obtain ⟨hk,hj⟩:=hinv
   have haux:=hc.aux
   refine wS (wS (wR ?_))
   refine oL (lM (a:=.v _) rfl) rfl rfl ?_
   refine oL (lF fi76_2 rfl rfl rfl rfl rfl) rfl rfl ?_
   refine oL (lD row71 rfl rfl rfl rfl rfl) rfl rfl ?_
   refine oL (lT rfl Tryz.underlying71 rfl) rfl rfl ?_
   refine oL (lP rfl (fun _ _=>nofun) (fun _=>rfl)) rfl rfl ?_
   refine oN (aN ?_)
   refine wC rfl (fun hc29=>?_) (fun hc29=>?_)
   ·skip
    have hlt:k < c.aux.length:=Int.ofNat_lt.1 (of_decide_eq_true hc29)
    have ea:c.aux.getD k default=c.aux[k]:=getD_at hlt
    refine wK (aN (wS (wB (wS (wR ?_)))))
    refine oL (lF fi76_2 rfl rfl rfl rfl rfl) rfl rfl ?_
    refine oL (lD row71 rfl rfl rfl rfl rfl) rfl rfl ?_
    refine oL (lM (a:=.v _) rfl) rfl rfl ?_
    refine oL (lI Tryz.underlying71 sz107 rfl rfl (by first | assumption | omega)) rfl rfl ?_
    refine oL (LOp.ldTN row107 rfl rfl) rfl rfl ?_
    refine oW (LOp.al zr107 rfl) rfl rfl 3 rfl ?_
    refine AOps.wr (LOp.st sz107 rfl rfl rfl rfl rfl rfl rfl rfl) rfl rfl rfl ?_
    refine oN (aN (wS (wS (wR ?_))))
    refine oL (lF fi107_1 rfl rfl rfl rfl rfl) rfl rfl ?_
    refine oL (lD row2 rfl rfl rfl rfl rfl) rfl rfl ?_
    refine oL (lP rfl (fun _ _=>nofun) (fun _=>rfl)) rfl rfl ?_
    refine oN (aN ?_)
    refine wC rfl (fun hc39=>?_) (fun hc39=>?_)
    ·skip
     have h0:c.aux[k].by_=0:=by simpa using hc39
     refine wS (wS (wR ?_))
     refine oL (lF fi107_0 rfl rfl rfl rfl rfl) rfl rfl ?_
     refine oL (lF fi98_1 rfl rfl rfl rfl rfl) rfl rfl ?_
     refine oL (lD row96 rfl rfl rfl rfl rfl) rfl rfl ?_
     refine oL (lT rfl Tryz.underlying96 rfl) rfl rfl ?_
     refine oL (lP rfl (fun _ _=>nofun) (fun _=>rfl)) rfl rfl ?_
     refine oL (lM (a:=.v _) rfl) rfl rfl ?_
     refine oB 45 rfl (fun hg45=>?_) (fun hg45=>?_)
     ·skip
      refine oS rfl rfl ?_
      refine oS rfl rfl ?_
      refine oS rfl rfl ?_
      refine oS rfl rfl ?_
      refine oL (LOp.pkT (a:=.v _) rfl (by first | rfl | assumption) rfl) rfl rfl ?_
      refine oL (lM (a:=.v _) rfl) rfl rfl ?_
      refine oS rfl rfl ?_
      refine oS rfl rfl ?_
      refine oS rfl rfl ?_
      refine oS rfl rfl ?_
      refine oS rfl rfl ?_
      refine oS rfl rfl ?_
      refine oL (LOp.pkT (a:=.v _) rfl (by first | rfl | assumption) rfl) rfl rfl ?_
      refine oN (aN ?_)
      refine AWP.condT rfl ?_
      refine wS (wR ?_)
      refine oL (lA (a:=.v _) rfl) rfl rfl ?_
      refine oN (aN ?_)
      refine wT (aR (aR (bR (aR (aR (bR (aR (?_))))))))
      refine ⟨.inr rfl,oV Tryz.results23 rfl rfl ?_⟩
      exact vb_eq (clB_aux hlt (by unfold auxP; rw [ea,if_pos h0]; simp_all; done))
     ·skip
      refine oL (lF fi107_0 rfl rfl rfl rfl rfl) rfl rfl ?_
      refine oL (lF fi98_0 rfl rfl rfl rfl rfl) rfl rfl ?_
      refine oL (lD row2 rfl rfl rfl rfl rfl) rfl rfl ?_
      refine oL (lP rfl (fun _ _=>nofun) (fun _=>rfl)) rfl rfl ?_
      refine oL (lK rfl rfl rfl) rfl rfl ?_
      refine oL (lM (a:=.v _) rfl) rfl rfl ?_
      refine oB 51 rfl (fun hg51=>?_) (fun hg51=>?_)
      ·skip
       refine oS rfl rfl ?_
       refine oS rfl rfl ?_
       refine oS rfl rfl ?_
       refine oS rfl rfl ?_
       refine oS rfl rfl ?_
       refine oS rfl rfl ?_
       refine oL (LOp.pkT (a:=.v _) rfl (by first | rfl | assumption) rfl) rfl rfl ?_
       refine oN (aN ?_)
       refine AWP.condT rfl ?_
       refine wS (wR ?_)
       refine oL (lA (a:=.v _) rfl) rfl rfl ?_
       refine oN (aN ?_)
       refine wT (aR (aR (bR (aR (aR (bR (aR (?_))))))))
       refine ⟨.inr rfl,oV Tryz.results23 rfl rfl ?_⟩
       exact vb_eq (clB_aux hlt (by unfold auxP; rw [ea,if_pos h0]; simp_all; done))
      ·skip
       refine oL (lF fi107_2 rfl rfl rfl rfl rfl) rfl rfl ?_
       refine oL (lD row3 rfl rfl rfl rfl rfl) rfl rfl ?_
       refine oL (LOp.ldN row76 rfl rfl rfl rfl rfl) rfl rfl ?_
       refine oL (lM (a:=.tree _ _) rfl) rfl rfl ?_
       refine oL (LOp.call bod38 rfl (txt_p c.aux[k].tx c l hc.nn hl)) rfl rfl ?_
       refine oL (lP rfl (fun _ _=>nofun) (fun _=>rfl)) rfl rfl ?_
       refine oL (lK rfl rfl rfl) rfl rfl ?_
       refine oN (aN ?_)
       refine wC rfl (fun hc58=>?_) (fun hc58=>?_)
       ·skip
        have hax:auxP c l k=false:=by unfold auxP; rw [ea,if_pos h0]; simp_all
        refine wS (wR ?_)
        refine oL (lA (a:=.v _) rfl) rfl rfl ?_
        refine oN (aN ?_)
        refine wT (aR (aR (bR (aR (aR (bR (aR (?_))))))))
        refine ⟨.inr rfl,oV Tryz.results23 rfl rfl ?_⟩
        exact vb_eq (clB_aux hlt hax)
       ·skip
        have hax:auxP c l k=true:=by unfold auxP; rw [ea,if_pos h0]; simp_all
        refine wK (aN (wS (wR ?_)))
        refine oL (lM (a:=.sl _ _ _ _) rfl) rfl rfl ?_
        refine oW (LOp.bs Tryz.underlying46 sz2 zr2 rfl rfl rfl rfl) rfl rfl 4 rfl ?_
        refine AOps.gv (LOp.appendA (m:=1) (news:=[.v (.int .i64 _)]) Tryz.underlying46 sz2 zr2 by2 rfl rfl rfl rfl (by rw [fl_len,bsAt_len,Nat.mul_one]) (Src.slB rfl rfl rfl rfl) (by decide) rfl rfl (by omega) (by omega) (by unfold TV; omega)) rfl rfl 4 rfl rfl ?_
        refine oL (lA (a:=.sl _ _ _ _) rfl) rfl rfl ?_
        refine oN (aN ?_)
        refine AWP.exit (aE (bE ?_))
        refine aN (wR ?_)
        refine oL (lM (a:=.v _) rfl) rfl rfl ?_
        refine oL (lJ rfl rfl (by omega) (by omega)) rfl rfl ?_
        refine oL (lA (a:=.v _) rfl) rfl rfl ?_
        refine oN (aN ?_)
        refine ⟨(c.aux.length - (k+1)),⟨fL [(1,vsA l),(2,.ptr 0 0 0),(5,.sl 1 (k+1) 0 (k+1)),(6,.v (.int .i64 (((k+1):Nat):Int)))],hLz [(0,⟨0,clA c,0,false⟩),(1,⟨(k+1),((bsAt c l (k+1)).map iA).flatten,1,Nat.beq (k+1) 0⟩)],2⟩,by omega,(cO (.cons rfl rfl (.cons rfl rfl (.cons rfl rfl (.cons rfl rfl .nil)))) (.cons rfl rfl rfl (.cons (by first | rfl | exact bb_eq (bs_step0 hlt h0) | exact bb_eq (bs_step1 hlt h0)) rfl (low_fl _ _) .nil))),(k+1),rfl,rfl,?_⟩
        refine ⟨by omega,fun j h=>?_⟩
        rcases Nat.lt_succ_iff_lt_or_eq.1 h with h | rfl
        ·exact hj j h
        ·first | exact hax | skip
    ·skip
     have h0:¬ c.aux[k].by_=0:=by simpa using hc39
     refine wK (aN (wS (wR ?_)))
     refine oL (lF fi107_0 rfl rfl rfl rfl rfl) rfl rfl ?_
     refine oL (LOp.ldN row98 rfl rfl rfl rfl rfl) rfl rfl ?_
     refine oL (LOp.ldN row76 rfl rfl rfl rfl rfl) rfl rfl ?_
     refine oL (lM (a:=.tree _ _) rfl) rfl rfl ?_
     refine oL (lM (a:=.sl _ _ _ _) rfl) rfl rfl ?_
     refine oL (LOp.callB [1] bod39 rfl (fun i h h'=>match i,h with | 0,_=>FzP.pure rfl | 1,_=>FzP.pure rfl | 2,_=>FzP.pure rfl | 3,_=>FzP.bounds (List.mem_singleton.2 rfl) rfl (bsAt_len _ _ _)) (form_p c.aux[k].of_ c l (bsAt c l k) (hc.auxc _ (List.getElem_mem _)) hc.nn hl (by rw [bsAt_len]; omega) (bsAt_rng k hj))) rfl rfl ?_
     refine oL (lA (a:=.v _) rfl) rfl rfl ?_
     refine oN (aN (wS (wS (wR ?_))))
     refine oL (lF fi107_1 rfl rfl rfl rfl rfl) rfl rfl ?_
     refine oL (lD row2 rfl rfl rfl rfl rfl) rfl rfl ?_
     refine oL (LOp.call bod40 rfl (wi_p c.aux[k].by_ 1 1000)) rfl rfl ?_
     refine oL (lP rfl (fun _ _=>nofun) (fun _=>rfl)) rfl rfl ?_
     refine oL (lM (a:=.v _) rfl) rfl rfl ?_
     refine oB 72 rfl (fun hg72=>?_) (fun hg72=>?_)
     ·skip
      refine oS rfl rfl ?_
      refine oS rfl rfl ?_
      refine oS rfl rfl ?_
      refine oL (LOp.pkT (a:=.v _) rfl (by first | rfl | assumption) rfl) rfl rfl ?_
      refine oL (lM (a:=.v _) rfl) rfl rfl ?_
      refine oS rfl rfl ?_
      refine oS rfl rfl ?_
      refine oL (LOp.pkT (a:=.v _) rfl (by first | rfl | assumption) rfl) rfl rfl ?_
      refine oN (aN ?_)
      refine AWP.condT rfl ?_
      refine wS (wR ?_)
      refine oL (lA (a:=.v _) rfl) rfl rfl ?_
      refine oN (aN ?_)
      refine wT (aR (bR (aR (aR (bR (aR (?_)))))))
      refine ⟨.inr rfl,oV Tryz.results23 rfl rfl ?_⟩
      exact vb_eq (clB_aux hlt (by unfold auxP; rw [ea,if_neg h0]; simp_all; done))
     ·skip
      refine oL (lF fi107_2 rfl rfl rfl rfl rfl) rfl rfl ?_
      refine oL (lD row3 rfl rfl rfl rfl rfl) rfl rfl ?_
      refine oL (lP rfl (fun _ _=>nofun) (fun _=>rfl)) rfl rfl ?_
      refine oL (lK rfl rfl rfl) rfl rfl ?_
      refine oL (lM (a:=.v _) rfl) rfl rfl ?_
      refine oB 77 rfl (fun hg77=>?_) (fun hg77=>?_)
      ·skip
       refine oS rfl rfl ?_
       refine oS rfl rfl ?_
       refine oL (LOp.pkT (a:=.v _) rfl (by first | rfl | assumption) rfl) rfl rfl ?_
       refine oN (aN ?_)
       refine AWP.condT rfl ?_
       refine wS (wR ?_)
       refine oL (lA (a:=.v _) rfl) rfl rfl ?_
       refine oN (aN ?_)
       refine wT (aR (bR (aR (aR (bR (aR (?_)))))))
       refine ⟨.inr rfl,oV Tryz.results23 rfl rfl ?_⟩
       exact vb_eq (clB_aux hlt (by unfold auxP; rw [ea,if_neg h0]; simp_all; done))
      ·skip
       refine oL (lM (a:=.v _) rfl) rfl rfl ?_
       refine oL (lP rfl (fun _ _=>nofun) (fun _=>rfl)) rfl rfl ?_
       refine oL (lK rfl rfl rfl) rfl rfl ?_
       refine oN (aN ?_)
       refine wC rfl (fun hc80=>?_) (fun hc80=>?_)
       ·skip
        have hax:auxP c l k=false:=by unfold auxP; rw [ea,if_neg h0]; simp_all
        refine wS (wR ?_)
        refine oL (lA (a:=.v _) rfl) rfl rfl ?_
        refine oN (aN ?_)
        refine wT (aR (bR (aR (aR (bR (aR (?_)))))))
        refine ⟨.inr rfl,oV Tryz.results23 rfl rfl ?_⟩
        exact vb_eq (clB_aux hlt hax)
       ·skip
        have hax:auxP c l k=true:=by unfold auxP; rw [ea,if_neg h0]; simp_all
        have hq:=hax
        unfold auxP at hq
        rw [ea,if_neg h0] at hq
        simp only [Bool.and_eq_true,wiB,decide_eq_true_eq,Bool.not_eq_true',decide_eq_false_iff_not,beq_iff_eq] at hq
        have hfle:=fV_le (f:=c.aux[k].of_) (nn:=c.nn) (l:=l) (bsAt_rng k hj)
        have hd1:=Int.ediv_le_self (a:=fV c.aux[k].of_ c.nn l (bsAt c l k)) c.aux[k].by_ (by omega)
        have hd2:=Int.ediv_nonneg (a:=fV c.aux[k].of_ c.nn l (bsAt c l k)) (b:=c.aux[k].by_) (by omega) (by omega)
        refine wK (aN (wR ?_))
        refine oL (lM (a:=.sl _ _ _ _) rfl) rfl rfl ?_
        refine oL (lM (a:=.v _) rfl) rfl rfl ?_
        refine oL (lF fi107_1 rfl rfl rfl rfl rfl) rfl rfl ?_
        refine oL (lD row2 rfl rfl rfl rfl rfl) rfl rfl ?_
        refine oL (LOp.quoI rfl rfl (by omega) (by omega) (by omega)) rfl rfl ?_
        refine oL (lJ rfl rfl (by omega) (by omega)) rfl rfl ?_
        refine oW (LOp.bs Tryz.underlying46 sz2 zr2 rfl rfl rfl rfl) rfl rfl 4 rfl ?_
        refine AOps.gv (LOp.appendA (m:=1) (news:=[.v (.int .i64 _)]) Tryz.underlying46 sz2 zr2 by2 rfl rfl rfl rfl (by rw [fl_len,bsAt_len,Nat.mul_one]) (Src.slB rfl rfl rfl rfl) (by decide) rfl rfl (by omega) (by omega) (by unfold TV; omega)) rfl rfl 4 rfl rfl ?_
        refine oL (lA (a:=.sl _ _ _ _) rfl) rfl rfl ?_
        refine oN (bN (aN (wR ?_)))
        refine oL (lM (a:=.v _) rfl) rfl rfl ?_
        refine oL (lJ rfl rfl (by omega) (by omega)) rfl rfl ?_
        refine oL (lA (a:=.v _) rfl) rfl rfl ?_
        refine oN (aN ?_)
        refine ⟨(c.aux.length - (k+1)),⟨fL [(1,vsA l),(2,.ptr 0 0 0),(5,.sl 1 (k+1) 0 (k+1)),(6,.v (.int .i64 (((k+1):Nat):Int)))],hLz [(0,⟨0,clA c,0,false⟩),(1,⟨(k+1),((bsAt c l (k+1)).map iA).flatten,1,Nat.beq (k+1) 0⟩)],2⟩,by omega,(cO (.cons rfl rfl (.cons rfl rfl (.cons rfl rfl (.cons rfl rfl .nil)))) (.cons rfl rfl rfl (.cons (by first | rfl | exact bb_eq (bs_step0 hlt h0) | exact bb_eq (bs_step1 hlt h0)) rfl (low_fl _ _) .nil))),(k+1),rfl,rfl,?_⟩
        refine ⟨by omega,fun j h=>?_⟩
        rcases Nat.lt_succ_iff_lt_or_eq.1 h with h | rfl
        ·exact hj j h
        ·first | exact hax | skip
   ·skip
    have hge:¬ k < c.aux.length:=fun h=>of_decide_eq_false hc29 (Int.ofNat_lt.2 h)
    have hA:allN c.aux.length (auxP c l)=true:=allN_end hk hge hj
    have hkA:k=c.aux.length:=by omega
    subst hkA
    have hAj:=hj
    clear hj hk hge
    refine AWP.exit (aE (aE (bE ?_)))
    refine aN (wS (wS (wR ?_)))
    refine oL (lA (a:=.v _) rfl) rfl rfl ?_
    refine oN (aN (wB ?_))
    refine wL (fun n s=>∃ k2:Nat,n=(c.ints.length - k2)∧s=⟨fL [(1,vsA l),(2,.ptr 0 0 0),(5,.sl 1 c.aux.length 0 c.aux.length),(9,.v (.int .i64 ((k2:Nat):Int)))],hLz [(0,⟨0,clA c,0,false⟩),(1,⟨c.aux.length,((bsAt c l c.aux.length).map iA).flatten,1,Nat.beq c.aux.length 0⟩)],2⟩∧(k2≤c.ints.length∧∀ j,j < k2→intP c l j=true)) (n:=(c.ints.length - 0)) (s1:=⟨fL [(1,vsA l),(2,.ptr 0 0 0),(5,.sl 1 c.aux.length 0 c.aux.length),(9,.v (.int .i64 ((0:Nat):Int)))],hLz [(0,⟨0,clA c,0,false⟩),(1,⟨c.aux.length,((bsAt c l c.aux.length).map iA).flatten,1,Nat.beq c.aux.length 0⟩)],2⟩) (cO (.cons rfl rfl (.cons rfl rfl (.cons rfl rfl (.cons rfl rfl .nil)))) (.cons rfl rfl rfl (.cons rfl rfl (low_fl _ _) .nil))) ⟨0,rfl,rfl,⟨Nat.zero_le _,fun j h=>absurd h (Nat.not_lt_zero j)⟩⟩ ?_
    rintro n s ⟨k2,rfl,rfl,hinv⟩
    obtain ⟨hk,hj⟩:=hinv
    have haux:=hc.aux
    have hints:=hc.ints
    refine wS (wS (wR ?_))
    refine oL (lM (a:=.v _) rfl) rfl rfl ?_
    refine oL (lF fi76_3 rfl rfl rfl rfl rfl) rfl rfl ?_
    refine oL (lD row72 rfl rfl rfl rfl rfl) rfl rfl ?_
    refine oL (lT rfl Tryz.underlying72 rfl) rfl rfl ?_
    refine oL (lP rfl (fun _ _=>nofun) (fun _=>rfl)) rfl rfl ?_
    refine oN (aN ?_)
    refine wC rfl (fun hc93=>?_) (fun hc93=>?_)
    ·skip
     have hlt:k2 < c.ints.length:=Int.ofNat_lt.1 (of_decide_eq_true hc93)
     refine wK (aN (wS (wB (wS (AWP.regD mixed ?_)))))
     refine qL (lF fi76_3 rfl rfl rfl rfl rfl) rfl rfl ?_
     refine qL (lD row72 rfl rfl rfl rfl rfl) rfl rfl ?_
     refine qL (lM (a:=.v _) rfl) rfl rfl ?_
     refine qL (lI Tryz.underlying72 sz100 rfl rfl (by first | assumption | omega)) rfl rfl ?_
     refine qL (LOp.fieldAddrT fi100_0 rfl rfl) rfl rfl ?_
     refine qL (LOp.ldTN row98 rfl rfl) rfl rfl ?_
     refine qL (LOp.ldN row76 rfl rfl rfl rfl rfl) rfl rfl ?_
     refine qL (lM (a:=.tree _ _) rfl) rfl rfl ?_
     refine qL (lM (a:=.sl _ _ _ _) rfl) rfl rfl ?_
     refine qL (LOp.callB [1] bod39 rfl (fun i h h'=>match i,h with | 0,_=>FzP.pure rfl | 1,_=>FzP.pure rfl | 2,_=>FzP.pure rfl | 3,_=>FzP.bounds (List.mem_singleton.2 rfl) rfl (bsAt_len _ _ _)) (form_p c.ints[k2].l c l (bsAt c l c.aux.length) (hc.intc _ (List.getElem_mem _)) hc.nn hl (by rw [bsAt_len]; omega) (bsAt_rng c.aux.length hAj))) rfl rfl ?_
     refine qL (lP rfl (fun _ _=>nofun) (fun _=>rfl)) rfl rfl ?_
     refine SeqC.nil ⟨by kernel_rfl,?_⟩
     refine aN ?_
     refine wC rfl (fun hc106=>?_) (fun hc106=>?_)
     ·skip
      refine wS (wR ?_)
      refine oL (lA (a:=.v _) rfl) rfl rfl ?_
      refine oN (aN ?_)
      refine wT (bR (aR (aR (bR (aR (?_))))))
      refine ⟨.inr rfl,oV Tryz.results23 rfl rfl ?_⟩
      exact vb_eq (clB_int hlt (by simp only [intP,getD_at hlt]; simp_all))
     ·skip
      refine wK (bN (aN (wR ?_)))
      refine oL (lM (a:=.v _) rfl) rfl rfl ?_
      refine oL (lJ rfl rfl (by omega) (by omega)) rfl rfl ?_
      refine oL (lA (a:=.v _) rfl) rfl rfl ?_
      refine oN (aN ?_)
      refine ⟨(c.ints.length - (k2+1)),⟨fL [(1,vsA l),(2,.ptr 0 0 0),(5,.sl 1 c.aux.length 0 c.aux.length),(9,.v (.int .i64 (((k2+1):Nat):Int)))],hLz [(0,⟨0,clA c,0,false⟩),(1,⟨c.aux.length,((bsAt c l c.aux.length).map iA).flatten,1,Nat.beq c.aux.length 0⟩)],2⟩,by omega,(cO (.cons rfl rfl (.cons rfl rfl (.cons rfl rfl (.cons rfl rfl .nil)))) (.cons rfl rfl rfl (.cons rfl rfl (low_fl _ _) .nil))),(k2+1),rfl,rfl,?_⟩
      refine ⟨by omega,fun j h=>?_⟩
      rcases Nat.lt_succ_iff_lt_or_eq.1 h with h | rfl
      ·exact hj j h
      ·simp only [intP,getD_at hlt]; simp_all
    ·skip
     have hge:¬ k2 < c.ints.length:=fun h=>of_decide_eq_false hc93 (Int.ofNat_lt.2 h)
     have hB:allN c.ints.length (intP c l)=true:=allN_end hk hge hj
     clear hj hk hge
     refine AWP.exit (aE (aE (bE ?_)))
     refine aN (wS (wS (wR ?_)))
     refine oL (lA (a:=.v _) rfl) rfl rfl ?_
     refine oN (aN (wB ?_))
     refine wL (fun n s=>∃ k3:Nat,n=(c.tests.length - k3)∧s=⟨fL [(1,vsA l),(2,.ptr 0 0 0),(10,.v (.int .i64 ((k3:Nat):Int)))],hLz [(0,⟨0,clA c,0,false⟩)],1⟩∧(k3≤c.tests.length∧∀ j,j < k3→tstP c l j=true)) (n:=(c.tests.length - 0)) (s1:=⟨fL [(1,vsA l),(2,.ptr 0 0 0),(10,.v (.int .i64 ((0:Nat):Int)))],hLz [(0,⟨0,clA c,0,false⟩)],1⟩) (cO (.cons rfl rfl (.cons rfl rfl (.cons rfl rfl .nil))) (.cons rfl rfl rfl .nil)) ⟨0,rfl,rfl,⟨Nat.zero_le _,fun j h=>absurd h (Nat.not_lt_zero j)⟩⟩ ?_
     rintro n s ⟨k3,rfl,rfl,hinv⟩
     obtain ⟨hk,hj⟩:=hinv
     have htests:=hc.tests
     refine wS (wS (wR ?_))
     refine oL (lM (a:=.v _) rfl) rfl rfl ?_
     refine oL (lF fi76_4 rfl rfl rfl rfl rfl) rfl rfl ?_
     refine oL (lD row73 rfl rfl rfl rfl rfl) rfl rfl ?_
     refine oL (lT rfl Tryz.underlying73 rfl) rfl rfl ?_
     refine oL (lP rfl (fun _ _=>nofun) (fun _=>rfl)) rfl rfl ?_
     refine oN (aN ?_)
     refine wC rfl (fun hc111=>?_) (fun hc111=>?_)
     ·skip
      have hlt:k3 < c.tests.length:=Int.ofNat_lt.1 (of_decide_eq_true hc111)
      refine wK (aN (wS (wB (wS (AWP.regD mixed ?_)))))
      refine qL (lF fi76_4 rfl rfl rfl rfl rfl) rfl rfl ?_
      refine qL (lD row73 rfl rfl rfl rfl rfl) rfl rfl ?_
      refine qL (lM (a:=.v _) rfl) rfl rfl ?_
      refine qL (lI Tryz.underlying73 sz109 rfl rfl (by first | assumption | omega)) rfl rfl ?_
      refine qL (LOp.ldTN row109 rfl rfl) rfl rfl ?_
      refine qL (LOp.call bod41 rfl (tes_p c.tests[k3] (hc.tes _ (List.getElem_mem _)))) rfl rfl ?_
      refine qL (lP rfl (fun _ _=>nofun) (fun _=>rfl)) rfl rfl ?_
      refine qL (lM (a:=.v _) rfl) rfl rfl ?_
      refine SeqC.splitB 121 rfl (fun hg121=>?_) (fun hg121=>?_)
      ·skip
       refine qS rfl rfl ?_
       refine qS rfl rfl ?_
       refine qS rfl rfl ?_
       refine qS rfl rfl ?_
       refine qS rfl rfl ?_
       refine qS rfl rfl ?_
       refine qS rfl rfl ?_
       refine qS rfl rfl ?_
       refine qS rfl rfl ?_
       refine qS rfl rfl ?_
       refine qL (LOp.pkT (a:=.v _) rfl (by first | rfl | assumption) rfl) rfl rfl ?_
       refine SeqC.nil ⟨by kernel_rfl,?_⟩
       refine aN ?_
       refine AWP.condT rfl ?_
       refine wS (wR ?_)
       refine oL (lA (a:=.v _) rfl) rfl rfl ?_
       refine oN (aN ?_)
       refine wT (bR (aR (aR (bR (aR (?_))))))
       refine ⟨.inr rfl,oV Tryz.results23 rfl rfl ?_⟩
       exact vb_eq (clB_tst hlt (by simp only [tstP,getD_at hlt]; simp_all))
      ·skip
       refine qL (lF fi76_4 rfl rfl rfl rfl rfl) rfl rfl ?_
       refine qL (lD row73 rfl rfl rfl rfl rfl) rfl rfl ?_
       refine qL (lM (a:=.v _) rfl) rfl rfl ?_
       refine qL (lI Tryz.underlying73 sz109 rfl rfl (by first | assumption | omega)) rfl rfl ?_
       refine qL (LOp.fieldAddrT fi109_0 rfl rfl) rfl rfl ?_
       refine qL (lE row3 rfl rfl) rfl rfl ?_
       refine qL (LOp.ldN row76 rfl rfl rfl rfl rfl) rfl rfl ?_
       refine qL (lM (a:=.tree _ _) rfl) rfl rfl ?_
       refine qL (LOp.call bod38 rfl (txt_p c.tests[k3].v c l hc.nn hl)) rfl rfl ?_
       refine qL (lP rfl (fun _ _=>nofun) (fun _=>rfl)) rfl rfl ?_
       refine qL (lK rfl rfl rfl) rfl rfl ?_
       refine SeqC.nil ⟨by kernel_rfl,?_⟩
       refine aN ?_
       refine wC rfl (fun hc132=>?_) (fun hc132=>?_)
       ·skip
        refine wS (wR ?_)
        refine oL (lA (a:=.v _) rfl) rfl rfl ?_
        refine oN (aN ?_)
        refine wT (bR (aR (aR (bR (aR (?_))))))
        refine ⟨.inr rfl,oV Tryz.results23 rfl rfl ?_⟩
        exact vb_eq (clB_tst hlt (by simp only [tstP,getD_at hlt]; simp_all))
       ·skip
        refine wK (bN (aN (wR ?_)))
        refine oL (lM (a:=.v _) rfl) rfl rfl ?_
        refine oL (lJ rfl rfl (by omega) (by omega)) rfl rfl ?_
        refine oL (lA (a:=.v _) rfl) rfl rfl ?_
        refine oN (aN ?_)
        refine ⟨(c.tests.length - (k3+1)),⟨fL [(1,vsA l),(2,.ptr 0 0 0),(10,.v (.int .i64 (((k3+1):Nat):Int)))],hLz [(0,⟨0,clA c,0,false⟩)],1⟩,by omega,(cO (.cons rfl rfl (.cons rfl rfl (.cons rfl rfl .nil))) (.cons rfl rfl rfl .nil)),(k3+1),rfl,rfl,?_⟩
        refine ⟨by omega,fun j h=>?_⟩
        rcases Nat.lt_succ_iff_lt_or_eq.1 h with h | rfl
        ·exact hj j h
        ·simp only [tstP,getD_at hlt]; simp_all
     ·skip
      have hge:¬ k3 < c.tests.length:=fun h=>of_decide_eq_false hc111 (Int.ofNat_lt.2 h)
      refine AWP.exit (aE (aE (bE ?_)))
      refine aN (wS (wR ?_))
      refine oL (lF fi76_5 rfl rfl rfl rfl rfl) rfl rfl ?_
      refine oL (lD row74 rfl rfl rfl rfl rfl) rfl rfl ?_
      refine oL (LOp.ldN row76 rfl rfl rfl rfl rfl) rfl rfl ?_
      refine oL (lM (a:=.tree _ _) rfl) rfl rfl ?_
      refine oL (LOp.call bod42 rfl (pai_p c.same c l hc.same hc.nn hl)) rfl rfl ?_
      refine oL (lM (a:=.v _) rfl) rfl rfl ?_
      refine oB 138 rfl (fun hg138=>?_) (fun hg138=>?_)
      ·skip
       refine oL (lF fi76_6 rfl rfl rfl rfl rfl) rfl rfl ?_
       refine oL (lD row74 rfl rfl rfl rfl rfl) rfl rfl ?_
       refine oL (LOp.ldN row76 rfl rfl rfl rfl rfl) rfl rfl ?_
       refine oL (lM (a:=.tree _ _) rfl) rfl rfl ?_
       refine oL (LOp.call bod42 rfl (pai_p c.diff c l hc.diff hc.nn hl)) rfl rfl ?_
       refine oL (lK rfl rfl rfl) rfl rfl ?_
       refine oL (lA (a:=.v _) rfl) rfl rfl ?_
       refine oN (aN ?_)
       refine wT (?_)
       refine ⟨.inr rfl,oV Tryz.results23 rfl rfl ?_⟩
       refine vb_eq ?_; unfold clB; rw [hn1,hn2,hA,hB,allN_end hk hge hj]; simp_all; done
      ·skip
       refine oS rfl rfl ?_
       refine oS rfl rfl ?_
       refine oS rfl rfl ?_
       refine oS rfl rfl ?_
       refine oS rfl rfl ?_
       refine oL (LOp.pkF (a:=.v _) rfl (by first | rfl | assumption) rfl) rfl rfl ?_
       refine oL (lA (a:=.v _) rfl) rfl rfl ?_
       refine oN (aN ?_)
       refine wT (?_)
       refine ⟨.inr rfl,oV Tryz.results23 rfl rfl ?_⟩
       refine vb_eq ?_; unfold clB; simp_all; done
end Go.Proofs.YtfelpgeolclnbaaGreatDoor
namespace Go.Proofs.YtfelpgeolclnbaaGreatDoor
set_option linter.unusedVariables false
set_option linter.unusedSimpArgs false
open Go.RowKit
def clsP (p:PPred) (j:Nat):Bool:=clB (p.cls.getD j default) p.vars
def badP (p:PPred) (n:Int):Bool:=decide (p.tab < 0)||p.cols != n||decide (n < 1)||decide (n > p.vars.length)||!domB p.vars||decide ((p.cls.length:Int) > 256)
/-- Is a predicate valid? -/
def refB (p:PPred) (n:Int):Bool:=!badP p n&&allN p.cls.length (clsP p)
/-- A predicate that is not great. -/
structure PPred.Ok (p:PPred):Prop where
 vars:p.vars.length≤1000
 cls:p.cls.length≤1000
 each:∀ c∈p.cls,c.Ok
/-- A clause as it may come. -/
structure PCl.Fits (c:PCl):Prop where
 nul:c.nul.length≤140737488355328
 nn:c.nn.length≤140737488355328
 aux:c.aux.length≤140737488355328
 ints:c.ints.length≤140737488355328
 tests:c.tests.length≤140737488355328
 same:c.same.length≤140737488355328
 diff:c.diff.length≤140737488355328
 auxc:∀ a∈c.aux,a.of_.cs.length≤140737488355328
 intc:∀ a∈c.ints,a.l.cs.length≤140737488355328
 tes:∀ a∈c.tests,a.s.size≤140737488355328
def fewN (c:PCl):Nat:=c.nul.length+c.nn.length+c.aux.length+c.ints.length+c.tests.length+c.same.length+c.diff.length
def sumA (c:PCl):Nat→Nat
 | 0=>0
 | j+1=>sumA c j+(c.aux.getD j default).of_.cs.length
def sumI (c:PCl):Nat→Nat
 | 0=>0
 | j+1=>sumI c j+(c.ints.getD j default).l.cs.length
def txtP (c:PCl) (j:Nat):Bool:=!decide (((c.tests.getD j default).s.size:Int) > 40)
/-- Is a clause small enough for the statements? -/
def fewB (c:PCl):Bool:=!decide ((fewN c:Int) > 80)&&allN c.tests.length (txtP c)&&decide (((fewN c+sumA c c.aux.length+sumI c c.ints.length:Nat):Int)≤400)
theorem sumA_le {c:PCl} (hc:c.Fits):∀ k,k≤c.aux.length→sumA c k≤k * 140737488355328
 | 0,_=>Nat.le_refl _
 | k+1,h=>by
  have ih:=sumA_le hc k (by omega)
  have hk:k < c.aux.length:=h
  have h1:=hc.auxc _ (List.getElem_mem hk)
  have h2:sumA c (k+1)=sumA c k+c.aux[k].of_.cs.length:=by show sumA c k+(c.aux.getD k default).of_.cs.length=_; rw [getD_at hk]
  rw [h2,Nat.succ_mul]; omega
theorem sumI_le {c:PCl} (hc:c.Fits):∀ k,k≤c.ints.length→sumI c k≤k * 140737488355328
 | 0,_=>Nat.le_refl _
 | k+1,h=>by
  have ih:=sumI_le hc k (by omega)
  have hk:k < c.ints.length:=h
  have h1:=hc.intc _ (List.getElem_mem hk)
  have h2:sumI c (k+1)=sumI c k+c.ints[k].l.cs.length:=by show sumI c k+(c.ints.getD k default).l.cs.length=_; rw [getD_at hk]
  rw [h2,Nat.succ_mul]; omega
theorem bod22:bodied Tryz.prog 22=true:=by kernel_rfl
theorem bod23:bodied Tryz.prog 23=true:=by kernel_rfl
theorem fi37_0:fieldInfo Tryz.prog 37 0=some (0,1):=by kernel_rfl
theorem fi37_1:fieldInfo Tryz.prog 37 1=some (1,1):=by kernel_rfl
theorem fi37_2:fieldInfo Tryz.prog 37 2=some (2,1):=by kernel_rfl
theorem fi37_3:fieldInfo Tryz.prog 37 3=some (3,1):=by kernel_rfl
theorem row34:rowOf Tryz.prog 34=some none:=by kernel_rfl
theorem row35:rowOf Tryz.prog 35=some none:=by kernel_rfl
theorem sz76:sizeInfo Tryz.prog 76=some 7:=by kernel_rfl
set_option maxRecDepth 100000 in
set_option maxHeartbeats 4000000 in
theorem ref_p (p:PPred) (v:Int) (hp:p.Ok):PCall Tryz.prog 7 [.agg (prA p),.v (.int .i64 v)] (.v (.bool (refB p v))):=by
 refine pB Tryz.func7 rfl Tryz.ntmps7 (Nat.le_of_ble_eq_true rfl) ?_
 refine wS (wR ?_)
 refine oW (LOp.bx rfl) rfl rfl 1 rfl ?_
 refine oL (lA (a:=.v _) rfl) rfl rfl ?_
 refine oN (aN (wS (wS (wR ?_))))
 refine oL (lF fi37_0 rfl rfl rfl rfl rfl) rfl rfl ?_
 refine oL (lD row3 rfl rfl rfl rfl rfl) rfl rfl ?_
 refine oL (lP rfl (fun _ _=>nofun) (fun _=>rfl)) rfl rfl ?_
 refine oL (lM (a:=.v _) rfl) rfl rfl ?_
 refine oB 9 rfl (fun hg9=>?_) (fun hg9=>?_)
 ·skip
  refine oS rfl rfl ?_
  refine oS rfl rfl ?_
  refine oS rfl rfl ?_
  refine oS rfl rfl ?_
  refine oL (LOp.pkT (a:=.v _) rfl (by first | rfl | assumption) rfl) rfl rfl ?_
  refine oL (lM (a:=.v _) rfl) rfl rfl ?_
  refine oS rfl rfl ?_
  refine oS rfl rfl ?_
  refine oL (LOp.pkT (a:=.v _) rfl (by first | rfl | assumption) rfl) rfl rfl ?_
  refine oL (lM (a:=.v _) rfl) rfl rfl ?_
  refine oS rfl rfl ?_
  refine oS rfl rfl ?_
  refine oS rfl rfl ?_
  refine oS rfl rfl ?_
  refine oS rfl rfl ?_
  refine oL (LOp.pkT (a:=.v _) rfl (by first | rfl | assumption) rfl) rfl rfl ?_
  refine oL (lM (a:=.v _) rfl) rfl rfl ?_
  refine oS rfl rfl ?_
  refine oS rfl rfl ?_
  refine oS rfl rfl ?_
  refine oS rfl rfl ?_
  refine oL (LOp.pkT (a:=.v _) rfl (by first | rfl | assumption) rfl) rfl rfl ?_
  refine oL (lM (a:=.v _) rfl) rfl rfl ?_
  refine oS rfl rfl ?_
  refine oS rfl rfl ?_
  refine oS rfl rfl ?_
  refine oS rfl rfl ?_
  refine oL (LOp.pkT (a:=.v _) rfl (by first | rfl | assumption) rfl) rfl rfl ?_
  refine oN (aN ?_)
  refine AWP.condT rfl ?_
  refine wS (wR ?_)
  refine oL (lA (a:=.v _) rfl) rfl rfl ?_
  refine oN (aN ?_)
  refine wT (aR (?_))
  refine ⟨.inr rfl,oV Tryz.results7 rfl rfl ?_⟩
  (refine vb_eq ?_; unfold refB; rw [show badP p v=true by unfold badP; simp_all]; rfl)
 ·skip
  refine oL (lF fi37_1 rfl rfl rfl rfl rfl) rfl rfl ?_
  refine oL (lD row3 rfl rfl rfl rfl rfl) rfl rfl ?_
  refine oL (lM (a:=.v _) rfl) rfl rfl ?_
  refine oL (lP rfl (fun _ _=>nofun) (fun _=>rfl)) rfl rfl ?_
  refine oL (lK rfl rfl rfl) rfl rfl ?_
  refine oL (lM (a:=.v _) rfl) rfl rfl ?_
  refine oB 15 rfl (fun hg15=>?_) (fun hg15=>?_)
  ·skip
   refine oS rfl rfl ?_
   refine oS rfl rfl ?_
   refine oL (LOp.pkT (a:=.v _) rfl (by first | rfl | assumption) rfl) rfl rfl ?_
   refine oL (lM (a:=.v _) rfl) rfl rfl ?_
   refine oS rfl rfl ?_
   refine oS rfl rfl ?_
   refine oS rfl rfl ?_
   refine oS rfl rfl ?_
   refine oS rfl rfl ?_
   refine oL (LOp.pkT (a:=.v _) rfl (by first | rfl | assumption) rfl) rfl rfl ?_
   refine oL (lM (a:=.v _) rfl) rfl rfl ?_
   refine oS rfl rfl ?_
   refine oS rfl rfl ?_
   refine oS rfl rfl ?_
   refine oS rfl rfl ?_
   refine oL (LOp.pkT (a:=.v _) rfl (by first | rfl | assumption) rfl) rfl rfl ?_
   refine oL (lM (a:=.v _) rfl) rfl rfl ?_
   refine oS rfl rfl ?_
   refine oS rfl rfl ?_
   refine oS rfl rfl ?_
   refine oS rfl rfl ?_
   refine oL (LOp.pkT (a:=.v _) rfl (by first | rfl | assumption) rfl) rfl rfl ?_
   refine oN (aN ?_)
   refine AWP.condT rfl ?_
   refine wS (wR ?_)
   refine oL (lA (a:=.v _) rfl) rfl rfl ?_
   refine oN (aN ?_)
   refine wT (aR (?_))
   refine ⟨.inr rfl,oV Tryz.results7 rfl rfl ?_⟩
   (refine vb_eq ?_; unfold refB; rw [show badP p v=true by unfold badP; simp_all]; rfl)
  ·skip
   refine oL (lM (a:=.v _) rfl) rfl rfl ?_
   refine oL (lP rfl (fun _ _=>nofun) (fun _=>rfl)) rfl rfl ?_
   refine oL (lK rfl rfl rfl) rfl rfl ?_
   refine oL (lM (a:=.v _) rfl) rfl rfl ?_
   refine oB 19 rfl (fun hg19=>?_) (fun hg19=>?_)
   ·skip
    refine oS rfl rfl ?_
    refine oS rfl rfl ?_
    refine oS rfl rfl ?_
    refine oS rfl rfl ?_
    refine oS rfl rfl ?_
    refine oL (LOp.pkT (a:=.v _) rfl (by first | rfl | assumption) rfl) rfl rfl ?_
    refine oL (lM (a:=.v _) rfl) rfl rfl ?_
    refine oS rfl rfl ?_
    refine oS rfl rfl ?_
    refine oS rfl rfl ?_
    refine oS rfl rfl ?_
    refine oL (LOp.pkT (a:=.v _) rfl (by first | rfl | assumption) rfl) rfl rfl ?_
    refine oL (lM (a:=.v _) rfl) rfl rfl ?_
    refine oS rfl rfl ?_
    refine oS rfl rfl ?_
    refine oS rfl rfl ?_
    refine oS rfl rfl ?_
    refine oL (LOp.pkT (a:=.v _) rfl (by first | rfl | assumption) rfl) rfl rfl ?_
    refine oN (aN ?_)
    refine AWP.condT rfl ?_
    refine wS (wR ?_)
    refine oL (lA (a:=.v _) rfl) rfl rfl ?_
    refine oN (aN ?_)
    refine wT (aR (?_))
    refine ⟨.inr rfl,oV Tryz.results7 rfl rfl ?_⟩
    (refine vb_eq ?_; unfold refB; rw [show badP p v=true by unfold badP; simp_all]; rfl)
   ·skip
    refine oL (lM (a:=.v _) rfl) rfl rfl ?_
    refine oL (lF fi37_2 rfl rfl rfl rfl rfl) rfl rfl ?_
    refine oL (lD row34 rfl rfl rfl rfl rfl) rfl rfl ?_
    refine oL (lT rfl Tryz.underlying34 rfl) rfl rfl ?_
    refine oL (lP rfl (fun _ _=>nofun) (fun _=>rfl)) rfl rfl ?_
    refine oL (lK rfl rfl rfl) rfl rfl ?_
    refine oL (lM (a:=.v _) rfl) rfl rfl ?_
    refine oB 26 rfl (fun hg26=>?_) (fun hg26=>?_)
    ·skip
     refine oS rfl rfl ?_
     refine oS rfl rfl ?_
     refine oS rfl rfl ?_
     refine oS rfl rfl ?_
     refine oL (LOp.pkT (a:=.v _) rfl (by first | rfl | assumption) rfl) rfl rfl ?_
     refine oL (lM (a:=.v _) rfl) rfl rfl ?_
     refine oS rfl rfl ?_
     refine oS rfl rfl ?_
     refine oS rfl rfl ?_
     refine oS rfl rfl ?_
     refine oL (LOp.pkT (a:=.v _) rfl (by first | rfl | assumption) rfl) rfl rfl ?_
     refine oN (aN ?_)
     refine AWP.condT rfl ?_
     refine wS (wR ?_)
     refine oL (lA (a:=.v _) rfl) rfl rfl ?_
     refine oN (aN ?_)
     refine wT (aR (?_))
     refine ⟨.inr rfl,oV Tryz.results7 rfl rfl ?_⟩
     (refine vb_eq ?_; unfold refB; rw [show badP p v=true by unfold badP; simp_all]; rfl)
    ·skip
     refine oL (lF fi37_2 rfl rfl rfl rfl rfl) rfl rfl ?_
     refine oL (lD row34 rfl rfl rfl rfl rfl) rfl rfl ?_
     refine oL (LOp.call bod22 rfl (dom_p p.vars hp.vars)) rfl rfl ?_
     refine oL (lP rfl (fun _ _=>nofun) (fun _=>rfl)) rfl rfl ?_
     refine oL (lK rfl rfl rfl) rfl rfl ?_
     refine oL (lM (a:=.v _) rfl) rfl rfl ?_
     refine oB 32 rfl (fun hg32=>?_) (fun hg32=>?_)
     ·skip
      refine oS rfl rfl ?_
      refine oS rfl rfl ?_
      refine oS rfl rfl ?_
      refine oS rfl rfl ?_
      refine oL (LOp.pkT (a:=.v _) rfl (by first | rfl | assumption) rfl) rfl rfl ?_
      refine oN (aN ?_)
      refine AWP.condT rfl ?_
      refine wS (wR ?_)
      refine oL (lA (a:=.v _) rfl) rfl rfl ?_
      refine oN (aN ?_)
      refine wT (aR (?_))
      refine ⟨.inr rfl,oV Tryz.results7 rfl rfl ?_⟩
      (refine vb_eq ?_; unfold refB; rw [show badP p v=true by unfold badP; simp_all]; rfl)
     ·skip
      refine oL (lF fi37_3 rfl rfl rfl rfl rfl) rfl rfl ?_
      refine oL (lD row35 rfl rfl rfl rfl rfl) rfl rfl ?_
      refine oL (lT rfl Tryz.underlying35 rfl) rfl rfl ?_
      refine oL (lP rfl (fun _ _=>nofun) (fun _=>rfl)) rfl rfl ?_
      refine oL (lK rfl rfl rfl) rfl rfl ?_
      refine oN (aN ?_)
      refine wC rfl (fun hc37=>?_) (fun hc37=>?_)
      ·skip
       refine wS (wR ?_)
       refine oL (lA (a:=.v _) rfl) rfl rfl ?_
       refine oN (aN ?_)
       refine wT (aR (?_))
       refine ⟨.inr rfl,oV Tryz.results7 rfl rfl ?_⟩
       (refine vb_eq ?_; unfold refB; rw [show badP p v=true by unfold badP; simp_all]; rfl)
      ·skip
       have hbad:badP p v=false:=by unfold badP; simp_all
       refine wK (aN (wS (wS (wR ?_))))
       refine oL (lA (a:=.v _) rfl) rfl rfl ?_
       refine oN (aN (wB ?_))
       refine wL (fun n s=>∃ k:Nat,n=(p.cls.length - k)∧s=⟨fL [(2,.ptr 0 0 0),(5,.v (.int .i64 ((k:Nat):Int)))],hLz [(0,⟨0,prA p,0,false⟩)],1⟩∧(k≤p.cls.length∧∀ j,j < k→clsP p j=true)) (n:=(p.cls.length - 0)) (s1:=⟨fL [(2,.ptr 0 0 0),(5,.v (.int .i64 ((0:Nat):Int)))],hLz [(0,⟨0,prA p,0,false⟩)],1⟩) (cO (.cons rfl rfl (.cons rfl rfl .nil)) (.cons rfl rfl rfl .nil)) ⟨0,rfl,rfl,⟨Nat.zero_le _,fun j h=>absurd h (Nat.not_lt_zero j)⟩⟩ ?_
       rintro n s ⟨k,rfl,rfl,hinv⟩
       obtain ⟨hk,hj⟩:=hinv
       have hcls:=hp.cls
       refine wS (wS (wR ?_))
       refine oL (lM (a:=.v _) rfl) rfl rfl ?_
       refine oL (lF fi37_3 rfl rfl rfl rfl rfl) rfl rfl ?_
       refine oL (lD row35 rfl rfl rfl rfl rfl) rfl rfl ?_
       refine oL (lT rfl Tryz.underlying35 rfl) rfl rfl ?_
       refine oL (lP rfl (fun _ _=>nofun) (fun _=>rfl)) rfl rfl ?_
       refine oN (aN ?_)
       refine wC rfl (fun hc42=>?_) (fun hc42=>?_)
       ·skip
        have hlt:k < p.cls.length:=Int.ofNat_lt.1 (of_decide_eq_true hc42)
        refine wK (aN (wS (wB (wS (AWP.regD mixed ?_)))))
        refine qL (lF fi37_3 rfl rfl rfl rfl rfl) rfl rfl ?_
        refine qL (lD row35 rfl rfl rfl rfl rfl) rfl rfl ?_
        refine qL (lM (a:=.v _) rfl) rfl rfl ?_
        refine qL (lI Tryz.underlying35 sz76 rfl rfl (by first | assumption | omega)) rfl rfl ?_
        refine qL (LOp.ldTN row76 rfl rfl) rfl rfl ?_
        refine qL (lF fi37_2 rfl rfl rfl rfl rfl) rfl rfl ?_
        refine qL (lD row34 rfl rfl rfl rfl rfl) rfl rfl ?_
        refine qL (LOp.call bod23 rfl (cl_p p.cls[k] p.vars (hp.each _ (List.getElem_mem _)) hp.vars)) rfl rfl ?_
        refine qL (lP rfl (fun _ _=>nofun) (fun _=>rfl)) rfl rfl ?_
        refine SeqC.nil ⟨by kernel_rfl,?_⟩
        refine aN ?_
        refine wC rfl (fun hc53=>?_) (fun hc53=>?_)
        ·skip
         refine wS (wR ?_)
         refine oL (lA (a:=.v _) rfl) rfl rfl ?_
         refine oN (aN ?_)
         refine wT (bR (aR (aR (bR (aR (?_))))))
         refine ⟨.inr rfl,oV Tryz.results7 rfl rfl ?_⟩
         (refine vb_eq ?_; unfold refB; rw [hbad,allN_hit hlt (by simp only [clsP,getD_at hlt]; simp_all)]; rfl)
        ·skip
         refine wK (bN (aN (wR ?_)))
         refine oL (lM (a:=.v _) rfl) rfl rfl ?_
         refine oL (lJ rfl rfl (by omega) (by omega)) rfl rfl ?_
         refine oL (lA (a:=.v _) rfl) rfl rfl ?_
         refine oN (aN ?_)
         refine ⟨(p.cls.length - (k+1)),⟨fL [(2,.ptr 0 0 0),(5,.v (.int .i64 (((k+1):Nat):Int)))],hLz [(0,⟨0,prA p,0,false⟩)],1⟩,by omega,(cO (.cons rfl rfl (.cons rfl rfl .nil)) (.cons rfl rfl rfl .nil)),(k+1),rfl,rfl,?_⟩
         refine ⟨by omega,fun j h=>?_⟩
         rcases Nat.lt_succ_iff_lt_or_eq.1 h with h | rfl
         ·exact hj j h
         ·simp only [clsP,getD_at hlt]; simp_all
       ·skip
        have hge:¬ k < p.cls.length:=fun h=>of_decide_eq_false hc42 (Int.ofNat_lt.2 h)
        refine AWP.exit (aE (aE (bE ?_)))
        refine aN (wS (wR ?_))
        refine oL (lA (a:=.v _) rfl) rfl rfl ?_
        refine oN (aN ?_)
        refine wT (?_)
        refine ⟨.inr rfl,oV Tryz.results7 rfl rfl ?_⟩
        (refine vb_eq ?_; unfold refB; rw [hbad,allN_end hk hge hj]; rfl)
set_option maxRecDepth 100000 in
set_option maxHeartbeats 4000000 in
theorem few_p (c:PCl) (hc:c.Fits):PCall Tryz.prog 21 [.agg (clA c)] (.v (.bool (fewB c))):=by
 have q1:=hc.nul
 have q2:=hc.nn
 have q3:=hc.aux
 have q4:=hc.ints
 have q5:=hc.tests
 have q6:=hc.same
 have q7:=hc.diff
 refine pB Tryz.func21 rfl Tryz.ntmps21 (Nat.le_of_ble_eq_true rfl) ?_
 refine wS (wR ?_)
 refine oW (LOp.bx rfl) rfl rfl 1 rfl ?_
 refine oL (lA (a:=.v _) rfl) rfl rfl ?_
 refine oN (aN (wS (wR ?_)))
 refine oL (lF fi76_0 rfl rfl rfl rfl rfl) rfl rfl ?_
 refine oL (lD row70 rfl rfl rfl rfl rfl) rfl rfl ?_
 refine oL (lT rfl Tryz.underlying70 rfl) rfl rfl ?_
 refine oL (lF fi76_1 rfl rfl rfl rfl rfl) rfl rfl ?_
 refine oL (lD row70 rfl rfl rfl rfl rfl) rfl rfl ?_
 refine oL (lT rfl Tryz.underlying70 rfl) rfl rfl ?_
 refine oL (lJ rfl rfl (by omega) (by omega)) rfl rfl ?_
 refine oL (lF fi76_2 rfl rfl rfl rfl rfl) rfl rfl ?_
 refine oL (lD row71 rfl rfl rfl rfl rfl) rfl rfl ?_
 refine oL (lT rfl Tryz.underlying71 rfl) rfl rfl ?_
 refine oL (lJ rfl rfl (by omega) (by omega)) rfl rfl ?_
 refine oL (lF fi76_3 rfl rfl rfl rfl rfl) rfl rfl ?_
 refine oL (lD row72 rfl rfl rfl rfl rfl) rfl rfl ?_
 refine oL (lT rfl Tryz.underlying72 rfl) rfl rfl ?_
 refine oL (lJ rfl rfl (by omega) (by omega)) rfl rfl ?_
 refine oL (lF fi76_4 rfl rfl rfl rfl rfl) rfl rfl ?_
 refine oL (lD row73 rfl rfl rfl rfl rfl) rfl rfl ?_
 refine oL (lT rfl Tryz.underlying73 rfl) rfl rfl ?_
 refine oL (lJ rfl rfl (by omega) (by omega)) rfl rfl ?_
 refine oL (lF fi76_5 rfl rfl rfl rfl rfl) rfl rfl ?_
 refine oL (lD row74 rfl rfl rfl rfl rfl) rfl rfl ?_
 refine oL (lT rfl Tryz.underlying74 rfl) rfl rfl ?_
 refine oL (lJ rfl rfl (by omega) (by omega)) rfl rfl ?_
 refine oL (lF fi76_6 rfl rfl rfl rfl rfl) rfl rfl ?_
 refine oL (lD row74 rfl rfl rfl rfl rfl) rfl rfl ?_
 refine oL (lT rfl Tryz.underlying74 rfl) rfl rfl ?_
 refine oL (lJ rfl rfl (by omega) (by omega)) rfl rfl ?_
 refine oL (lA (a:=.v _) rfl) rfl rfl ?_
 refine oN (aN (wS (wS (wR ?_))))
 refine oL (lM (a:=.v _) rfl) rfl rfl ?_
 refine oL (lP rfl (fun _ _=>nofun) (fun _=>rfl)) rfl rfl ?_
 refine oN (aN ?_)
 refine wC rfl (fun hc35=>?_) (fun hc35=>?_)
 ·skip
  refine wS (wR ?_)
  refine oL (lA (a:=.v _) rfl) rfl rfl ?_
  refine oN (aN ?_)
  refine wT (aR (?_))
  refine ⟨.inr rfl,oV Tryz.results21 rfl rfl ?_⟩
  (refine vb_eq ?_; unfold fewB; rw [show decide ((fewN c:Int) > 80)=true by (have:=of_decide_eq_true hc35; unfold fewN; simp; omega)]; rfl)
 ·skip
  have hfew:fewN c≤80:=by have:=of_decide_eq_false hc35; unfold fewN; omega
  refine wK (aN (wS (wS (wR ?_))))
  refine oL (lA (a:=.v _) rfl) rfl rfl ?_
  refine oN (aN (wB ?_))
  refine wL (fun n s=>∃ k:Nat,n=(c.aux.length - k)∧s=⟨fL [(1,.ptr 0 0 0),(3,.v (.int .i64 ((fewN c+sumA c k:Nat):Int))),(4,.v (.int .i64 ((k:Nat):Int)))],hLz [(0,⟨0,clA c,0,false⟩)],1⟩∧(k≤c.aux.length∧∀ j,j < k→(fun _=>true) j=true)) (n:=(c.aux.length - 0)) (s1:=⟨fL [(1,.ptr 0 0 0),(3,.v (.int .i64 ((fewN c+sumA c 0:Nat):Int))),(4,.v (.int .i64 ((0:Nat):Int)))],hLz [(0,⟨0,clA c,0,false⟩)],1⟩) (cO (.cons rfl rfl (.cons (by first | rfl | exact vi_eq (by rw [hs]; omega)) rfl (.cons rfl rfl .nil))) (.cons rfl rfl rfl .nil)) ⟨0,rfl,rfl,⟨Nat.zero_le _,fun j h=>absurd h (Nat.not_lt_zero j)⟩⟩ ?_
  rintro n s ⟨k,rfl,rfl,hinv⟩
  obtain ⟨hk,hj⟩:=hinv
  have hsz:fewN c≤80:=by omega
  have h80:c.nul.length+c.nn.length+c.aux.length+c.ints.length+c.tests.length+c.same.length+c.diff.length≤80:=hsz
  have hsA:=sumA_le hc k hk
  refine wS (wS (wR ?_))
  refine oL (lM (a:=.v _) rfl) rfl rfl ?_
  refine oL (lF fi76_2 rfl rfl rfl rfl rfl) rfl rfl ?_
  refine oL (lD row71 rfl rfl rfl rfl rfl) rfl rfl ?_
  refine oL (lT rfl Tryz.underlying71 rfl) rfl rfl ?_
  refine oL (lP rfl (fun _ _=>nofun) (fun _=>rfl)) rfl rfl ?_
  refine oN (aN ?_)
  refine wC rfl (fun hc40=>?_) (fun hc40=>?_)
  ·skip
   have hlt:k < c.aux.length:=Int.ofNat_lt.1 (of_decide_eq_true hc40)
   have hcl:=hc.auxc _ (List.getElem_mem hlt)
   have hs:sumA c (k+1)=sumA c k+c.aux[k].of_.cs.length:=by show sumA c k+(c.aux.getD k default).of_.cs.length=_; rw [getD_at hlt]
   refine wK (aN (wS (wB (wR ?_))))
   refine oL (lM (a:=.v _) rfl) rfl rfl ?_
   refine oL (lF fi76_2 rfl rfl rfl rfl rfl) rfl rfl ?_
   refine oL (lD row71 rfl rfl rfl rfl rfl) rfl rfl ?_
   refine oL (lM (a:=.v _) rfl) rfl rfl ?_
   refine oL (lI Tryz.underlying71 sz107 rfl rfl (by first | assumption | omega)) rfl rfl ?_
   refine oL (LOp.fieldAddrT fi107_0 rfl rfl) rfl rfl ?_
   refine oL (LOp.fieldAddrT fi98_1 rfl rfl) rfl rfl ?_
   refine oL (lE row96 rfl rfl) rfl rfl ?_
   refine oL (lT rfl Tryz.underlying96 rfl) rfl rfl ?_
   refine oL (lJ rfl rfl (by omega) (by omega)) rfl rfl ?_
   refine oL (lA (a:=.v _) rfl) rfl rfl ?_
   refine oN (bN (aN (wR ?_)))
   refine oL (lM (a:=.v _) rfl) rfl rfl ?_
   refine oL (lJ rfl rfl (by omega) (by omega)) rfl rfl ?_
   refine oL (lA (a:=.v _) rfl) rfl rfl ?_
   refine oN (aN ?_)
   refine ⟨(c.aux.length - (k+1)),⟨fL [(1,.ptr 0 0 0),(3,.v (.int .i64 ((fewN c+sumA c (k+1):Nat):Int))),(4,.v (.int .i64 (((k+1):Nat):Int)))],hLz [(0,⟨0,clA c,0,false⟩)],1⟩,by omega,(cO (.cons rfl rfl (.cons (by first | rfl | exact vi_eq (by rw [hs]; omega)) rfl (.cons rfl rfl .nil))) (.cons rfl rfl rfl .nil)),(k+1),rfl,rfl,?_⟩
   refine ⟨by omega,fun j h=>?_⟩
   rcases Nat.lt_succ_iff_lt_or_eq.1 h with h | rfl
   ·exact hj j h
   ·rfl
  ·skip
   have hge:¬ k < c.aux.length:=fun h=>of_decide_eq_false hc40 (Int.ofNat_lt.2 h)
   have hkA:k=c.aux.length:=by omega
   subst hkA
   clear hj hk hge
   refine AWP.exit (aE (aE (bE ?_)))
   refine aN (wS (wS (wR ?_)))
   refine oL (lA (a:=.v _) rfl) rfl rfl ?_
   refine oN (aN (wB ?_))
   refine wL (fun n s=>∃ k2:Nat,n=(c.ints.length - k2)∧s=⟨fL [(1,.ptr 0 0 0),(3,.v (.int .i64 ((fewN c+sumA c c.aux.length+sumI c k2:Nat):Int))),(5,.v (.int .i64 ((k2:Nat):Int)))],hLz [(0,⟨0,clA c,0,false⟩)],1⟩∧(k2≤c.ints.length∧∀ j,j < k2→(fun _=>true) j=true)) (n:=(c.ints.length - 0)) (s1:=⟨fL [(1,.ptr 0 0 0),(3,.v (.int .i64 ((fewN c+sumA c c.aux.length+sumI c 0:Nat):Int))),(5,.v (.int .i64 ((0:Nat):Int)))],hLz [(0,⟨0,clA c,0,false⟩)],1⟩) (cO (.cons rfl rfl (.cons (by first | rfl | exact vi_eq (by rw [hs]; omega)) rfl (.cons rfl rfl .nil))) (.cons rfl rfl rfl .nil)) ⟨0,rfl,rfl,⟨Nat.zero_le _,fun j h=>absurd h (Nat.not_lt_zero j)⟩⟩ ?_
   rintro n s ⟨k2,rfl,rfl,hinv⟩
   obtain ⟨hk,hj⟩:=hinv
   have hsz:fewN c≤80:=by omega
   have h80:c.nul.length+c.nn.length+c.aux.length+c.ints.length+c.tests.length+c.same.length+c.diff.length≤80:=hsz
   have hsI:=sumI_le hc k2 hk
   have hsA:=sumA_le hc c.aux.length (Nat.le_refl _)
   refine wS (wS (wR ?_))
   refine oL (lM (a:=.v _) rfl) rfl rfl ?_
   refine oL (lF fi76_3 rfl rfl rfl rfl rfl) rfl rfl ?_
   refine oL (lD row72 rfl rfl rfl rfl rfl) rfl rfl ?_
   refine oL (lT rfl Tryz.underlying72 rfl) rfl rfl ?_
   refine oL (lP rfl (fun _ _=>nofun) (fun _=>rfl)) rfl rfl ?_
   refine oN (aN ?_)
   refine wC rfl (fun hc57=>?_) (fun hc57=>?_)
   ·skip
    have hlt:k2 < c.ints.length:=Int.ofNat_lt.1 (of_decide_eq_true hc57)
    have hcl:=hc.intc _ (List.getElem_mem hlt)
    have hs:sumI c (k2+1)=sumI c k2+c.ints[k2].l.cs.length:=by show sumI c k2+(c.ints.getD k2 default).l.cs.length=_; rw [getD_at hlt]
    refine wK (aN (wS (wB (wR ?_))))
    refine oL (lM (a:=.v _) rfl) rfl rfl ?_
    refine oL (lF fi76_3 rfl rfl rfl rfl rfl) rfl rfl ?_
    refine oL (lD row72 rfl rfl rfl rfl rfl) rfl rfl ?_
    refine oL (lM (a:=.v _) rfl) rfl rfl ?_
    refine oL (lI Tryz.underlying72 sz100 rfl rfl (by first | assumption | omega)) rfl rfl ?_
    refine oL (LOp.fieldAddrT fi100_0 rfl rfl) rfl rfl ?_
    refine oL (LOp.fieldAddrT fi98_1 rfl rfl) rfl rfl ?_
    refine oL (lE row96 rfl rfl) rfl rfl ?_
    refine oL (lT rfl Tryz.underlying96 rfl) rfl rfl ?_
    refine oL (lJ rfl rfl (by omega) (by omega)) rfl rfl ?_
    refine oL (lA (a:=.v _) rfl) rfl rfl ?_
    refine oN (bN (aN (wR ?_)))
    refine oL (lM (a:=.v _) rfl) rfl rfl ?_
    refine oL (lJ rfl rfl (by omega) (by omega)) rfl rfl ?_
    refine oL (lA (a:=.v _) rfl) rfl rfl ?_
    refine oN (aN ?_)
    refine ⟨(c.ints.length - (k2+1)),⟨fL [(1,.ptr 0 0 0),(3,.v (.int .i64 ((fewN c+sumA c c.aux.length+sumI c (k2+1):Nat):Int))),(5,.v (.int .i64 (((k2+1):Nat):Int)))],hLz [(0,⟨0,clA c,0,false⟩)],1⟩,by omega,(cO (.cons rfl rfl (.cons (by first | rfl | exact vi_eq (by rw [hs]; omega)) rfl (.cons rfl rfl .nil))) (.cons rfl rfl rfl .nil)),(k2+1),rfl,rfl,?_⟩
    refine ⟨by omega,fun j h=>?_⟩
    rcases Nat.lt_succ_iff_lt_or_eq.1 h with h | rfl
    ·exact hj j h
    ·rfl
   ·skip
    have hge:¬ k2 < c.ints.length:=fun h=>of_decide_eq_false hc57 (Int.ofNat_lt.2 h)
    have hkA:k2=c.ints.length:=by omega
    subst hkA
    clear hj hk hge
    refine AWP.exit (aE (aE (bE ?_)))
    refine aN (wS (wS (wR ?_)))
    refine oL (lA (a:=.v _) rfl) rfl rfl ?_
    refine oN (aN (wB ?_))
    refine wL (fun n s=>∃ k3:Nat,n=(c.tests.length - k3)∧s=⟨fL [(1,.ptr 0 0 0),(3,.v (.int .i64 ((fewN c+sumA c c.aux.length+sumI c c.ints.length:Nat):Int))),(6,.v (.int .i64 ((k3:Nat):Int)))],hLz [(0,⟨0,clA c,0,false⟩)],1⟩∧(k3≤c.tests.length∧∀ j,j < k3→txtP c j=true)) (n:=(c.tests.length - 0)) (s1:=⟨fL [(1,.ptr 0 0 0),(3,.v (.int .i64 ((fewN c+sumA c c.aux.length+sumI c c.ints.length:Nat):Int))),(6,.v (.int .i64 ((0:Nat):Int)))],hLz [(0,⟨0,clA c,0,false⟩)],1⟩) (cO (.cons rfl rfl (.cons rfl rfl (.cons rfl rfl .nil))) (.cons rfl rfl rfl .nil)) ⟨0,rfl,rfl,⟨Nat.zero_le _,fun j h=>absurd h (Nat.not_lt_zero j)⟩⟩ ?_
    rintro n s ⟨k3,rfl,rfl,hinv⟩
    obtain ⟨hk,hj⟩:=hinv
    have hsz:fewN c≤80:=by omega
    have h80:c.nul.length+c.nn.length+c.aux.length+c.ints.length+c.tests.length+c.same.length+c.diff.length≤80:=hsz
    refine wS (wS (wR ?_))
    refine oL (lM (a:=.v _) rfl) rfl rfl ?_
    refine oL (lF fi76_4 rfl rfl rfl rfl rfl) rfl rfl ?_
    refine oL (lD row73 rfl rfl rfl rfl rfl) rfl rfl ?_
    refine oL (lT rfl Tryz.underlying73 rfl) rfl rfl ?_
    refine oL (lP rfl (fun _ _=>nofun) (fun _=>rfl)) rfl rfl ?_
    refine oN (aN ?_)
    refine wC rfl (fun hc74=>?_) (fun hc74=>?_)
    ·skip
     have hlt:k3 < c.tests.length:=Int.ofNat_lt.1 (of_decide_eq_true hc74)
     refine wK (aN (wS (wB (wS (wR ?_)))))
     refine oL (lF fi76_4 rfl rfl rfl rfl rfl) rfl rfl ?_
     refine oL (lD row73 rfl rfl rfl rfl rfl) rfl rfl ?_
     refine oL (lM (a:=.v _) rfl) rfl rfl ?_
     refine oL (lI Tryz.underlying73 sz109 rfl rfl (by first | assumption | omega)) rfl rfl ?_
     refine oL (LOp.fieldAddrT fi109_3 rfl rfl) rfl rfl ?_
     refine oL (lE row9 rfl rfl) rfl rfl ?_
     refine oL (LOp.lenStr rfl Tryz.underlying9 rfl) rfl rfl ?_
     refine oL (lP rfl (fun _ _=>nofun) (fun _=>rfl)) rfl rfl ?_
     refine oN (aN ?_)
     refine wC rfl (fun hc84=>?_) (fun hc84=>?_)
     ·skip
      refine wS (wR ?_)
      refine oL (lA (a:=.v _) rfl) rfl rfl ?_
      refine oN (aN ?_)
      refine wT (bR (aR (aR (bR (aR (?_))))))
      refine ⟨.inr rfl,oV Tryz.results21 rfl rfl ?_⟩
      (refine vb_eq ?_; unfold fewB; rw [allN_hit hlt (by simp only [txtP,getD_at hlt]; simp_all)]; simp; done)
     ·skip
      refine wK (bN (aN (wR ?_)))
      refine oL (lM (a:=.v _) rfl) rfl rfl ?_
      refine oL (lJ rfl rfl (by omega) (by omega)) rfl rfl ?_
      refine oL (lA (a:=.v _) rfl) rfl rfl ?_
      refine oN (aN ?_)
      refine ⟨(c.tests.length - (k3+1)),⟨fL [(1,.ptr 0 0 0),(3,.v (.int .i64 ((fewN c+sumA c c.aux.length+sumI c c.ints.length:Nat):Int))),(6,.v (.int .i64 (((k3+1):Nat):Int)))],hLz [(0,⟨0,clA c,0,false⟩)],1⟩,by omega,(cO (.cons rfl rfl (.cons rfl rfl (.cons rfl rfl .nil))) (.cons rfl rfl rfl .nil)),(k3+1),rfl,rfl,?_⟩
      refine ⟨by omega,fun j h=>?_⟩
      rcases Nat.lt_succ_iff_lt_or_eq.1 h with h | rfl
      ·exact hj j h
      ·simp only [txtP,getD_at hlt]; simp_all
    ·skip
     have hge:¬ k3 < c.tests.length:=fun h=>of_decide_eq_false hc74 (Int.ofNat_lt.2 h)
     refine AWP.exit (aE (aE (bE ?_)))
     refine aN (wS (wR ?_))
     refine oL (lM (a:=.v _) rfl) rfl rfl ?_
     refine oL (lP rfl (fun _ _=>nofun) (fun _=>rfl)) rfl rfl ?_
     refine oL (lA (a:=.v _) rfl) rfl rfl ?_
     refine oN (aN ?_)
     refine wT (?_)
     refine ⟨.inr rfl,oV Tryz.results21 rfl rfl ?_⟩
     (refine vb_eq ?_; unfold fewB; rw [allN_end hk hge hj,show decide ((fewN c:Int) > 80)=false by (simp; omega)]; rfl)
end Go.Proofs.YtfelpgeolclnbaaGreatDoor
namespace Go.Proofs.YtfelpgeolclnbaaGreatDoor
set_option linter.unusedVariables false
set_option linter.unusedSimpArgs false
open Go.RowKit
/-- The first number below n at which q does not hold, or -1. -/
def idxQ (n:Nat) (q:Nat→Bool):Int:=match (List.range n).find? (fun j=>!q j) with
 | some j=>((j:Nat):Int)
 | none=>-1
theorem idxQ_hit {n k:Nat} {q:Nat→Bool} (hk:k < n) (h:∀ j,j < k→q j=true) (hq:q k=false):((k:Nat):Int)=idxQ n q:=by
 unfold idxQ
 have:(List.range n).find? (fun j=>!q j)=some k:=by
  rw [List.find?_range_eq_some]
  exact ⟨by simp [hq],List.mem_range.2 hk,fun j hj=>by simp [h j hj]⟩
 rw [this]
theorem idxQ_end {n k:Nat} {q:Nat→Bool} (h1:k≤n) (h2:¬ k < n) (h:∀ j,j < k→q j=true):(-1:Int)=idxQ n q:=by
 unfold idxQ
 have:(List.range n).find? (fun j=>!q j)=none:=by
  rw [List.find?_eq_none]
  intro j hj
  have:=List.mem_range.1 hj
  simp [h j (by omega)]
 rw [this]
theorem idxQ_ge {n:Nat} {q:Nat→Bool}:decide (idxQ n q≥0)=!allN n q:=by
 unfold idxQ allN
 cases h:(List.range n).find? (fun j=>!q j) with
 | none=>
  have:(List.range n).all q=true:=by
   rw [List.all_eq_true]
   intro j hj
   have:=List.find?_eq_none.1 h j hj
   simpa using this
  rw [this]; rfl
 | some j=>
  have:(List.range n).all q=false:=by
   rw [List.all_eq_false]
   exact ⟨j,List.mem_of_find?_eq_some h,by have:=List.find?_some h; simpa using this⟩
  rw [this]; simp
theorem bod90:bodied Tryz.prog 90=true:=by kernel_rfl
set_option maxRecDepth 100000 in
set_option maxHeartbeats 4000000 in
theorem pvar_p (x:PVar):PCall Tryz.prog 47 [.agg (vA x)] (.v (.bool (varB x))):=by
 refine pB Tryz.func47 rfl Tryz.ntmps47 (Nat.le_of_ble_eq_true rfl) ?_
 refine wS (wR ?_)
 refine oW (LOp.bx rfl) rfl rfl 1 rfl ?_
 refine oL (lA (a:=.v _) rfl) rfl rfl ?_
 refine oN (aN (wS (wS (wR ?_))))
 refine oL (lF fi80_0 rfl rfl rfl rfl rfl) rfl rfl ?_
 refine oL (lD row3 rfl rfl rfl rfl rfl) rfl rfl ?_
 refine oL (lP rfl (fun _ _=>nofun) (fun _=>rfl)) rfl rfl ?_
 refine oN (aN ?_)
 refine wC rfl (fun hc5=>?_) (fun hc5=>?_)
 ·skip
  refine wS (wR ?_)
  refine oL (lF fi80_1 rfl rfl rfl rfl rfl) rfl rfl ?_
  refine oL (lD row2 rfl rfl rfl rfl rfl) rfl rfl ?_
  refine oL (lP rfl (fun _ _=>nofun) (fun _=>rfl)) rfl rfl ?_
  refine oL (lM (a:=.v _) rfl) rfl rfl ?_
  refine oB 9 rfl (fun hg9=>?_) (fun hg9=>?_)
  ·skip
   refine oL (lF fi80_1 rfl rfl rfl rfl rfl) rfl rfl ?_
   refine oL (lD row2 rfl rfl rfl rfl rfl) rfl rfl ?_
   refine oL (lF fi80_2 rfl rfl rfl rfl rfl) rfl rfl ?_
   refine oL (lD row2 rfl rfl rfl rfl rfl) rfl rfl ?_
   refine oL (lP rfl (fun _ _=>nofun) (fun _=>rfl)) rfl rfl ?_
   refine oL (lK rfl rfl rfl) rfl rfl ?_
   refine oL (lM (a:=.v _) rfl) rfl rfl ?_
   refine oB 16 rfl (fun hg16=>?_) (fun hg16=>?_)
   ·skip
    refine oL (lF fi80_2 rfl rfl rfl rfl rfl) rfl rfl ?_
    refine oL (lD row2 rfl rfl rfl rfl rfl) rfl rfl ?_
    refine oL (lP rfl (fun _ _=>nofun) (fun _=>rfl)) rfl rfl ?_
    refine oL (lK rfl rfl rfl) rfl rfl ?_
    refine oL (lM (a:=.v _) rfl) rfl rfl ?_
    refine oB 21 rfl (fun hg21=>?_) (fun hg21=>?_)
    ·skip
     refine oL (lF fi80_3 rfl rfl rfl rfl rfl) rfl rfl ?_
     refine oL (lD row3 rfl rfl rfl rfl rfl) rfl rfl ?_
     refine oL (lP rfl (fun _ _=>nofun) (fun _=>rfl)) rfl rfl ?_
     refine oL (lK rfl rfl rfl) rfl rfl ?_
     refine oL (lA (a:=.v _) rfl) rfl rfl ?_
     refine oN (aN ?_)
     refine wT (aR (?_))
     refine ⟨.inr rfl,oV Tryz.results47 rfl rfl ?_⟩
     refine vb_eq ?_; unfold varB; simp_all; try (intros; omega)
    ·skip
     refine oS rfl rfl ?_
     refine oS rfl rfl ?_
     refine oS rfl rfl ?_
     refine oL (LOp.pkF (a:=.v _) rfl (by first | rfl | assumption) rfl) rfl rfl ?_
     refine oL (lA (a:=.v _) rfl) rfl rfl ?_
     refine oN (aN ?_)
     refine wT (aR (?_))
     refine ⟨.inr rfl,oV Tryz.results47 rfl rfl ?_⟩
     refine vb_eq ?_; unfold varB; simp_all; try (intros; omega)
   ·skip
    refine oS rfl rfl ?_
    refine oS rfl rfl ?_
    refine oS rfl rfl ?_
    refine oL (LOp.pkF (a:=.v _) rfl (by first | rfl | assumption) rfl) rfl rfl ?_
    refine oL (lM (a:=.v _) rfl) rfl rfl ?_
    refine oS rfl rfl ?_
    refine oS rfl rfl ?_
    refine oS rfl rfl ?_
    refine oL (LOp.pkF (a:=.v _) rfl (by first | rfl | assumption) rfl) rfl rfl ?_
    refine oL (lA (a:=.v _) rfl) rfl rfl ?_
    refine oN (aN ?_)
    refine wT (aR (?_))
    refine ⟨.inr rfl,oV Tryz.results47 rfl rfl ?_⟩
    refine vb_eq ?_; unfold varB; simp_all; try (intros; omega)
  ·skip
   refine oS rfl rfl ?_
   refine oS rfl rfl ?_
   refine oS rfl rfl ?_
   refine oS rfl rfl ?_
   refine oS rfl rfl ?_
   refine oL (LOp.pkF (a:=.v _) rfl (by first | rfl | assumption) rfl) rfl rfl ?_
   refine oL (lM (a:=.v _) rfl) rfl rfl ?_
   refine oS rfl rfl ?_
   refine oS rfl rfl ?_
   refine oS rfl rfl ?_
   refine oL (LOp.pkF (a:=.v _) rfl (by first | rfl | assumption) rfl) rfl rfl ?_
   refine oL (lM (a:=.v _) rfl) rfl rfl ?_
   refine oS rfl rfl ?_
   refine oS rfl rfl ?_
   refine oS rfl rfl ?_
   refine oL (LOp.pkF (a:=.v _) rfl (by first | rfl | assumption) rfl) rfl rfl ?_
   refine oL (lA (a:=.v _) rfl) rfl rfl ?_
   refine oN (aN ?_)
   refine wT (aR (?_))
   refine ⟨.inr rfl,oV Tryz.results47 rfl rfl ?_⟩
   refine vb_eq ?_; unfold varB; simp_all; try (intros; omega)
 ·skip
  refine wK (aN (wS (wR ?_)))
  refine oL (lF fi80_0 rfl rfl rfl rfl rfl) rfl rfl ?_
  refine oL (lD row3 rfl rfl rfl rfl rfl) rfl rfl ?_
  refine oL (lP rfl (fun _ _=>nofun) (fun _=>rfl)) rfl rfl ?_
  refine oL (lM (a:=.v _) rfl) rfl rfl ?_
  refine oB 29 rfl (fun hg29=>?_) (fun hg29=>?_)
  ·skip
   refine oL (lF fi80_3 rfl rfl rfl rfl rfl) rfl rfl ?_
   refine oL (lD row3 rfl rfl rfl rfl rfl) rfl rfl ?_
   refine oL (lP rfl (fun _ _=>nofun) (fun _=>rfl)) rfl rfl ?_
   refine oL (lK rfl rfl rfl) rfl rfl ?_
   refine oL (lM (a:=.v _) rfl) rfl rfl ?_
   refine oB 34 rfl (fun hg34=>?_) (fun hg34=>?_)
   ·skip
    refine oL (lF fi80_3 rfl rfl rfl rfl rfl) rfl rfl ?_
    refine oL (lD row3 rfl rfl rfl rfl rfl) rfl rfl ?_
    refine oL (lP rfl (fun _ _=>nofun) (fun _=>rfl)) rfl rfl ?_
    refine oL (lK rfl rfl rfl) rfl rfl ?_
    refine oL (lM (a:=.v _) rfl) rfl rfl ?_
    refine oB 39 rfl (fun hg39=>?_) (fun hg39=>?_)
    ·skip
     refine oL (lF fi80_1 rfl rfl rfl rfl rfl) rfl rfl ?_
     refine oL (lD row2 rfl rfl rfl rfl rfl) rfl rfl ?_
     refine oL (lP rfl (fun _ _=>nofun) (fun _=>rfl)) rfl rfl ?_
     refine oL (lK rfl rfl rfl) rfl rfl ?_
     refine oL (lM (a:=.v _) rfl) rfl rfl ?_
     refine oB 44 rfl (fun hg44=>?_) (fun hg44=>?_)
     ·skip
      refine oL (lF fi80_2 rfl rfl rfl rfl rfl) rfl rfl ?_
      refine oL (lD row2 rfl rfl rfl rfl rfl) rfl rfl ?_
      refine oL (lP rfl (fun _ _=>nofun) (fun _=>rfl)) rfl rfl ?_
      refine oL (lK rfl rfl rfl) rfl rfl ?_
      refine oL (lA (a:=.v _) rfl) rfl rfl ?_
      refine oN (aN ?_)
      refine wT (?_)
      refine ⟨.inr rfl,oV Tryz.results47 rfl rfl ?_⟩
      refine vb_eq ?_; unfold varB; simp_all; try (intros; omega)
     ·skip
      refine oS rfl rfl ?_
      refine oS rfl rfl ?_
      refine oS rfl rfl ?_
      refine oL (LOp.pkF (a:=.v _) rfl (by first | rfl | assumption) rfl) rfl rfl ?_
      refine oL (lA (a:=.v _) rfl) rfl rfl ?_
      refine oN (aN ?_)
      refine wT (?_)
      refine ⟨.inr rfl,oV Tryz.results47 rfl rfl ?_⟩
      refine vb_eq ?_; unfold varB; simp_all; try (intros; omega)
    ·skip
     refine oS rfl rfl ?_
     refine oS rfl rfl ?_
     refine oS rfl rfl ?_
     refine oL (LOp.pkF (a:=.v _) rfl (by first | rfl | assumption) rfl) rfl rfl ?_
     refine oL (lM (a:=.v _) rfl) rfl rfl ?_
     refine oS rfl rfl ?_
     refine oS rfl rfl ?_
     refine oS rfl rfl ?_
     refine oL (LOp.pkF (a:=.v _) rfl (by first | rfl | assumption) rfl) rfl rfl ?_
     refine oL (lA (a:=.v _) rfl) rfl rfl ?_
     refine oN (aN ?_)
     refine wT (?_)
     refine ⟨.inr rfl,oV Tryz.results47 rfl rfl ?_⟩
     refine vb_eq ?_; unfold varB; simp_all; try (intros; omega)
   ·skip
    refine oS rfl rfl ?_
    refine oS rfl rfl ?_
    refine oS rfl rfl ?_
    refine oL (LOp.pkF (a:=.v _) rfl (by first | rfl | assumption) rfl) rfl rfl ?_
    refine oL (lM (a:=.v _) rfl) rfl rfl ?_
    refine oS rfl rfl ?_
    refine oS rfl rfl ?_
    refine oS rfl rfl ?_
    refine oL (LOp.pkF (a:=.v _) rfl (by first | rfl | assumption) rfl) rfl rfl ?_
    refine oL (lM (a:=.v _) rfl) rfl rfl ?_
    refine oS rfl rfl ?_
    refine oS rfl rfl ?_
    refine oS rfl rfl ?_
    refine oL (LOp.pkF (a:=.v _) rfl (by first | rfl | assumption) rfl) rfl rfl ?_
    refine oL (lA (a:=.v _) rfl) rfl rfl ?_
    refine oN (aN ?_)
    refine wT (?_)
    refine ⟨.inr rfl,oV Tryz.results47 rfl rfl ?_⟩
    refine vb_eq ?_; unfold varB; simp_all; try (intros; omega)
  ·skip
   refine oS rfl rfl ?_
   refine oS rfl rfl ?_
   refine oS rfl rfl ?_
   refine oL (LOp.pkF (a:=.v _) rfl (by first | rfl | assumption) rfl) rfl rfl ?_
   refine oL (lM (a:=.v _) rfl) rfl rfl ?_
   refine oS rfl rfl ?_
   refine oS rfl rfl ?_
   refine oS rfl rfl ?_
   refine oL (LOp.pkF (a:=.v _) rfl (by first | rfl | assumption) rfl) rfl rfl ?_
   refine oL (lM (a:=.v _) rfl) rfl rfl ?_
   refine oS rfl rfl ?_
   refine oS rfl rfl ?_
   refine oS rfl rfl ?_
   refine oL (LOp.pkF (a:=.v _) rfl (by first | rfl | assumption) rfl) rfl rfl ?_
   refine oL (lM (a:=.v _) rfl) rfl rfl ?_
   refine oS rfl rfl ?_
   refine oS rfl rfl ?_
   refine oS rfl rfl ?_
   refine oL (LOp.pkF (a:=.v _) rfl (by first | rfl | assumption) rfl) rfl rfl ?_
   refine oL (lA (a:=.v _) rfl) rfl rfl ?_
   refine oN (aN ?_)
   refine wT (?_)
   refine ⟨.inr rfl,oV Tryz.results47 rfl rfl ?_⟩
   refine vb_eq ?_; unfold varB; simp_all; try (intros; omega)
set_option maxRecDepth 100000 in
set_option maxHeartbeats 4000000 in
theorem pasc_p (l:List Int) (v:Int) (hl:l.length≤1000):PCall Tryz.prog 74 [isA l,.v (.int .i64 v)] (.v (.bool (ascB l v))):=by
 refine pB Tryz.func74 rfl Tryz.ntmps74 (Nat.le_of_ble_eq_true rfl) ?_
 refine wS (wR ?_)
 refine oL (lA (a:=.v _) rfl) rfl rfl ?_
 refine oN (aN (wS (wS (wR ?_))))
 refine oL (lM (a:=.tree _ _) rfl) rfl rfl ?_
 refine oL (lT rfl Tryz.underlying70 rfl) rfl rfl ?_
 refine oL (lM (a:=.v _) rfl) rfl rfl ?_
 refine oN (aN (wB ?_))
 refine wL (fun n s=>∃ k:Nat,n=(l.length - k)∧s=⟨fL [(0,isA l),(1,.v (.int .i64 v)),(7,isA l),(8,.v (.int .i64 ((l.length:Nat):Int))),(9,.v (.int .i64 ((k:Nat):Int)))],hLz [],0⟩∧(k≤l.length∧∀ j,j < k→ascP l v j=true)) (n:=(l.length - 0)) (s1:=⟨fL [(0,isA l),(1,.v (.int .i64 v)),(7,isA l),(8,.v (.int .i64 ((l.length:Nat):Int))),(9,.v (.int .i64 ((0:Nat):Int)))],hLz [],0⟩) (cO (.cons rfl rfl (.cons rfl rfl (.cons rfl rfl (.cons rfl rfl (.cons rfl rfl .nil))))) .nil) ⟨0,rfl,rfl,⟨Nat.zero_le _,fun j h=>absurd h (Nat.not_lt_zero j)⟩⟩ ?_
 rintro n s ⟨k,rfl,rfl,hinv⟩
 obtain ⟨hk,hj⟩:=hinv
 refine wS (wR ?_)
 refine oL (lP rfl (fun _ _=>nofun) (fun _=>rfl)) rfl rfl ?_
 refine oN (aN (wS ?_))
 refine wC rfl (fun hc10=>?_) (fun hc10=>?_)
 ·skip
  have hlt:k < l.length:=Int.ofNat_lt.1 (of_decide_eq_true hc10)
  refine wK (aN (wS (wB (wS (wR ?_)))))
  refine oL (lM (a:=.v _) rfl) rfl rfl ?_
  refine oL (lI Tryz.underlying70 sz3 rfl rfl (by first | assumption | omega)) rfl rfl ?_
  refine oL (lE row3 rfl rfl) rfl rfl ?_
  refine oL (lA (a:=.v _) rfl) rfl rfl ?_
  refine oL (lA (a:=.v _) rfl) rfl rfl ?_
  refine oN (aN (wS (wR ?_)))
  refine oL (lM (a:=.v _) rfl) rfl rfl ?_
  refine oL (lP rfl (fun _ _=>nofun) (fun _=>rfl)) rfl rfl ?_
  refine oL (lM (a:=.v _) rfl) rfl rfl ?_
  refine oB 16 rfl (fun hg16=>?_) (fun hg16=>?_)
  ·skip
   refine oS rfl rfl ?_
   refine oS rfl rfl ?_
   refine oS rfl rfl ?_
   refine oL (LOp.pkT (a:=.v _) rfl (by first | rfl | assumption) rfl) rfl rfl ?_
   refine oL (lM (a:=.v _) rfl) rfl rfl ?_
   refine oS rfl rfl ?_
   refine oS rfl rfl ?_
   refine oS rfl rfl ?_
   refine oS rfl rfl ?_
   refine oS rfl rfl ?_
   refine oS rfl rfl ?_
   refine oS rfl rfl ?_
   refine oS rfl rfl ?_
   refine oS rfl rfl ?_
   refine oS rfl rfl ?_
   refine oS rfl rfl ?_
   refine oL (LOp.pkT (a:=.v _) rfl (by first | rfl | assumption) rfl) rfl rfl ?_
   refine oN (aN ?_)
   refine AWP.condT rfl ?_
   refine wS (wR ?_)
   refine oL (lA (a:=.v _) rfl) rfl rfl ?_
   refine oN (aN ?_)
   refine wT (bR (aR (aR (bR (aR (?_))))))
   refine ⟨.inr rfl,oV Tryz.results74 rfl rfl ?_⟩
   (refine vb_eq (Eq.symm (allN_hit hlt ?_)); (first | simp only [ascP,getD_at hlt,ek1] | simp only [ascP,getD_at hlt]); simp_all; done)
  ·skip
   refine oL (lM (a:=.v _) rfl) rfl rfl ?_
   refine oL (lM (a:=.v _) rfl) rfl rfl ?_
   refine oL (lP rfl (fun _ _=>nofun) (fun _=>rfl)) rfl rfl ?_
   refine oL (lK rfl rfl rfl) rfl rfl ?_
   refine oL (lM (a:=.v _) rfl) rfl rfl ?_
   refine oB 21 rfl (fun hg21=>?_) (fun hg21=>?_)
   ·skip
    refine oS rfl rfl ?_
    refine oS rfl rfl ?_
    refine oS rfl rfl ?_
    refine oS rfl rfl ?_
    refine oS rfl rfl ?_
    refine oS rfl rfl ?_
    refine oS rfl rfl ?_
    refine oS rfl rfl ?_
    refine oS rfl rfl ?_
    refine oS rfl rfl ?_
    refine oS rfl rfl ?_
    refine oL (LOp.pkT (a:=.v _) rfl (by first | rfl | assumption) rfl) rfl rfl ?_
    refine oN (aN ?_)
    refine AWP.condT rfl ?_
    refine wS (wR ?_)
    refine oL (lA (a:=.v _) rfl) rfl rfl ?_
    refine oN (aN ?_)
    refine wT (bR (aR (aR (bR (aR (?_))))))
    refine ⟨.inr rfl,oV Tryz.results74 rfl rfl ?_⟩
    (refine vb_eq (Eq.symm (allN_hit hlt ?_)); (first | simp only [ascP,getD_at hlt,ek1] | simp only [ascP,getD_at hlt]); simp_all; done)
   ·skip
    refine oL (lM (a:=.v _) rfl) rfl rfl ?_
    refine oL (lP rfl (fun _ _=>nofun) (fun _=>rfl)) rfl rfl ?_
    refine oL (lM (a:=.v _) rfl) rfl rfl ?_
    refine oB 24 rfl (fun hg24=>?_) (fun hg24=>?_)
    ·skip
     obtain ⟨k',hk'⟩:∃ k',k=k'+1:=⟨k - 1,by simp at hg24; omega⟩
     have ek1:l.getD (k - 1) 0=l[k']'(by omega):=by rw [show k - 1=k' by omega]; exact getD_at (by omega)
     refine oL (lM (a:=.v _) rfl) rfl rfl ?_
     refine oL (lM (a:=.tree _ _) rfl) rfl rfl ?_
     refine oL (lM (a:=.v _) rfl) rfl rfl ?_
     refine oL (LOp.subOne rfl rfl hk' (by omega)) rfl rfl ?_
     refine oL (lI Tryz.underlying70 sz3 rfl rfl (by first | assumption | omega)) rfl rfl ?_
     refine oL (lE row3 rfl rfl) rfl rfl ?_
     refine oL (lP rfl (fun _ _=>nofun) (fun _=>rfl)) rfl rfl ?_
     refine oL (lK rfl rfl rfl) rfl rfl ?_
     refine oL (lK rfl rfl rfl) rfl rfl ?_
     refine oN (aN ?_)
     refine wC rfl (fun hc33=>?_) (fun hc33=>?_)
     ·skip
      refine wS (wR ?_)
      refine oL (lA (a:=.v _) rfl) rfl rfl ?_
      refine oN (aN ?_)
      refine wT (bR (aR (aR (bR (aR (?_))))))
      refine ⟨.inr rfl,oV Tryz.results74 rfl rfl ?_⟩
      (refine vb_eq (Eq.symm (allN_hit hlt ?_)); (first | simp only [ascP,getD_at hlt,ek1] | simp only [ascP,getD_at hlt]); simp_all; done)
     ·skip
      refine wK (bN (aN (wR ?_)))
      refine oL (lJ rfl rfl (by omega) (by omega)) rfl rfl ?_
      refine oL (lM (a:=.v _) rfl) rfl rfl ?_
      refine oN (aN ?_)
      refine ⟨(l.length - (k+1)),⟨fL [(0,isA l),(1,.v (.int .i64 v)),(7,isA l),(8,.v (.int .i64 ((l.length:Nat):Int))),(9,.v (.int .i64 (((k+1):Nat):Int)))],hLz [],0⟩,by omega,(cO (.cons rfl rfl (.cons rfl rfl (.cons rfl rfl (.cons rfl rfl (.cons rfl rfl .nil))))) .nil),(k+1),rfl,rfl,?_⟩
      refine ⟨by omega,fun j h=>?_⟩
      rcases Nat.lt_succ_iff_lt_or_eq.1 h with h | rfl
      ·exact hj j h
      ·(first | simp only [ascP,getD_at hlt,ek1] | simp only [ascP,getD_at hlt]); simp_all
    ·skip
     refine oS rfl rfl ?_
     refine oS rfl rfl ?_
     refine oS rfl rfl ?_
     refine oS rfl rfl ?_
     refine oS rfl rfl ?_
     refine oS rfl rfl ?_
     refine oS rfl rfl ?_
     refine oL (LOp.pkF (a:=.v _) rfl (by first | rfl | assumption) rfl) rfl rfl ?_
     refine oL (lK rfl rfl rfl) rfl rfl ?_
     refine oN (aN ?_)
     refine AWP.condF rfl ?_
     refine wK (bN (aN (wR ?_)))
     refine oL (lJ rfl rfl (by omega) (by omega)) rfl rfl ?_
     refine oL (lM (a:=.v _) rfl) rfl rfl ?_
     refine oN (aN ?_)
     refine ⟨(l.length - (k+1)),⟨fL [(0,isA l),(1,.v (.int .i64 v)),(7,isA l),(8,.v (.int .i64 ((l.length:Nat):Int))),(9,.v (.int .i64 (((k+1):Nat):Int)))],hLz [],0⟩,by omega,(cO (.cons rfl rfl (.cons rfl rfl (.cons rfl rfl (.cons rfl rfl (.cons rfl rfl .nil))))) .nil),(k+1),rfl,rfl,?_⟩
     refine ⟨by omega,fun j h=>?_⟩
     rcases Nat.lt_succ_iff_lt_or_eq.1 h with h | rfl
     ·exact hj j h
     ·(first | simp only [ascP,getD_at hlt,ek1] | simp only [ascP,getD_at hlt]); simp_all
 ·skip
  have hge:¬ k < l.length:=fun h=>of_decide_eq_false hc10 (Int.ofNat_lt.2 h)
  refine AWP.exit (aE (aE (bE ?_)))
  refine aN (wS (wR ?_))
  refine oL (lA (a:=.v _) rfl) rfl rfl ?_
  refine oN (aN ?_)
  refine wT (?_)
  refine ⟨.inr rfl,oV Tryz.results74 rfl rfl ?_⟩
  exact vb_eq (Eq.symm (allN_end hk hge hj))
set_option maxRecDepth 100000 in
set_option maxHeartbeats 4000000 in
theorem idx_p (l:List Int) (v:Int) (hl:l.length≤1000):PCall Tryz.prog 90 [isA l,.v (.int .i64 v)] (.v (.int .i64 (idxQ l.length (hasP l v)))):=by
 refine pB Tryz.func90 rfl Tryz.ntmps90 (Nat.le_of_ble_eq_true rfl) ?_
 refine wS (wR ?_)
 refine oL (lA (a:=.v _) rfl) rfl rfl ?_
 refine oN (aN (wS (wS (wR ?_))))
 refine oL (lM (a:=.tree _ _) rfl) rfl rfl ?_
 refine oL (lT rfl Tryz.underlying70 rfl) rfl rfl ?_
 refine oL (lM (a:=.v _) rfl) rfl rfl ?_
 refine oN (aN (wB ?_))
 refine wL (fun n s=>∃ k:Nat,n=(l.length - k)∧s=⟨fL [(0,isA l),(1,.v (.int .i64 v)),(7,.v (.int .i64 ((l.length:Nat):Int))),(8,.v (.int .i64 ((k:Nat):Int)))],hLz [],0⟩∧(k≤l.length∧∀ j,j < k→hasP l v j=true)) (n:=(l.length - 0)) (s1:=⟨fL [(0,isA l),(1,.v (.int .i64 v)),(7,.v (.int .i64 ((l.length:Nat):Int))),(8,.v (.int .i64 ((0:Nat):Int)))],hLz [],0⟩) (cO (.cons rfl rfl (.cons rfl rfl (.cons rfl rfl (.cons rfl rfl .nil)))) .nil) ⟨0,rfl,rfl,⟨Nat.zero_le _,fun j h=>absurd h (Nat.not_lt_zero j)⟩⟩ ?_
 rintro n s ⟨k,rfl,rfl,hinv⟩
 obtain ⟨hk,hj⟩:=hinv
 refine wS (wR ?_)
 refine oL (lP rfl (fun _ _=>nofun) (fun _=>rfl)) rfl rfl ?_
 refine oN (aN (wS ?_))
 refine wC rfl (fun hc9=>?_) (fun hc9=>?_)
 ·skip
  have hlt:k < l.length:=Int.ofNat_lt.1 (of_decide_eq_true hc9)
  refine wK (aN (wS (wB (wS (wR ?_)))))
  refine oL (lM (a:=.v _) rfl) rfl rfl ?_
  refine oL (lA (a:=.v _) rfl) rfl rfl ?_
  refine oN (aN (wS (wR ?_)))
  refine oL (lM (a:=.v _) rfl) rfl rfl ?_
  refine oL (lM (a:=.tree _ _) rfl) rfl rfl ?_
  refine oL (lM (a:=.v _) rfl) rfl rfl ?_
  refine oL (lI Tryz.underlying70 sz3 rfl rfl (by first | assumption | omega)) rfl rfl ?_
  refine oL (lE row3 rfl rfl) rfl rfl ?_
  refine oL (lP rfl (fun _ _=>nofun) (fun _=>rfl)) rfl rfl ?_
  refine oN (aN ?_)
  refine wC rfl (fun hc16=>?_) (fun hc16=>?_)
  ·skip
   refine wS (wR ?_)
   refine oL (lM (a:=.v _) rfl) rfl rfl ?_
   refine oL (lA (a:=.v _) rfl) rfl rfl ?_
   refine oN (aN ?_)
   refine wT (bR (aR (aR (bR (aR (?_))))))
   refine ⟨.inr rfl,oV Tryz.results90 rfl rfl ?_⟩
   refine vi_eq (idxQ_hit hlt hj ?_); simp only [hasP,getD_at hlt]; simp_all
  ·skip
   refine wK (bN (aN (wR ?_)))
   refine oL (lJ rfl rfl (by omega) (by omega)) rfl rfl ?_
   refine oL (lM (a:=.v _) rfl) rfl rfl ?_
   refine oN (aN ?_)
   refine ⟨(l.length - (k+1)),⟨fL [(0,isA l),(1,.v (.int .i64 v)),(7,.v (.int .i64 ((l.length:Nat):Int))),(8,.v (.int .i64 (((k+1):Nat):Int)))],hLz [],0⟩,by omega,(cO (.cons rfl rfl (.cons rfl rfl (.cons rfl rfl (.cons rfl rfl .nil)))) .nil),(k+1),rfl,rfl,?_⟩
   refine ⟨by omega,fun j h=>?_⟩
   rcases Nat.lt_succ_iff_lt_or_eq.1 h with h | rfl
   ·exact hj j h
   ·simp only [hasP,getD_at hlt]; simp_all; try (intro h; exact absurd h.symm (by assumption))
 ·skip
  have hge:¬ k < l.length:=fun h=>of_decide_eq_false hc9 (Int.ofNat_lt.2 h)
  refine AWP.exit (aE (aE (bE ?_)))
  refine aN (wS (wR ?_))
  refine oL (lA (a:=.v _) rfl) rfl rfl ?_
  refine oN (aN ?_)
  refine wT (?_)
  refine ⟨.inr rfl,oV Tryz.results90 rfl rfl ?_⟩
  exact vi_eq (idxQ_end hk hge hj)
set_option maxRecDepth 100000 in
set_option maxHeartbeats 4000000 in
theorem con_p (l:List Int) (v:Int) (hl:l.length≤1000):PCall Tryz.prog 76 [isA l,.v (.int .i64 v)] (.v (.bool (hasB l v))):=by
 refine pB Tryz.func76 rfl Tryz.ntmps76 (Nat.le_of_ble_eq_true rfl) ?_
 refine wS (wR ?_)
 refine oL (lA (a:=.v _) rfl) rfl rfl ?_
 refine oN (aN (wS (wR ?_)))
 refine oL (lM (a:=.tree _ _) rfl) rfl rfl ?_
 refine oL (lM (a:=.v _) rfl) rfl rfl ?_
 refine oL (LOp.call bod90 rfl (idx_p l v hl)) rfl rfl ?_
 refine oL (lP rfl (fun _ _=>nofun) (fun _=>rfl)) rfl rfl ?_
 refine oL (lA (a:=.v _) rfl) rfl rfl ?_
 refine oN (aN ?_)
 refine wT (?_)
 refine ⟨.inr rfl,oV Tryz.results76 rfl rfl ?_⟩
 refine vb_eq ?_; exact idxQ_ge
end Go.Proofs.YtfelpgeolclnbaaGreatDoor
namespace Go.Proofs.YtfelpgeolclnbaaGreatDoor
set_option linter.unusedVariables false
set_option linter.unusedSimpArgs false
open Go.RowKit
/-- The values of a list, read with some blocks taken for immutable ones. -/
inductive FzL (fp:List Nat) (η:Heap):List AV→List AV→Prop where
 | nil:FzL fp η [] []
 | cons {a r:AV} {ls rs:List AV}:FzP fp η a r→FzL fp η ls rs→FzL fp η (a :: ls) (r :: rs)
theorem FzL.at {fp:List Nat} {η:Heap} {ls rs:List AV} (h:FzL fp η ls rs):ls.length=rs.length∧∀ i (h:i < ls.length) (h':i < rs.length),FzP fp η ls[i] rs[i]:=by
 induction h with
 | nil=>exact ⟨rfl,fun i h=>absurd h (by simp)⟩
 | cons h1 _ ih=>
  refine ⟨by simp [ih.1],fun i h h'=>?_⟩
  cases i with
  | zero=>exact h1
  | succ i=>exact ih.2 i (by simpa using h) (by simpa using h')
theorem FzL.pure {fp:List Nat} {η:Heap}:∀ {ls:List AV},pureL ls=true→FzL fp η ls ls
 | [],_=>.nil
 | a :: ls,h=>by
  simp only [pureL,Bool.and_eq_true] at h
  exact .cons (FzP.pure h.1) (FzL.pure h.2)
theorem FzP.clo {fp:List Nat} {η:Heap} {f:FuncId} {cs ds:List AV} (h:FzL fp η cs ds):FzP fp η (.clo f cs) (.clo f ds):=fun C hg hη x hx=>by
 obtain ⟨vs,rfl,h1,h2⟩:=hx.clo_inv
 obtain ⟨hl,hi⟩:=h.at
 exact .clo (by omega) (fun i h h'=>hi i (by omega) h C hg hη _ (h2 i (by omega) h'))
theorem FzP.ptrL {fp:List Nat} {η:Heap} {id ver o w z:Nat} {cs ds:List AV} (hid:id∈fp) (hb:η id=some ⟨w,cs,z,false⟩) (hv:w=ver) (h:FzL fp η cs ds):FzP fp η (.ptr id ver o) (.tp ds o) :=
 FzP.ptr (b:=⟨w,cs,z,false⟩) hid hb hv rfl h.at.1.symm (fun j h1 h2=>h.at.2 j h1 h2)
section
variable {P:Program} {τ:Nat→AV} {η:Heap} {d:Option Tmp} {ty:TypeId} {pos:String} {af:Array Edge} {g:Option (Nat×Bool)}
/-- The call of a closure that is handed blocks of the call's own to look at. -/
theorem LOp.callVB {g0:Operand} {f:FuncId} {caps:List AV} {xs:Array Operand} {ats:Array TypeId} {y:Value} {ys args:List AV} (fp:List Nat) (hb:bodied P f=true) (hg0:aev τ g0=.clo f caps) (hys:xs.toList.map (aev τ)++caps=ys) (hf:FzL fp η ys args) (hc:PCall P f args (.v y)) :
  LOp P ⟨d,.call { callee:=.value g0,args:=xs,argTypes:=ats },ty,pos,af,g⟩ τ η fp [] (.v y):=by
 refine LOp.of_callB hc fun C a hg hxs hη=>?_
 have h0:=hxs g0 (by simp [Op.operands,Call.operands])
 rw [hg0] at h0
 obtain ⟨vs,hv,hl,hi⟩:=h0.clo_inv
 refine ⟨xs.map a.eval++vs,?_,?_⟩
 ·have hlen:=hf.at.1
  subst hys
  refine ⟨by rw [← hlen]; simp [hl],fun i h h'=>?_⟩
  have hlt:i < (xs.toList.map (aev τ)++caps).length:=by rw [hlen]; exact h
  have hF:=(hf.at.2 i hlt h) C hg hη ((xs.map a.eval++vs)[i]) ?_
  ·exact hF.mono (fun b hb=>hb.imp (fun h=>h) Ctx.mineOf_mine) (fun _ _=>rfl)
  ·by_cases hlx:i < xs.size
   ·have e1:(xs.toList.map (aev τ)++caps)[i]=aev τ xs[i]:=by
     rw [List.getElem_append_left (by simpa using hlx)]; simp
    have e2:(xs.map a.eval++vs)[i]=a.eval xs[i]:=by
     rw [Array.getElem_append_left (by simpa using hlx)]; simp
    rw [e1,e2]
    exact hxs _ (by simp [Op.operands,Call.operands])
   ·have e1:(xs.toList.map (aev τ)++caps)[i]=caps[i - xs.size]'(by simp at hlt; omega):=by
     rw [List.getElem_append_right (by simpa using hlx)]; simp
    have e2:(xs.map a.eval++vs)[i]=vs[i - xs.size]'(by simp at h'; omega):=by
     rw [Array.getElem_append_right (by simpa using hlx)]; simp
    rw [e1,e2]
    exact hi _ _ _
 ·have e:(execOp a.eval ⟨d,.call { callee:=.value g0,args:=xs,argTypes:=ats },ty,pos,af,g⟩).run P C.w=(callFunc f (#[]++xs.map a.eval++vs)).run P C.w:=by
   have e0:execOp a.eval ⟨d,.call { callee:=.value g0,args:=xs,argTypes:=ats },ty,pos,af,g⟩=(do let dd ← Deferred.ofValue (a.eval g0) (xs.map a.eval); invoke dd.target dd.args):=rfl
   rw [e0,hv]
   rfl
  rw [e,run_callFunc' hb]
  simp
theorem LOp.mkFn {f:FuncId} {caps:Array Operand} {cs:List AV} (h:caps.toList.map (aev τ)=cs):LOp P ⟨d,.makeFunc (.func f) #[] caps,ty,pos,af,g⟩ τ η [] [] (.clo f cs):=by
 subst h; exact LOp.makeFunc
theorem LOp.addU {t t':Nat} {x y:Operand} {m n:Int} (hx:aev τ x=.v (.int .u64 m)) (hy:aev τ y=.v (.int .u64 n)) (h1:0≤m+n) (h2:m+n≤18446744073709551615) :
  LOp P ⟨d,.binOp .add t x y t',ty,pos,af,g⟩ τ η [] [] (.v (.int .u64 (m+n))) :=
 .look [] fun C a _ hxs _=>by
  have e1:=hxs x (by simp [Op.operands])
  have e2:=hxs y (by simp [Op.operands])
  rw [hx] at e1
  rw [hy] at e2
  refine ⟨.int .u64 (m+n),?_,VR.v C _⟩
  rw [← Go.IntWalk.u64_in (m+n) ⟨h1,h2⟩]
  simp only [execOp,e1.v_inv,e2.v_inv]
  rfl
theorem LOp.quoU {t t':Nat} {x y:Operand} {m n:Int} (hx:aev τ x=.v (.int .u64 m)) (hy:aev τ y=.v (.int .u64 n)) (h1:0≤m) (h2:m≤18446744073709551615) (h3:1≤n) :
  LOp P ⟨d,.binOp .quo t x y t',ty,pos,af,g⟩ τ η [] [] (.v (.int .u64 (m / n))) :=
 .look [] fun C a _ hxs _=>by
  have e1:=hxs x (by simp [Op.operands])
  have e2:=hxs y (by simp [Op.operands])
  rw [hx] at e1
  rw [hy] at e2
  refine ⟨.int .u64 (m / n),?_,VR.v C _⟩
  rw [← Go.IntWalk.u64_quo m n ⟨h1,h2,h3⟩]
  have h0:¬ (n=0):=by omega
  simp only [execOp,e1.v_inv,e2.v_inv]
  simp [binOp,Op.intArith,Op.intDiv,eqGuard,h0,Sem.run_bind]
theorem LOp.cvtU {t t':Nat} {x:Operand} {td:TypeDesc} {m:Int} {k:IntKind} (hs:P.underlying t=some td) (hd:P.underlying t'=some (.int .u64)) (hx:aev τ x=.v (.int k m)) (h1:0≤m) (h2:m≤18446744073709551615) :
  LOp P ⟨d,.convert t t' x,ty,pos,af,g⟩ τ η [] [] (.v (.int .u64 m)) :=
 .look [] fun C a _ hxs _=>by
  have e1:=hxs x (by simp [Op.operands])
  rw [hx] at e1
  refine ⟨.int .u64 m,?_,VR.v C _⟩
  simp [execOp,e1.v_inv,convert,run_underlying hs,run_underlying hd,Conv.intToInt,Go.IntWalk.u64_in m ⟨h1,h2⟩]
theorem LOp.minU {x y:Operand} {ats:Array TypeId} {k:IntKind} {m n:Int} (hx:aev τ x=.v (.int k m)) (hy:aev τ y=.v (.int k n)) :
  LOp P ⟨d,.call { callee:=.builtin .min,args:=#[x,y],argTypes:=ats },ty,pos,af,g⟩ τ η [] [] (.v (.int k (min m n))) :=
 .look [] fun C a _ hxs _=>by
  have e1:=hxs x (by simp [Op.operands,Call.operands])
  have e2:=hxs y (by simp [Op.operands,Call.operands])
  rw [hx] at e1
  rw [hy] at e2
  refine ⟨.int k (min m n),?_,VR.v C _⟩
  have:=Go.Lib.run_min_ints (P:=P) C.w ats ty k k m n
  simp only [execOp,resolve,invoke,builtin,Sem.run_bind,Sem.run_pure,Result.andThen_ok,List.map_toArray,List.map_cons,List.map_nil,e1.v_inv,e2.v_inv,this]
def byA (b:UInt8):List AV:=[.v (.int .u8 ((b.toNat:Nat):Int))]
theorem LOp.bytesS {t t' e:Nat} {x:Operand} {td:TypeDesc} {s:ByteArray} (hs:P.underlying t=some td) (hd:P.underlying t'=some (.slice e)) (he:P.underlying e=some (.int .u8)) (hx:aev τ x=.v (.string s)) (hlen:s.size≤1000) :
  LOp P ⟨d,.convert t t' x,ty,pos,af,g⟩ τ η [] [] (.tree 1 (s.data.toList.map byA)):=by
 intro C a hg hxs _ _ K Q hK
 have e1:=hxs x (by simp [Op.operands])
 rw [hx] at e1
 have hrun:=Go.Lib.run_convert_string_bytes (P:=P) C.w t t' e s hs hd he
 have hex:(execOp a.eval ⟨d,.convert t t' x,ty,pos,af,g⟩).run P C.w=.ok (.value (.slice (some ⟨C.w.heap.size,0,none⟩) s.size (grownCap C.w s.size 0 e))) (Go.Lib.bytesWorld C.w e s):=by
  simp only [execOp,e1.v_inv,Sem.run_bind,hrun,Result.andThen_ok,Sem.run_pure]
 have hb:Below C.w.heap.size C.w (Go.Lib.bytesWorld C.w e s):=⟨rfl,rfl,rfl,by rw [Go.Lib.bytesWorld_size]; omega,fun k hk=>Go.Lib.bytesWorld_at_old C.w e s k hk⟩
 let T':Nat→Prop:=fun b=>C.T b∨b=C.w.heap.size
 have t1:∀ b,C.T b→T' b:=fun b h=>.inl h
 have t2:∀ b,T' b→C.T b∨C.w.heap.size≤b:=fun b h=>h.imp id (fun e=>by omega)
 have t3:∀ b,T' b→b < (Go.Lib.bytesWorld C.w e s).heap.size:=fun b h=>by
  rw [Go.Lib.bytesWorld_size]
  rcases h with h | h
  ·have:=hg.tlt h; omega
  ·omega
 unfold Oper.wp
 rw [hex]
 refine hK _ (C.after T' (Go.Lib.bytesWorld C.w e s)) rfl (fun id=>by simp [Ctx.after]) (Ctx.after_good hg hb t1 t2 t3) (Ctx.after_ev hg hb t1 t2) ?_
 have hsz:(s.data.toList.map byA).length=s.size:=by simp
 have hge:=grownCap_ge C.w s.size 0 e
 have hmx:grownCap C.w s.size 0 e≤maxLen:=grownCap_le_maxLen C.w s.size 0 e (by unfold maxLen; omega)
 refine .imm ?_
 have hT:=TR.tree (T:=T') (w:=Go.Lib.bytesWorld C.w e s) (n:=1) (xs:=s.data.toList.map byA) (b:=C.w.heap.size) (off:=0) (cap:=grownCap C.w s.size 0 e) (fun k j=>.int .u8 (((s.data.toList.getD k 0).toNat:Nat):Int)) (.inr rfl) (by omega) hmx (by omega)
  (fun k h=>by simp [byA]) (fun k j hk hj=>by
   have hj0:j=0:=by omega
   subst hj0
   have hks:k < s.size:=by omega
   have:=Go.Lib.bytesWorld_cell C.w e s k hks
   simpa using this) (fun k h j h'=>by
   have hj0:j=0:=by simp [byA] at h'; omega
   subst hj0
   have hks:k < s.data.toList.length:=by simpa using h
   simp only [List.getElem_map,byA,List.getElem_cons_zero,List.getD,List.getElem?_eq_getElem hks,Option.getD_some]
   exact .v _)
 rw [hsz] at hT
 exact hT
theorem byA_at {s:ByteArray} {k:Nat} (h:k < s.data.toList.length):byA s.data.toList[k]=[.v (.int .u8 (((bAt s k).toNat:Nat):Int))]:=by
 unfold byA bAt
 have h':k < s.data.size:=by simpa using h
 simp only [Array.getD,h',dif_pos,Array.getElem_toList]
 rfl
end
end Go.Proofs.YtfelpgeolclnbaaGreatDoor
namespace Go.Proofs.YtfelpgeolclnbaaGreatDoor
set_option linter.unusedVariables false
set_option linter.unusedSimpArgs false
open Go.RowKit
theorem vu_eq {b c:Int} (h:b=c):AV.v (.int .u64 b)=AV.v (.int .u64 c):=by rw [h]
section
variable {P:Program} {τ:Nat→AV} {η:Heap} {d:Option Tmp} {ty:TypeId} {pos:String} {af:Array Edge} {g:Option (Nat×Bool)}
theorem LOp.indexBy {t e:Nat} {x i:Operand} {s:ByteArray} {k:Nat} (he:P.underlying t=some (.slice e)) (hs:sizeInfo P e=some 1) (hx:aev τ x=.tree 1 (s.data.toList.map byA)) (hi:aev τ i=.v (.int .i64 ((k:Nat):Int))) (hj:k < s.data.toList.length) :
  LOp P ⟨d,.indexAddr t x i,ty,pos,af,g⟩ τ η [] [] (.tp [.v (.int .u8 (((bAt s k).toNat:Nat):Int))] 0):=by
 have:=lI (P:=P) (τ:=τ) (η:=η) (d:=d) (ty:=ty) (pos:=pos) (af:=af) (g:=g) he hs hx hi hj
 rwa [byA_at hj] at this
end
/-- Is a variable one of a kind that is not NULL? -/
def usB (v q:Int) (nn:List Int) (l:List PVar):Bool:=decide (v≥0)&&decide (v < l.length)&&(l.getD v.toNat default).t==q&&hasB nn v
theorem usB_txt {v:Int} {nn:List Int} {l:List PVar}:usB v 2 nn l=txtB v nn l:=rfl
def prB (s:ByteArray):Bool:=allN s.size (prnP s)&&decide ((s.size:Int)≤16)
theorem bod76:bodied Tryz.prog 76=true:=by kernel_rfl
theorem row5:rowOf Tryz.prog 5=some none:=by kernel_rfl
theorem sz5:sizeInfo Tryz.prog 5=some 1:=by kernel_rfl
set_option maxRecDepth 100000 in
set_option maxHeartbeats 4000000 in
theorem pabs_p (v:Int) (h1:-9223372036854775808≤v) (h2:v≤9223372036854775807):PCall Tryz.prog 78 [.v (.int .i64 v)] (.v (.int .u64 (absI v))):=by
 refine pB Tryz.func78 rfl Tryz.ntmps78 (Nat.le_of_ble_eq_true rfl) ?_
 refine wS (wR ?_)
 refine oL (lA (a:=.v _) rfl) rfl rfl ?_
 refine oN (aN (wS (wS (wR ?_))))
 refine oL (lM (a:=.v _) rfl) rfl rfl ?_
 refine oL (lP rfl (fun _ _=>nofun) (fun _=>rfl)) rfl rfl ?_
 refine oN (aN ?_)
 refine wC rfl (fun hc4=>?_) (fun hc4=>?_)
 ·skip
  refine wS (wR ?_)
  refine oL (lM (a:=.v _) rfl) rfl rfl ?_
  refine oL (lP rfl (fun _ _=>nofun) (fun _=>rfl)) rfl rfl ?_
  refine oL (lP rfl (fun _ _=>nofun) (fun _=>rfl)) rfl rfl ?_
  refine oL (lA (a:=.v _) rfl) rfl rfl ?_
  refine oN (aN ?_)
  refine wT (aR (?_))
  refine ⟨.inr rfl,oV Tryz.results78 rfl rfl ?_⟩
  refine vu_eq ?_; have h0:=of_decide_eq_true hc4; unfold absI; rw [if_pos h0,IntKind.wrap_u64,IntKind.wrap_u64]; omega
 ·skip
  refine wK (aN (wS (wR ?_)))
  refine oL (lM (a:=.v _) rfl) rfl rfl ?_
  refine oL (lP rfl (fun _ _=>nofun) (fun _=>rfl)) rfl rfl ?_
  refine oL (lA (a:=.v _) rfl) rfl rfl ?_
  refine oN (aN ?_)
  refine wT (?_)
  refine ⟨.inr rfl,oV Tryz.results78 rfl rfl ?_⟩
  refine vu_eq ?_; have h0:=of_decide_eq_false hc4; unfold absI; rw [if_neg h0,IntKind.wrap_u64]; omega
set_option maxRecDepth 100000 in
set_option maxHeartbeats 4000000 in
theorem prn_p (tx:ByteArray) (hl:tx.size≤1000):PCall Tryz.prog 80 [.v (.string tx)] (.v (.bool (prB tx))):=by
 have hsz:tx.data.toList.length=tx.size:=by simp
 refine pB Tryz.func80 rfl Tryz.ntmps80 (Nat.le_of_ble_eq_true rfl) ?_
 refine wS (wR ?_)
 refine oL (lA (a:=.v _) rfl) rfl rfl ?_
 refine oN (aN (wS (wS (wR ?_))))
 refine oL (lM (a:=.v _) rfl) rfl rfl ?_
 refine oL (LOp.bytesS Tryz.underlying9 Tryz.underlying188 Tryz.underlying5 rfl hl) rfl rfl ?_
 refine oL (lT rfl Tryz.underlying188 rfl) rfl rfl ?_
 refine oL (lM (a:=.v _) rfl) rfl rfl ?_
 refine oN (aN (wB ?_))
 refine wL (fun n s=>∃ k:Nat,n=(tx.data.toList.length - k)∧s=⟨fL [(0,.v (.string tx)),(6,.tree 1 (tx.data.toList.map byA)),(7,.v (.int .i64 ((tx.data.toList.length:Nat):Int))),(8,.v (.int .i64 ((k:Nat):Int)))],hLz [],0⟩∧(k≤tx.data.toList.length∧∀ j,j < k→prnP tx j=true)) (n:=(tx.data.toList.length - 0)) (s1:=⟨fL [(0,.v (.string tx)),(6,.tree 1 (tx.data.toList.map byA)),(7,.v (.int .i64 ((tx.data.toList.length:Nat):Int))),(8,.v (.int .i64 ((0:Nat):Int)))],hLz [],0⟩) (cO (.cons rfl rfl (.cons rfl rfl (.cons rfl rfl (.cons rfl rfl .nil)))) .nil) ⟨0,rfl,rfl,⟨Nat.zero_le _,fun j h=>absurd h (Nat.not_lt_zero j)⟩⟩ ?_
 rintro n s ⟨k,rfl,rfl,hinv⟩
 obtain ⟨hk,hj⟩:=hinv
 refine wS (wR ?_)
 refine oL (lP rfl (fun _ _=>nofun) (fun _=>rfl)) rfl rfl ?_
 refine oN (aN (wS ?_))
 refine wC rfl (fun hc9=>?_) (fun hc9=>?_)
 ·skip
  have hlt:k < tx.data.toList.length:=Int.ofNat_lt.1 (of_decide_eq_true hc9)
  refine wK (aN (wS (wB (wS (wR ?_)))))
  refine oL (LOp.indexBy Tryz.underlying188 sz5 rfl rfl hlt) rfl rfl ?_
  refine oL (lE row5 rfl rfl) rfl rfl ?_
  refine oL (lA (a:=.v _) rfl) rfl rfl ?_
  refine oN (aN (wS (wR ?_)))
  refine oL (lM (a:=.v _) rfl) rfl rfl ?_
  refine oL (lP rfl (fun _ _=>nofun) (fun _=>rfl)) rfl rfl ?_
  refine oL (lM (a:=.v _) rfl) rfl rfl ?_
  refine oB 14 rfl (fun hg14=>?_) (fun hg14=>?_)
  ·skip
   refine oS rfl rfl ?_
   refine oS rfl rfl ?_
   refine oL (LOp.pkT (a:=.v _) rfl (by first | rfl | assumption) rfl) rfl rfl ?_
   refine oN (aN ?_)
   refine AWP.condT rfl ?_
   refine wS (wR ?_)
   refine oL (lA (a:=.v _) rfl) rfl rfl ?_
   refine oN (aN ?_)
   refine wT (bR (aR (aR (bR (aR (?_))))))
   refine ⟨.inr rfl,oV Tryz.results80 rfl rfl ?_⟩
   (refine vb_eq ?_; unfold prB; rw [← hsz,allN_hit hlt (by simp only [prnP]; simp_all)]; rfl)
  ·skip
   refine oL (lM (a:=.v _) rfl) rfl rfl ?_
   refine oL (lP rfl (fun _ _=>nofun) (fun _=>rfl)) rfl rfl ?_
   refine oL (lK rfl rfl rfl) rfl rfl ?_
   refine oN (aN ?_)
   refine wC rfl (fun hc17=>?_) (fun hc17=>?_)
   ·skip
    refine wS (wR ?_)
    refine oL (lA (a:=.v _) rfl) rfl rfl ?_
    refine oN (aN ?_)
    refine wT (bR (aR (aR (bR (aR (?_))))))
    refine ⟨.inr rfl,oV Tryz.results80 rfl rfl ?_⟩
    (refine vb_eq ?_; unfold prB; rw [← hsz,allN_hit hlt (by simp only [prnP]; simp_all)]; rfl)
   ·skip
    refine wK (bN (aN (wR ?_)))
    refine oL (lJ rfl rfl (by omega) (by omega)) rfl rfl ?_
    refine oL (lM (a:=.v _) rfl) rfl rfl ?_
    refine oN (aN ?_)
    refine ⟨(tx.data.toList.length - (k+1)),⟨fL [(0,.v (.string tx)),(6,.tree 1 (tx.data.toList.map byA)),(7,.v (.int .i64 ((tx.data.toList.length:Nat):Int))),(8,.v (.int .i64 (((k+1):Nat):Int)))],hLz [],0⟩,by omega,(cO (.cons rfl rfl (.cons rfl rfl (.cons rfl rfl (.cons rfl rfl .nil)))) .nil),(k+1),rfl,rfl,?_⟩
    refine ⟨by omega,fun j h=>?_⟩
    rcases Nat.lt_succ_iff_lt_or_eq.1 h with h | rfl
    ·exact hj j h
    ·simp only [prnP]; simp_all
 ·skip
  have hge:¬ k < tx.data.toList.length:=fun h=>of_decide_eq_false hc9 (Int.ofNat_lt.2 h)
  refine AWP.exit (aE (aE (bE ?_)))
  refine aN (wS (wR ?_))
  refine oL (lM (a:=.v _) rfl) rfl rfl ?_
  refine oL (LOp.lenStr rfl Tryz.underlying9 rfl) rfl rfl ?_
  refine oL (lP rfl (fun _ _=>nofun) (fun _=>rfl)) rfl rfl ?_
  refine oL (lA (a:=.v _) rfl) rfl rfl ?_
  refine oN (aN ?_)
  refine wT (?_)
  refine ⟨.inr rfl,oV Tryz.results80 rfl rfl ?_⟩
  (refine vb_eq ?_; unfold prB; rw [← hsz,allN_end hk hge hj,hsz]; simp; done)
set_option maxRecDepth 100000 in
set_option maxHeartbeats 4000000 in
theorem us_p (v q:Int) (c:PCl) (l:List PVar) (hn:c.nn.length≤1000) (hl:l.length≤1000):PCall Tryz.prog 75 [.v (.int .i64 v),.v (.int .i64 q),.tp [.v (.int .i64 ((l.length:Nat):Int))] 0,.tp [vsA l] 0,.tp (clA c) 0] (.v (.bool (usB v q c.nn l))):=by
 refine pB Tryz.func75 rfl Tryz.ntmps75 (Nat.le_of_ble_eq_true rfl) ?_
 refine wS (wR ?_)
 refine oL (lA (a:=.v _) rfl) rfl rfl ?_
 refine oN (aN (wS (wR ?_)))
 refine oL (lM (a:=.v _) rfl) rfl rfl ?_
 refine oL (lP rfl (fun _ _=>nofun) (fun _=>rfl)) rfl rfl ?_
 refine oL (lM (a:=.v _) rfl) rfl rfl ?_
 refine oB 10 rfl (fun hg10=>?_) (fun hg10=>?_)
 ·skip
  refine oL (lM (a:=.v _) rfl) rfl rfl ?_
  refine oL (lE row3 rfl rfl) rfl rfl ?_
  refine oL (lP rfl (fun _ _=>nofun) (fun _=>rfl)) rfl rfl ?_
  refine oL (lK rfl rfl rfl) rfl rfl ?_
  refine oL (lM (a:=.v _) rfl) rfl rfl ?_
  refine oB 15 rfl (fun hg15=>?_) (fun hg15=>?_)
  ·skip
   have h0:0≤v:=by simpa using hg10
   have h1:v < l.length:=by simpa using hg15
   obtain ⟨j,hj⟩:=Int.eq_ofNat_of_zero_le h0
   have hjl:j < l.length:=by omega
   have ev:l.getD v.toNat default=l[j]:=by rw [hj]; simp [List.getD,hjl]
   refine oL (lE row34 rfl rfl) rfl rfl ?_
   refine oL (lM (a:=.v _) rfl) rfl rfl ?_
   refine oL (LOp.indexI Tryz.underlying34 sz80 rfl rfl hj hjl) rfl rfl ?_
   refine oL (LOp.fieldAddrT fi80_0 rfl rfl) rfl rfl ?_
   refine oL (lE row3 rfl rfl) rfl rfl ?_
   refine oL (lM (a:=.v _) rfl) rfl rfl ?_
   refine oL (lP rfl (fun _ _=>nofun) (fun _=>rfl)) rfl rfl ?_
   refine oL (lK rfl rfl rfl) rfl rfl ?_
   refine oL (lM (a:=.v _) rfl) rfl rfl ?_
   refine oB 24 rfl (fun hg24=>?_) (fun hg24=>?_)
   ·skip
    refine oL (LOp.fieldAddrT fi76_1 rfl rfl) rfl rfl ?_
    refine oL (lE row70 rfl rfl) rfl rfl ?_
    refine oL (lM (a:=.v _) rfl) rfl rfl ?_
    refine oL (LOp.call bod76 rfl (con_p c.nn v hn)) rfl rfl ?_
    refine oL (lK rfl rfl rfl) rfl rfl ?_
    refine oL (lA (a:=.v _) rfl) rfl rfl ?_
    refine oN (aN ?_)
    refine wT (?_)
    refine ⟨.inr rfl,oV Tryz.results75 rfl rfl ?_⟩
    refine vb_eq ?_; first | (simp only [usB,ev]; simp_all; done) | (simp only [usB]; simp_all; done) | (simp only [usB]; simp_all; intros; omega)
   ·skip
    refine oS rfl rfl ?_
    refine oS rfl rfl ?_
    refine oS rfl rfl ?_
    refine oS rfl rfl ?_
    refine oL (LOp.pkF (a:=.v _) rfl (by first | rfl | assumption) rfl) rfl rfl ?_
    refine oL (lA (a:=.v _) rfl) rfl rfl ?_
    refine oN (aN ?_)
    refine wT (?_)
    refine ⟨.inr rfl,oV Tryz.results75 rfl rfl ?_⟩
    refine vb_eq ?_; first | (simp only [usB,ev]; simp_all; done) | (simp only [usB]; simp_all; done) | (simp only [usB]; simp_all; intros; omega)
  ·skip
   refine oS rfl rfl ?_
   refine oS rfl rfl ?_
   refine oS rfl rfl ?_
   refine oS rfl rfl ?_
   refine oS rfl rfl ?_
   refine oS rfl rfl ?_
   refine oS rfl rfl ?_
   refine oL (LOp.pkF (a:=.v _) rfl (by first | rfl | assumption) rfl) rfl rfl ?_
   refine oL (lM (a:=.v _) rfl) rfl rfl ?_
   refine oS rfl rfl ?_
   refine oS rfl rfl ?_
   refine oS rfl rfl ?_
   refine oS rfl rfl ?_
   refine oL (LOp.pkF (a:=.v _) rfl (by first | rfl | assumption) rfl) rfl rfl ?_
   refine oL (lA (a:=.v _) rfl) rfl rfl ?_
   refine oN (aN ?_)
   refine wT (?_)
   refine ⟨.inr rfl,oV Tryz.results75 rfl rfl ?_⟩
   refine vb_eq ?_; first | (simp only [usB,ev]; simp_all; done) | (simp only [usB]; simp_all; done) | (simp only [usB]; simp_all; intros; omega)
 ·skip
  refine oS rfl rfl ?_
  refine oS rfl rfl ?_
  refine oS rfl rfl ?_
  refine oL (LOp.pkF (a:=.v _) rfl (by first | rfl | assumption) rfl) rfl rfl ?_
  refine oL (lM (a:=.v _) rfl) rfl rfl ?_
  refine oS rfl rfl ?_
  refine oS rfl rfl ?_
  refine oS rfl rfl ?_
  refine oS rfl rfl ?_
  refine oS rfl rfl ?_
  refine oS rfl rfl ?_
  refine oS rfl rfl ?_
  refine oL (LOp.pkF (a:=.v _) rfl (by first | rfl | assumption) rfl) rfl rfl ?_
  refine oL (lM (a:=.v _) rfl) rfl rfl ?_
  refine oS rfl rfl ?_
  refine oS rfl rfl ?_
  refine oS rfl rfl ?_
  refine oS rfl rfl ?_
  refine oL (LOp.pkF (a:=.v _) rfl (by first | rfl | assumption) rfl) rfl rfl ?_
  refine oL (lA (a:=.v _) rfl) rfl rfl ?_
  refine oN (aN ?_)
  refine wT (?_)
  refine ⟨.inr rfl,oV Tryz.results75 rfl rfl ?_⟩
  refine vb_eq ?_; first | (simp only [usB,ev]; simp_all; done) | (simp only [usB]; simp_all; done) | (simp only [usB]; simp_all; intros; omega)
end Go.Proofs.YtfelpgeolclnbaaGreatDoor
