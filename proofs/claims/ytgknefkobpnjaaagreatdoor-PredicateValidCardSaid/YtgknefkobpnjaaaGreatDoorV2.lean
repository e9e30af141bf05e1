/- Clauses of the reference. -/
import Derived.Lib.ConvBytes
import Derived.Lib.MinMax
import Derived.Test.YtgknefkobpnjaaaGreatDoorV1
namespace Go.Proofs.YtgknefkobpnjaaaGreatDoor
set_option linter.unusedVariables false
set_option linter.unusedSimpArgs false
open Go.RowKit
/-- The bounds of the auxiliary variables, one after the other. -/
def bV (c : PCl) (l : List PVar) (bs : List Int) (j : Nat) : Int := if (c.aux.getD j default).by_ = 0 then 16 else fV (c.aux.getD j default).of_ c.nn l bs / (c.aux.getD j default).by_ + 1
def bsAt (c : PCl) (l : List PVar) : Nat → List Int
  | 0 => []
  | j + 1 => bsAt c l j ++ [bV c l (bsAt c l j) j]
theorem bsAt_len (c : PCl) (l : List PVar) : ∀ k, (bsAt c l k).length = k
  | 0 => rfl
  | k + 1 => by simp [bsAt, bsAt_len c l k]
def auxP (c : PCl) (l : List PVar) (j : Nat) : Bool :=
  if (c.aux.getD j default).by_ = 0 then !(decide (0 < ((c.aux.getD j default).of_.cs.length : Int)) || !((c.aux.getD j default).of_.k == 0)) && txtB (c.aux.getD j default).tx c.nn l
  else wiB (c.aux.getD j default).by_ 1 1000 && (c.aux.getD j default).tx == 0 && !decide (fV (c.aux.getD j default).of_ c.nn l (bsAt c l j) < 0)
def intP (c : PCl) (l : List PVar) (j : Nat) : Bool := !decide (fV (c.ints.getD j default).l c.nn l (bsAt c l c.aux.length) < 0)
def tstP (c : PCl) (l : List PVar) (j : Nat) : Bool := tesB (c.tests.getD j default) && txtB (c.tests.getD j default).v c.nn l
/-- Is a clause valid? -/
def clB (c : PCl) (l : List PVar) : Bool := ascB c.nul l.length && ascB c.nn l.length && allN c.aux.length (auxP c l) && allN c.ints.length (intP c l) && allN c.tests.length (tstP c l) && (paiB c.same c.nn l && paiB c.diff c.nn l)
/-- A clause that is not great. -/
structure PCl.Ok (c : PCl) : Prop where
  nul : c.nul.length ≤ 1000
  nn : c.nn.length ≤ 1000
  aux : c.aux.length ≤ 1000
  ints : c.ints.length ≤ 1000
  tests : c.tests.length ≤ 1000
  same : c.same.length ≤ 1000
  diff : c.diff.length ≤ 1000
  auxc : ∀ a ∈ c.aux, a.of_.cs.length ≤ 1000
  intc : ∀ a ∈ c.ints, a.l.cs.length ≤ 1000
  tes : ∀ a ∈ c.tests, a.s.size ≤ 1000
theorem fV_le {f : PLin} {nn : List Int} {l : List PVar} {bs : List Int} (hbs : ∀ b ∈ bs, 0 ≤ b ∧ b ≤ 4611686018427387904) : fV f nn l bs ≤ 1152921504606846977 := by
  unfold fV
  split
  · rename_i h
    simp only [Bool.and_eq_true] at h
    exact (fS_rng h.1 hbs (allN_iff.1 h.2) _ (Nat.le_refl _)).2
  · omega
theorem bsAt_rng {c : PCl} {l : List PVar} : ∀ k, (∀ j, j < k → auxP c l j = true) → ∀ b ∈ bsAt c l k, 0 ≤ b ∧ b ≤ 4611686018427387904
  | 0, _, b, hb => by cases hb
  | k + 1, h, b, hb => by
    have ih := bsAt_rng k (fun j hj => h j (by omega))
    rcases List.mem_append.1 hb with hb | hb
    · exact ih b hb
    · simp only [List.mem_singleton] at hb
      subst hb
      have h1 := h k (by omega)
      unfold bV
      split
      · omega
      · rename_i h0
        unfold auxP at h1
        rw [if_neg h0] at h1
        simp only [Bool.and_eq_true, wiB, decide_eq_true_eq, Bool.not_eq_true', decide_eq_false_iff_not, beq_iff_eq] at h1
        have h2 := fV_le (f := (c.aux.getD k default).of_) (nn := c.nn) (l := l) ih
        have h3 := Int.ediv_le_self (a := fV (c.aux.getD k default).of_ c.nn l (bsAt c l k)) (c.aux.getD k default).by_ (by omega)
        have h4 := Int.ediv_nonneg (a := fV (c.aux.getD k default).of_ c.nn l (bsAt c l k)) (b := (c.aux.getD k default).by_) (by omega) (by omega)
        omega
theorem Src.slB {η : Heap} {id ver w z len : Nat} {cs news : List AV} (hb : η id = some ⟨w, cs, z, false⟩) (hv : w = ver) (hne : Nat.beq len 0 = false) (hc : takeFrom 0 news.length cs = some news) : Src η [id] (.sl id ver 0 len) len news := Src.sl hb hv rfl hne hc
theorem low_fl (u : Nat) : ∀ bs : List Int, lowL u ((bs.map iA).flatten) = true
  | [] => rfl
  | b :: bs => by
    have := low_fl u bs
    simpa [iA, lowL, AV.lowB] using this
theorem fl_len : ∀ bs : List Int, ((bs.map iA).flatten).length = bs.length
  | [] => rfl
  | b :: bs => by have := fl_len bs; simp [iA] at this ⊢; omega
theorem bs_step0 {c : PCl} {l : List PVar} {k : Nat} (hlt : k < c.aux.length) (h0 : c.aux[k].by_ = 0) : ((bsAt c l k).map iA).flatten ++ [.v (.int .i64 16)] = ((bsAt c l (k + 1)).map iA).flatten := by
  have e : bV c l (bsAt c l k) k = 16 := by unfold bV; rw [getD_at hlt, if_pos h0]
  show _ = ((bsAt c l k ++ [bV c l (bsAt c l k) k]).map iA).flatten
  rw [e]; simp [iA]
theorem bs_step1 {c : PCl} {l : List PVar} {k : Nat} (hlt : k < c.aux.length) (h0 : ¬ c.aux[k].by_ = 0) : ((bsAt c l k).map iA).flatten ++ [.v (.int .i64 (fV c.aux[k].of_ c.nn l (bsAt c l k) / c.aux[k].by_ + 1))] = ((bsAt c l (k + 1)).map iA).flatten := by
  have e : bV c l (bsAt c l k) k = fV c.aux[k].of_ c.nn l (bsAt c l k) / c.aux[k].by_ + 1 := by unfold bV; rw [getD_at hlt, if_neg h0]
  show _ = ((bsAt c l k ++ [bV c l (bsAt c l k) k]).map iA).flatten
  rw [e]; simp [iA]
theorem bb_eq {w z : Nat} {cs cs' : List AV} (h : cs = cs') : some (Blk.mk w cs z false) = some (Blk.mk w cs' z false) := by rw [h]
theorem FzP.bounds {fp : List Nat} {η : Heap} {id k : Nat} {bs : List Int} (hid : id ∈ fp) (hb : η id = some ⟨k, (bs.map iA).flatten, 1, Nat.beq k 0⟩) (hk : bs.length = k) : FzP fp η (.sl id k 0 k) (isA bs) := by
  cases k with
  | zero =>
    have h0 : bs = [] := List.eq_nil_of_length_eq_zero hk
    subst h0
    intro C hg hη x hx
    obtain ⟨e, _, _⟩ := hx.slnil_inv ((hη id hid).trans hb) rfl rfl
    subst e
    exact .tree0 (by unfold maxLen; omega)
  | succ k => exact FzP.slMap (f := iA) hid hb rfl rfl rfl rfl hk (fun a _ => ⟨rfl, rfl⟩)
theorem clB_aux {c : PCl} {l : List PVar} {k : Nat} (hlt : k < c.aux.length) (h : auxP c l k = false) : false = clB c l := by unfold clB; rw [allN_hit hlt h]; simp
theorem clB_int {c : PCl} {l : List PVar} {k : Nat} (hlt : k < c.ints.length) (h : intP c l k = false) : false = clB c l := by unfold clB; rw [allN_hit hlt h]; simp
theorem clB_tst {c : PCl} {l : List PVar} {k : Nat} (hlt : k < c.tests.length) (h : tstP c l k = false) : false = clB c l := by unfold clB; rw [allN_hit hlt h]; simp
theorem bod73 : bodied Tryz.prog 73 = true := by kernel_rfl
theorem bod75 : bodied Tryz.prog 75 = true := by kernel_rfl
theorem bod77 : bodied Tryz.prog 77 = true := by kernel_rfl
theorem bod78 : bodied Tryz.prog 78 = true := by kernel_rfl
theorem by2 : (Tryz.prog.info? 2).map (·.bytes) = some 8 := by kernel_rfl
theorem fi35_0 : fieldInfo Tryz.prog 35 0 = some (0, 1) := by kernel_rfl
theorem fi35_2 : fieldInfo Tryz.prog 35 2 = some (2, 1) := by kernel_rfl
theorem fi35_3 : fieldInfo Tryz.prog 35 3 = some (3, 1) := by kernel_rfl
theorem fi35_4 : fieldInfo Tryz.prog 35 4 = some (4, 1) := by kernel_rfl
theorem fi35_5 : fieldInfo Tryz.prog 35 5 = some (5, 1) := by kernel_rfl
theorem fi35_6 : fieldInfo Tryz.prog 35 6 = some (6, 1) := by kernel_rfl
theorem fi52_0 : fieldInfo Tryz.prog 52 0 = some (0, 1) := by kernel_rfl
theorem fi81_0 : fieldInfo Tryz.prog 81 0 = some (0, 2) := by kernel_rfl
theorem fi81_1 : fieldInfo Tryz.prog 81 1 = some (2, 1) := by kernel_rfl
theorem fi81_2 : fieldInfo Tryz.prog 81 2 = some (3, 1) := by kernel_rfl
theorem fi84_0 : fieldInfo Tryz.prog 84 0 = some (0, 2) := by kernel_rfl
theorem row30 : rowOf Tryz.prog 30 = some none := by kernel_rfl
theorem row31 : rowOf Tryz.prog 31 = some none := by kernel_rfl
theorem row32 : rowOf Tryz.prog 32 = some none := by kernel_rfl
theorem row33 : rowOf Tryz.prog 33 = some none := by kernel_rfl
theorem row52 : rowOf Tryz.prog 52 = some (some 4) := by kernel_rfl
theorem row79 : rowOf Tryz.prog 79 = some (some 2) := by kernel_rfl
theorem row81 : rowOf Tryz.prog 81 = some (some 4) := by kernel_rfl
theorem sz52 : sizeInfo Tryz.prog 52 = some 4 := by kernel_rfl
theorem sz81 : sizeInfo Tryz.prog 81 = some 4 := by kernel_rfl
theorem sz84 : sizeInfo Tryz.prog 84 = some 3 := by kernel_rfl
theorem zr2 : zeroOf Tryz.prog 2 = some (.int .i64 0) := by kernel_rfl
theorem zr81 : zeroOf Tryz.prog 81 = some (.agg #[.int .i64 0, .slice none 0 0, .int .i64 0, .int .i64 0]) := by kernel_rfl

set_option maxRecDepth 100000 in
set_option maxHeartbeats 4000000 in
theorem cl_p (c : PCl) (l : List PVar) (hc : c.Ok) (hl : l.length ≤ 1000) : PCall Tryz.prog 38 [.agg (clA c), vsA l] (.v (.bool (clB c l))) := by
  refine PCall.of_body Tryz.func38 rfl Tryz.ntmps38 (Nat.le_of_ble_eq_true rfl) ?_
  refine AWP.seq ?_
  refine AWP.region ?_
  refine AOps.nw (LOp.bx rfl) rfl rfl 1 rfl ?_
  refine AOps.lk (LOp.asg (a := .v _) rfl) rfl rfl ?_
  refine AOps.nil ?_
  refine andThen_normal ?_
  refine AWP.seq ?_
  refine AWP.seq ?_
  refine AWP.region ?_
  refine AOps.lk (LOp.fieldAddr fi35_0 rfl rfl rfl rfl rfl) rfl rfl ?_
  refine AOps.lk (LOp.load1 row29 rfl rfl rfl rfl rfl) rfl rfl ?_
  refine AOps.lk (LOp.mv (a := .tree _ _) rfl) rfl rfl ?_
  refine AOps.lk (LOp.lenT rfl Tryz.underlying22 rfl) rfl rfl ?_
  refine AOps.lk (LOp.call bod73 rfl (asc_p c.nul _ hc.nul)) rfl rfl ?_
  refine AOps.lk (LOp.plain rfl (fun _ _ => nofun) (fun _ => rfl)) rfl rfl ?_
  refine AOps.lk (LOp.mv (a := .v _) rfl) rfl rfl ?_
  refine AOps.splitB 17 rfl (fun hg17 => ?_) (fun hg17 => ?_)
  · skip
    refine AOps.sk rfl rfl ?_
    refine AOps.sk rfl rfl ?_
    refine AOps.sk rfl rfl ?_
    refine AOps.sk rfl rfl ?_
    refine AOps.sk rfl rfl ?_
    refine AOps.sk rfl rfl ?_
    refine AOps.lk (LOp.pkT (a := .v _) rfl (by first | rfl | assumption) rfl) rfl rfl ?_
    refine AOps.nil ?_
    refine andThen_normal ?_
    refine AWP.condT rfl ?_
    refine AWP.seq ?_
    refine AWP.region ?_
    refine AOps.lk (LOp.asg (a := .v _) rfl) rfl rfl ?_
    refine AOps.nil ?_
    refine andThen_normal ?_
    refine AWP.ret (andThen_ret (?_))
    refine ⟨.inr rfl, Outs.val Tryz.results38 rfl rfl ?_⟩
    refine vb_eq ?_; unfold clB; simp_all; done
  · skip
    refine AOps.lk (LOp.fieldAddr fi35_1 rfl rfl rfl rfl rfl) rfl rfl ?_
    refine AOps.lk (LOp.load1 row29 rfl rfl rfl rfl rfl) rfl rfl ?_
    refine AOps.lk (LOp.mv (a := .tree _ _) rfl) rfl rfl ?_
    refine AOps.lk (LOp.lenT rfl Tryz.underlying22 rfl) rfl rfl ?_
    refine AOps.lk (LOp.call bod73 rfl (asc_p c.nn _ hc.nn)) rfl rfl ?_
    refine AOps.lk (LOp.plain rfl (fun _ _ => nofun) (fun _ => rfl)) rfl rfl ?_
    refine AOps.lk (LOp.pickB rfl rfl rfl) rfl rfl ?_
    refine AOps.nil ?_
    refine andThen_normal ?_
    refine AWP.cond rfl (fun hc24 => ?_) (fun hc24 => ?_)
    · skip
      refine AWP.seq ?_
      refine AWP.region ?_
      refine AOps.lk (LOp.asg (a := .v _) rfl) rfl rfl ?_
      refine AOps.nil ?_
      refine andThen_normal ?_
      refine AWP.ret (andThen_ret (?_))
      refine ⟨.inr rfl, Outs.val Tryz.results38 rfl rfl ?_⟩
      refine vb_eq ?_; unfold clB; simp_all; done
    · skip
      have hn12 : ascB c.nul l.length = true ∧ ascB c.nn l.length = true := by simp_all
      obtain ⟨hn1, hn2⟩ := hn12
      refine AWP.skip ?_
      refine andThen_normal ?_
      refine AWP.seq ?_
      refine AWP.region ?_
      refine AOps.lk (LOp.asg (a := .v _) rfl) rfl rfl ?_
      refine AOps.nil ?_
      refine andThen_normal ?_
      refine AWP.seq ?_
      refine AWP.seq ?_
      refine AWP.region ?_
      refine AOps.lk (LOp.asg (a := .v _) rfl) rfl rfl ?_
      refine AOps.nil ?_
      refine andThen_normal ?_
      refine AWP.block ?_
      refine AWP.lazyT 5 1 rfl 2 rfl ?_
      refine AWP.loopC (fun n s => ∃ k : Nat, n = (c.aux.length - k) ∧ s = ⟨frameL [(1, vsA l), (2, .ptr 0 0 0), (5, .sl 1 k 0 k), (6, .v (.int .i64 ((k : Nat) : Int)))], heapL [(0, ⟨0, clA c, 0, false⟩), (1, ⟨k, ((bsAt c l k).map iA).flatten, 1, Nat.beq k 0⟩)], 2⟩ ∧ (k ≤ c.aux.length ∧ ∀ j, j < k → auxP c l j = true)) (n := (c.aux.length - 0)) (s1 := ⟨frameL [(1, vsA l), (2, .ptr 0 0 0), (5, .sl 1 0 0 0), (6, .v (.int .i64 ((0 : Nat) : Int)))], heapL [(0, ⟨0, clA c, 0, false⟩), (1, ⟨0, ((bsAt c l 0).map iA).flatten, 1, Nat.beq 0 0⟩)], 2⟩) (Canon.of (.cons rfl rfl (.cons rfl rfl (.cons rfl rfl (.cons rfl rfl .nil)))) (.cons rfl rfl rfl (.cons (by first | rfl | exact bb_eq (bs_step0 hlt h0) | exact bb_eq (bs_step1 hlt h0)) rfl (low_fl _ _) .nil))) ⟨0, rfl, rfl, ⟨Nat.zero_le _, fun j h => absurd h (Nat.not_lt_zero j)⟩⟩ ?_
      rintro n s ⟨k, rfl, rfl, hinv⟩
      obtain ⟨hk, hj⟩ := hinv
      have haux := hc.aux
      refine AWP.seq ?_
      refine AWP.seq ?_
      refine AWP.region ?_
      refine AOps.lk (LOp.mv (a := .v _) rfl) rfl rfl ?_
      refine AOps.lk (LOp.fieldAddr fi35_2 rfl rfl rfl rfl rfl) rfl rfl ?_
      refine AOps.lk (LOp.load1 row30 rfl rfl rfl rfl rfl) rfl rfl ?_
      refine AOps.lk (LOp.lenT rfl Tryz.underlying30 rfl) rfl rfl ?_
      refine AOps.lk (LOp.plain rfl (fun _ _ => nofun) (fun _ => rfl)) rfl rfl ?_
      refine AOps.nil ?_
      refine andThen_normal ?_
      refine AWP.cond rfl (fun hc29 => ?_) (fun hc29 => ?_)
      · skip
        have hlt : k < c.aux.length := Int.ofNat_lt.1 (of_decide_eq_true hc29)
        have ea : c.aux.getD k default = c.aux[k] := getD_at hlt
        refine AWP.skip ?_
        refine andThen_normal ?_
        refine AWP.seq ?_
        refine AWP.block ?_
        refine AWP.seq ?_
        refine AWP.region ?_
        refine AOps.lk (LOp.fieldAddr fi35_2 rfl rfl rfl rfl rfl) rfl rfl ?_
        refine AOps.lk (LOp.load1 row30 rfl rfl rfl rfl rfl) rfl rfl ?_
        refine AOps.lk (LOp.mv (a := .v _) rfl) rfl rfl ?_
        refine AOps.lk (LOp.indexT Tryz.underlying30 sz81 rfl rfl (by first | assumption | omega)) rfl rfl ?_
        refine AOps.lk (LOp.ldTN row81 rfl rfl) rfl rfl ?_
        refine AOps.nw (LOp.al zr81 rfl) rfl rfl 3 rfl ?_
        refine AOps.wr (LOp.st sz81 rfl rfl rfl rfl rfl rfl rfl rfl) rfl rfl rfl ?_
        refine AOps.nil ?_
        refine andThen_normal ?_
        refine AWP.seq ?_
        refine AWP.seq ?_
        refine AWP.region ?_
        refine AOps.lk (LOp.fieldAddr fi81_1 rfl rfl rfl rfl rfl) rfl rfl ?_
        refine AOps.lk (LOp.load1 row2 rfl rfl rfl rfl rfl) rfl rfl ?_
        refine AOps.lk (LOp.plain rfl (fun _ _ => nofun) (fun _ => rfl)) rfl rfl ?_
        refine AOps.nil ?_
        refine andThen_normal ?_
        refine AWP.cond rfl (fun hc39 => ?_) (fun hc39 => ?_)
        · skip
          have h0 : c.aux[k].by_ = 0 := by simpa using hc39
          refine AWP.seq ?_
          refine AWP.seq ?_
          refine AWP.region ?_
          refine AOps.lk (LOp.fieldAddr fi81_0 rfl rfl rfl rfl rfl) rfl rfl ?_
          refine AOps.lk (LOp.fieldAddr fi79_1 rfl rfl rfl rfl rfl) rfl rfl ?_
          refine AOps.lk (LOp.load1 row77 rfl rfl rfl rfl rfl) rfl rfl ?_
          refine AOps.lk (LOp.lenT rfl Tryz.underlying77 rfl) rfl rfl ?_
          refine AOps.lk (LOp.plain rfl (fun _ _ => nofun) (fun _ => rfl)) rfl rfl ?_
          refine AOps.lk (LOp.mv (a := .v _) rfl) rfl rfl ?_
          refine AOps.splitB 45 rfl (fun hg45 => ?_) (fun hg45 => ?_)
          · skip
            refine AOps.sk rfl rfl ?_
            refine AOps.sk rfl rfl ?_
            refine AOps.sk rfl rfl ?_
            refine AOps.sk rfl rfl ?_
            refine AOps.lk (LOp.pkT (a := .v _) rfl (by first | rfl | assumption) rfl) rfl rfl ?_
            refine AOps.lk (LOp.mv (a := .v _) rfl) rfl rfl ?_
            refine AOps.sk rfl rfl ?_
            refine AOps.sk rfl rfl ?_
            refine AOps.sk rfl rfl ?_
            refine AOps.sk rfl rfl ?_
            refine AOps.sk rfl rfl ?_
            refine AOps.sk rfl rfl ?_
            refine AOps.lk (LOp.pkT (a := .v _) rfl (by first | rfl | assumption) rfl) rfl rfl ?_
            refine AOps.nil ?_
            refine andThen_normal ?_
            refine AWP.condT rfl ?_
            refine AWP.seq ?_
            refine AWP.region ?_
            refine AOps.lk (LOp.asg (a := .v _) rfl) rfl rfl ?_
            refine AOps.nil ?_
            refine andThen_normal ?_
            refine AWP.ret (andThen_ret (andThen_ret (inBlk_ret (andThen_ret (andThen_ret (inBlk_ret (andThen_ret (?_))))))))
            refine ⟨.inr rfl, Outs.val Tryz.results38 rfl rfl ?_⟩
            exact vb_eq (clB_aux hlt (by unfold auxP; rw [ea, if_pos h0]; simp_all; done))
          · skip
            refine AOps.lk (LOp.fieldAddr fi81_0 rfl rfl rfl rfl rfl) rfl rfl ?_
            refine AOps.lk (LOp.fieldAddr fi79_0 rfl rfl rfl rfl rfl) rfl rfl ?_
            refine AOps.lk (LOp.load1 row2 rfl rfl rfl rfl rfl) rfl rfl ?_
            refine AOps.lk (LOp.plain rfl (fun _ _ => nofun) (fun _ => rfl)) rfl rfl ?_
            refine AOps.lk (LOp.pickB rfl rfl rfl) rfl rfl ?_
            refine AOps.lk (LOp.mv (a := .v _) rfl) rfl rfl ?_
            refine AOps.splitB 51 rfl (fun hg51 => ?_) (fun hg51 => ?_)
            · skip
              refine AOps.sk rfl rfl ?_
              refine AOps.sk rfl rfl ?_
              refine AOps.sk rfl rfl ?_
              refine AOps.sk rfl rfl ?_
              refine AOps.sk rfl rfl ?_
              refine AOps.sk rfl rfl ?_
              refine AOps.lk (LOp.pkT (a := .v _) rfl (by first | rfl | assumption) rfl) rfl rfl ?_
              refine AOps.nil ?_
              refine andThen_normal ?_
              refine AWP.condT rfl ?_
              refine AWP.seq ?_
              refine AWP.region ?_
              refine AOps.lk (LOp.asg (a := .v _) rfl) rfl rfl ?_
              refine AOps.nil ?_
              refine andThen_normal ?_
              refine AWP.ret (andThen_ret (andThen_ret (inBlk_ret (andThen_ret (andThen_ret (inBlk_ret (andThen_ret (?_))))))))
              refine ⟨.inr rfl, Outs.val Tryz.results38 rfl rfl ?_⟩
              exact vb_eq (clB_aux hlt (by unfold auxP; rw [ea, if_pos h0]; simp_all; done))
            · skip
              refine AOps.lk (LOp.fieldAddr fi81_2 rfl rfl rfl rfl rfl) rfl rfl ?_
              refine AOps.lk (LOp.load1 row3 rfl rfl rfl rfl rfl) rfl rfl ?_
              refine AOps.lk (LOp.ldN row35 rfl rfl rfl rfl rfl) rfl rfl ?_
              refine AOps.lk (LOp.mv (a := .tree _ _) rfl) rfl rfl ?_
              refine AOps.lk (LOp.call bod74 rfl (txt_p c.aux[k].tx c l hc.nn hl)) rfl rfl ?_
              refine AOps.lk (LOp.plain rfl (fun _ _ => nofun) (fun _ => rfl)) rfl rfl ?_
              refine AOps.lk (LOp.pickB rfl rfl rfl) rfl rfl ?_
              refine AOps.nil ?_
              refine andThen_normal ?_
              refine AWP.cond rfl (fun hc58 => ?_) (fun hc58 => ?_)
              · skip
                have hax : auxP c l k = false := by unfold auxP; rw [ea, if_pos h0]; simp_all
                refine AWP.seq ?_
                refine AWP.region ?_
                refine AOps.lk (LOp.asg (a := .v _) rfl) rfl rfl ?_
                refine AOps.nil ?_
                refine andThen_normal ?_
                refine AWP.ret (andThen_ret (andThen_ret (inBlk_ret (andThen_ret (andThen_ret (inBlk_ret (andThen_ret (?_))))))))
                refine ⟨.inr rfl, Outs.val Tryz.results38 rfl rfl ?_⟩
                exact vb_eq (clB_aux hlt hax)
              · skip
                have hax : auxP c l k = true := by unfold auxP; rw [ea, if_pos h0]; simp_all
                refine AWP.skip ?_
                refine andThen_normal ?_
                refine AWP.seq ?_
                refine AWP.region ?_
                refine AOps.lk (LOp.mv (a := .sl _ _ _ _) rfl) rfl rfl ?_
                refine AOps.nw (LOp.bs Tryz.underlying137 sz2 zr2 rfl rfl rfl rfl) rfl rfl 4 rfl ?_
                refine AOps.gv (LOp.appendA (m := 1) (news := [.v (.int .i64 _)]) Tryz.underlying137 sz2 zr2 by2 rfl rfl rfl rfl (by rw [fl_len, bsAt_len, Nat.mul_one]) (Src.slB rfl rfl rfl rfl) (by decide) rfl rfl (by omega) (by omega) (by unfold TV; omega)) rfl rfl 4 rfl rfl ?_
                refine AOps.lk (LOp.asg (a := .sl _ _ _ _) rfl) rfl rfl ?_
                refine AOps.nil ?_
                refine andThen_normal ?_
                refine AWP.exit (andThen_exit (inBlk_exit ?_))
                refine andThen_normal ?_
                refine AWP.region ?_
                refine AOps.lk (LOp.mv (a := .v _) rfl) rfl rfl ?_
                refine AOps.lk (LOp.addI rfl rfl (by omega) (by omega)) rfl rfl ?_
                refine AOps.lk (LOp.asg (a := .v _) rfl) rfl rfl ?_
                refine AOps.nil ?_
                refine andThen_normal ?_
                refine ⟨(c.aux.length - (k + 1)), ⟨frameL [(1, vsA l), (2, .ptr 0 0 0), (5, .sl 1 (k + 1) 0 (k + 1)), (6, .v (.int .i64 (((k + 1) : Nat) : Int)))], heapL [(0, ⟨0, clA c, 0, false⟩), (1, ⟨(k + 1), ((bsAt c l (k + 1)).map iA).flatten, 1, Nat.beq (k + 1) 0⟩)], 2⟩, by omega, (Canon.of (.cons rfl rfl (.cons rfl rfl (.cons rfl rfl (.cons rfl rfl .nil)))) (.cons rfl rfl rfl (.cons (by first | rfl | exact bb_eq (bs_step0 hlt h0) | exact bb_eq (bs_step1 hlt h0)) rfl (low_fl _ _) .nil))), k + 1, rfl, rfl, ?_⟩
                refine ⟨by omega, fun j h => ?_⟩
                rcases Nat.lt_succ_iff_lt_or_eq.1 h with h | rfl
                · exact hj j h
                · first | exact hax | skip
        · skip
          have h0 : ¬ c.aux[k].by_ = 0 := by simpa using hc39
          refine AWP.skip ?_
          refine andThen_normal ?_
          refine AWP.seq ?_
          refine AWP.region ?_
          refine AOps.lk (LOp.fieldAddr fi81_0 rfl rfl rfl rfl rfl) rfl rfl ?_
          refine AOps.lk (LOp.ldN row79 rfl rfl rfl rfl rfl) rfl rfl ?_
          refine AOps.lk (LOp.ldN row35 rfl rfl rfl rfl rfl) rfl rfl ?_
          refine AOps.lk (LOp.mv (a := .tree _ _) rfl) rfl rfl ?_
          refine AOps.lk (LOp.mv (a := .sl _ _ _ _) rfl) rfl rfl ?_
          refine AOps.lk (LOp.callB [1] bod75 rfl (fun i h h' => match i, h with | 0, _ => FzP.pure rfl | 1, _ => FzP.pure rfl | 2, _ => FzP.pure rfl | 3, _ => FzP.bounds (List.mem_singleton.2 rfl) rfl (bsAt_len _ _ _)) (form_p c.aux[k].of_ c l (bsAt c l k) (hc.auxc _ (List.getElem_mem _)) hc.nn hl (by rw [bsAt_len]; omega) (bsAt_rng k hj))) rfl rfl ?_
          refine AOps.lk (LOp.asg (a := .v _) rfl) rfl rfl ?_
          refine AOps.nil ?_
          refine andThen_normal ?_
          refine AWP.seq ?_
          refine AWP.seq ?_
          refine AWP.region ?_
          refine AOps.lk (LOp.fieldAddr fi81_1 rfl rfl rfl rfl rfl) rfl rfl ?_
          refine AOps.lk (LOp.load1 row2 rfl rfl rfl rfl rfl) rfl rfl ?_
          refine AOps.lk (LOp.call bod76 rfl (wi_p c.aux[k].by_ 1 1000)) rfl rfl ?_
          refine AOps.lk (LOp.plain rfl (fun _ _ => nofun) (fun _ => rfl)) rfl rfl ?_
          refine AOps.lk (LOp.mv (a := .v _) rfl) rfl rfl ?_
          refine AOps.splitB 72 rfl (fun hg72 => ?_) (fun hg72 => ?_)
          · skip
            refine AOps.sk rfl rfl ?_
            refine AOps.sk rfl rfl ?_
            refine AOps.sk rfl rfl ?_
            refine AOps.lk (LOp.pkT (a := .v _) rfl (by first | rfl | assumption) rfl) rfl rfl ?_
            refine AOps.lk (LOp.mv (a := .v _) rfl) rfl rfl ?_
            refine AOps.sk rfl rfl ?_
            refine AOps.sk rfl rfl ?_
            refine AOps.lk (LOp.pkT (a := .v _) rfl (by first | rfl | assumption) rfl) rfl rfl ?_
            refine AOps.nil ?_
            refine andThen_normal ?_
            refine AWP.condT rfl ?_
            refine AWP.seq ?_
            refine AWP.region ?_
            refine AOps.lk (LOp.asg (a := .v _) rfl) rfl rfl ?_
            refine AOps.nil ?_
            refine andThen_normal ?_
            refine AWP.ret (andThen_ret (inBlk_ret (andThen_ret (andThen_ret (inBlk_ret (andThen_ret (?_)))))))
            refine ⟨.inr rfl, Outs.val Tryz.results38 rfl rfl ?_⟩
            exact vb_eq (clB_aux hlt (by unfold auxP; rw [ea, if_neg h0]; simp_all; done))
          · skip
            refine AOps.lk (LOp.fieldAddr fi81_2 rfl rfl rfl rfl rfl) rfl rfl ?_
            refine AOps.lk (LOp.load1 row3 rfl rfl rfl rfl rfl) rfl rfl ?_
            refine AOps.lk (LOp.plain rfl (fun _ _ => nofun) (fun _ => rfl)) rfl rfl ?_
            refine AOps.lk (LOp.pickB rfl rfl rfl) rfl rfl ?_
            refine AOps.lk (LOp.mv (a := .v _) rfl) rfl rfl ?_
            refine AOps.splitB 77 rfl (fun hg77 => ?_) (fun hg77 => ?_)
            · skip
              refine AOps.sk rfl rfl ?_
              refine AOps.sk rfl rfl ?_
              refine AOps.lk (LOp.pkT (a := .v _) rfl (by first | rfl | assumption) rfl) rfl rfl ?_
              refine AOps.nil ?_
              refine andThen_normal ?_
              refine AWP.condT rfl ?_
              refine AWP.seq ?_
              refine AWP.region ?_
              refine AOps.lk (LOp.asg (a := .v _) rfl) rfl rfl ?_
              refine AOps.nil ?_
              refine andThen_normal ?_
              refine AWP.ret (andThen_ret (inBlk_ret (andThen_ret (andThen_ret (inBlk_ret (andThen_ret (?_)))))))
              refine ⟨.inr rfl, Outs.val Tryz.results38 rfl rfl ?_⟩
              exact vb_eq (clB_aux hlt (by unfold auxP; rw [ea, if_neg h0]; simp_all; done))
            · skip
              refine AOps.lk (LOp.mv (a := .v _) rfl) rfl rfl ?_
              refine AOps.lk (LOp.plain rfl (fun _ _ => nofun) (fun _ => rfl)) rfl rfl ?_
              refine AOps.lk (LOp.pickB rfl rfl rfl) rfl rfl ?_
              refine AOps.nil ?_
              refine andThen_normal ?_
              refine AWP.cond rfl (fun hc80 => ?_) (fun hc80 => ?_)
              · skip
                have hax : auxP c l k = false := by unfold auxP; rw [ea, if_neg h0]; simp_all
                refine AWP.seq ?_
                refine AWP.region ?_
                refine AOps.lk (LOp.asg (a := .v _) rfl) rfl rfl ?_
                refine AOps.nil ?_
                refine andThen_normal ?_
                refine AWP.ret (andThen_ret (inBlk_ret (andThen_ret (andThen_ret (inBlk_ret (andThen_ret (?_)))))))
                refine ⟨.inr rfl, Outs.val Tryz.results38 rfl rfl ?_⟩
                exact vb_eq (clB_aux hlt hax)
              · skip
                have hax : auxP c l k = true := by unfold auxP; rw [ea, if_neg h0]; simp_all
                have hq := hax
                unfold auxP at hq
                rw [ea, if_neg h0] at hq
                simp only [Bool.and_eq_true, wiB, decide_eq_true_eq, Bool.not_eq_true', decide_eq_false_iff_not, beq_iff_eq] at hq
                have hfle := fV_le (f := c.aux[k].of_) (nn := c.nn) (l := l) (bsAt_rng k hj)
                have hd1 := Int.ediv_le_self (a := fV c.aux[k].of_ c.nn l (bsAt c l k)) c.aux[k].by_ (by omega)
                have hd2 := Int.ediv_nonneg (a := fV c.aux[k].of_ c.nn l (bsAt c l k)) (b := c.aux[k].by_) (by omega) (by omega)
                refine AWP.skip ?_
                refine andThen_normal ?_
                refine AWP.region ?_
                refine AOps.lk (LOp.mv (a := .sl _ _ _ _) rfl) rfl rfl ?_
                refine AOps.lk (LOp.mv (a := .v _) rfl) rfl rfl ?_
                refine AOps.lk (LOp.fieldAddr fi81_1 rfl rfl rfl rfl rfl) rfl rfl ?_
                refine AOps.lk (LOp.load1 row2 rfl rfl rfl rfl rfl) rfl rfl ?_
                refine AOps.lk (LOp.quoI rfl rfl (by omega) (by omega) (by omega)) rfl rfl ?_
                refine AOps.lk (LOp.addI rfl rfl (by omega) (by omega)) rfl rfl ?_
                refine AOps.nw (LOp.bs Tryz.underlying137 sz2 zr2 rfl rfl rfl rfl) rfl rfl 4 rfl ?_
                refine AOps.gv (LOp.appendA (m := 1) (news := [.v (.int .i64 _)]) Tryz.underlying137 sz2 zr2 by2 rfl rfl rfl rfl (by rw [fl_len, bsAt_len, Nat.mul_one]) (Src.slB rfl rfl rfl rfl) (by decide) rfl rfl (by omega) (by omega) (by unfold TV; omega)) rfl rfl 4 rfl rfl ?_
                refine AOps.lk (LOp.asg (a := .sl _ _ _ _) rfl) rfl rfl ?_
                refine AOps.nil ?_
                refine inBlk_normal ?_
                refine andThen_normal ?_
                refine AWP.region ?_
                refine AOps.lk (LOp.mv (a := .v _) rfl) rfl rfl ?_
                refine AOps.lk (LOp.addI rfl rfl (by omega) (by omega)) rfl rfl ?_
                refine AOps.lk (LOp.asg (a := .v _) rfl) rfl rfl ?_
                refine AOps.nil ?_
                refine andThen_normal ?_
                refine ⟨(c.aux.length - (k + 1)), ⟨frameL [(1, vsA l), (2, .ptr 0 0 0), (5, .sl 1 (k + 1) 0 (k + 1)), (6, .v (.int .i64 (((k + 1) : Nat) : Int)))], heapL [(0, ⟨0, clA c, 0, false⟩), (1, ⟨(k + 1), ((bsAt c l (k + 1)).map iA).flatten, 1, Nat.beq (k + 1) 0⟩)], 2⟩, by omega, (Canon.of (.cons rfl rfl (.cons rfl rfl (.cons rfl rfl (.cons rfl rfl .nil)))) (.cons rfl rfl rfl (.cons (by first | rfl | exact bb_eq (bs_step0 hlt h0) | exact bb_eq (bs_step1 hlt h0)) rfl (low_fl _ _) .nil))), k + 1, rfl, rfl, ?_⟩
                refine ⟨by omega, fun j h => ?_⟩
                rcases Nat.lt_succ_iff_lt_or_eq.1 h with h | rfl
                · exact hj j h
                · first | exact hax | skip
      · skip
        have hge : ¬ k < c.aux.length := fun h => of_decide_eq_false hc29 (Int.ofNat_lt.2 h)
        have hA : allN c.aux.length (auxP c l) = true := allN_end hk hge hj
        have hkA : k = c.aux.length := by omega
        subst hkA
        have hAj := hj
        clear hj hk hge
        refine AWP.exit (andThen_exit (andThen_exit (inBlk_exit ?_)))
        refine andThen_normal ?_
        refine AWP.seq ?_
        refine AWP.seq ?_
        refine AWP.region ?_
        refine AOps.lk (LOp.asg (a := .v _) rfl) rfl rfl ?_
        refine AOps.nil ?_
        refine andThen_normal ?_
        refine AWP.block ?_
        refine AWP.loopC (fun n s => ∃ k2 : Nat, n = (c.ints.length - k2) ∧ s = ⟨frameL [(1, vsA l), (2, .ptr 0 0 0), (5, .sl 1 c.aux.length 0 c.aux.length), (9, .v (.int .i64 ((k2 : Nat) : Int)))], heapL [(0, ⟨0, clA c, 0, false⟩), (1, ⟨c.aux.length, ((bsAt c l c.aux.length).map iA).flatten, 1, Nat.beq c.aux.length 0⟩)], 2⟩ ∧ (k2 ≤ c.ints.length ∧ ∀ j, j < k2 → intP c l j = true)) (n := (c.ints.length - 0)) (s1 := ⟨frameL [(1, vsA l), (2, .ptr 0 0 0), (5, .sl 1 c.aux.length 0 c.aux.length), (9, .v (.int .i64 ((0 : Nat) : Int)))], heapL [(0, ⟨0, clA c, 0, false⟩), (1, ⟨c.aux.length, ((bsAt c l c.aux.length).map iA).flatten, 1, Nat.beq c.aux.length 0⟩)], 2⟩) (Canon.of (.cons rfl rfl (.cons rfl rfl (.cons rfl rfl (.cons rfl rfl .nil)))) (.cons rfl rfl rfl (.cons rfl rfl (low_fl _ _) .nil))) ⟨0, rfl, rfl, ⟨Nat.zero_le _, fun j h => absurd h (Nat.not_lt_zero j)⟩⟩ ?_
        rintro n s ⟨k2, rfl, rfl, hinv⟩
        obtain ⟨hk, hj⟩ := hinv
        have haux := hc.aux
        have hints := hc.ints
        refine AWP.seq ?_
        refine AWP.seq ?_
        refine AWP.region ?_
        refine AOps.lk (LOp.mv (a := .v _) rfl) rfl rfl ?_
        refine AOps.lk (LOp.fieldAddr fi35_3 rfl rfl rfl rfl rfl) rfl rfl ?_
        refine AOps.lk (LOp.load1 row31 rfl rfl rfl rfl rfl) rfl rfl ?_
        refine AOps.lk (LOp.lenT rfl Tryz.underlying31 rfl) rfl rfl ?_
        refine AOps.lk (LOp.plain rfl (fun _ _ => nofun) (fun _ => rfl)) rfl rfl ?_
        refine AOps.nil ?_
        refine andThen_normal ?_
        refine AWP.cond rfl (fun hc93 => ?_) (fun hc93 => ?_)
        · skip
          have hlt : k2 < c.ints.length := Int.ofNat_lt.1 (of_decide_eq_true hc93)
          refine AWP.skip ?_
          refine andThen_normal ?_
          refine AWP.seq ?_
          refine AWP.block ?_
          refine AWP.seq ?_
          refine AWP.regD mixed ?_
          refine SeqC.lk (LOp.fieldAddr fi35_3 rfl rfl rfl rfl rfl) rfl rfl ?_
          refine SeqC.lk (LOp.load1 row31 rfl rfl rfl rfl rfl) rfl rfl ?_
          refine SeqC.lk (LOp.mv (a := .v _) rfl) rfl rfl ?_
          refine SeqC.lk (LOp.indexT Tryz.underlying31 sz84 rfl rfl (by first | assumption | omega)) rfl rfl ?_
          refine SeqC.lk (LOp.fieldAddrT fi84_0 rfl rfl) rfl rfl ?_
          refine SeqC.lk (LOp.ldTN row79 rfl rfl) rfl rfl ?_
          refine SeqC.lk (LOp.ldN row35 rfl rfl rfl rfl rfl) rfl rfl ?_
          refine SeqC.lk (LOp.mv (a := .tree _ _) rfl) rfl rfl ?_
          refine SeqC.lk (LOp.mv (a := .sl _ _ _ _) rfl) rfl rfl ?_
          refine SeqC.lk (LOp.callB [1] bod75 rfl (fun i h h' => match i, h with | 0, _ => FzP.pure rfl | 1, _ => FzP.pure rfl | 2, _ => FzP.pure rfl | 3, _ => FzP.bounds (List.mem_singleton.2 rfl) rfl (bsAt_len _ _ _)) (form_p c.ints[k2].l c l (bsAt c l c.aux.length) (hc.intc _ (List.getElem_mem _)) hc.nn hl (by rw [bsAt_len]; omega) (bsAt_rng c.aux.length hAj))) rfl rfl ?_
          refine SeqC.lk (LOp.plain rfl (fun _ _ => nofun) (fun _ => rfl)) rfl rfl ?_
          refine SeqC.nil ⟨by kernel_rfl, ?_⟩
          refine andThen_normal ?_
          refine AWP.cond rfl (fun hc106 => ?_) (fun hc106 => ?_)
          · skip
            refine AWP.seq ?_
            refine AWP.region ?_
            refine AOps.lk (LOp.asg (a := .v _) rfl) rfl rfl ?_
            refine AOps.nil ?_
            refine andThen_normal ?_
            refine AWP.ret (inBlk_ret (andThen_ret (andThen_ret (inBlk_ret (andThen_ret (?_))))))
            refine ⟨.inr rfl, Outs.val Tryz.results38 rfl rfl ?_⟩
            exact vb_eq (clB_int hlt (by simp only [intP, getD_at hlt]; simp_all))
          · skip
            refine AWP.skip ?_
            refine inBlk_normal ?_
            refine andThen_normal ?_
            refine AWP.region ?_
            refine AOps.lk (LOp.mv (a := .v _) rfl) rfl rfl ?_
            refine AOps.lk (LOp.addI rfl rfl (by omega) (by omega)) rfl rfl ?_
            refine AOps.lk (LOp.asg (a := .v _) rfl) rfl rfl ?_
            refine AOps.nil ?_
            refine andThen_normal ?_
            refine ⟨(c.ints.length - (k2 + 1)), ⟨frameL [(1, vsA l), (2, .ptr 0 0 0), (5, .sl 1 c.aux.length 0 c.aux.length), (9, .v (.int .i64 (((k2 + 1) : Nat) : Int)))], heapL [(0, ⟨0, clA c, 0, false⟩), (1, ⟨c.aux.length, ((bsAt c l c.aux.length).map iA).flatten, 1, Nat.beq c.aux.length 0⟩)], 2⟩, by omega, (Canon.of (.cons rfl rfl (.cons rfl rfl (.cons rfl rfl (.cons rfl rfl .nil)))) (.cons rfl rfl rfl (.cons rfl rfl (low_fl _ _) .nil))), k2 + 1, rfl, rfl, ?_⟩
            refine ⟨by omega, fun j h => ?_⟩
            rcases Nat.lt_succ_iff_lt_or_eq.1 h with h | rfl
            · exact hj j h
            · simp only [intP, getD_at hlt]; simp_all
        · skip
          have hge : ¬ k2 < c.ints.length := fun h => of_decide_eq_false hc93 (Int.ofNat_lt.2 h)
          have hB : allN c.ints.length (intP c l) = true := allN_end hk hge hj
          clear hj hk hge
          refine AWP.exit (andThen_exit (andThen_exit (inBlk_exit ?_)))
          refine andThen_normal ?_
          refine AWP.seq ?_
          refine AWP.seq ?_
          refine AWP.region ?_
          refine AOps.lk (LOp.asg (a := .v _) rfl) rfl rfl ?_
          refine AOps.nil ?_
          refine andThen_normal ?_
          refine AWP.block ?_
          refine AWP.loopC (fun n s => ∃ k3 : Nat, n = (c.tests.length - k3) ∧ s = ⟨frameL [(1, vsA l), (2, .ptr 0 0 0), (10, .v (.int .i64 ((k3 : Nat) : Int)))], heapL [(0, ⟨0, clA c, 0, false⟩)], 1⟩ ∧ (k3 ≤ c.tests.length ∧ ∀ j, j < k3 → tstP c l j = true)) (n := (c.tests.length - 0)) (s1 := ⟨frameL [(1, vsA l), (2, .ptr 0 0 0), (10, .v (.int .i64 ((0 : Nat) : Int)))], heapL [(0, ⟨0, clA c, 0, false⟩)], 1⟩) (Canon.of (.cons rfl rfl (.cons rfl rfl (.cons rfl rfl .nil))) (.cons rfl rfl rfl .nil)) ⟨0, rfl, rfl, ⟨Nat.zero_le _, fun j h => absurd h (Nat.not_lt_zero j)⟩⟩ ?_
          rintro n s ⟨k3, rfl, rfl, hinv⟩
          obtain ⟨hk, hj⟩ := hinv
          have htests := hc.tests
          refine AWP.seq ?_
          refine AWP.seq ?_
          refine AWP.region ?_
          refine AOps.lk (LOp.mv (a := .v _) rfl) rfl rfl ?_
          refine AOps.lk (LOp.fieldAddr fi35_4 rfl rfl rfl rfl rfl) rfl rfl ?_
          refine AOps.lk (LOp.load1 row32 rfl rfl rfl rfl rfl) rfl rfl ?_
          refine AOps.lk (LOp.lenT rfl Tryz.underlying32 rfl) rfl rfl ?_
          refine AOps.lk (LOp.plain rfl (fun _ _ => nofun) (fun _ => rfl)) rfl rfl ?_
          refine AOps.nil ?_
          refine andThen_normal ?_
          refine AWP.cond rfl (fun hc111 => ?_) (fun hc111 => ?_)
          · skip
            have hlt : k3 < c.tests.length := Int.ofNat_lt.1 (of_decide_eq_true hc111)
            refine AWP.skip ?_
            refine andThen_normal ?_
            refine AWP.seq ?_
            refine AWP.block ?_
            refine AWP.seq ?_
            refine AWP.regD mixed ?_
            refine SeqC.lk (LOp.fieldAddr fi35_4 rfl rfl rfl rfl rfl) rfl rfl ?_
            refine SeqC.lk (LOp.load1 row32 rfl rfl rfl rfl rfl) rfl rfl ?_
            refine SeqC.lk (LOp.mv (a := .v _) rfl) rfl rfl ?_
            refine SeqC.lk (LOp.indexT Tryz.underlying32 sz52 rfl rfl (by first | assumption | omega)) rfl rfl ?_
            refine SeqC.lk (LOp.ldTN row52 rfl rfl) rfl rfl ?_
            refine SeqC.lk (LOp.call bod77 rfl (tes_p c.tests[k3] (hc.tes _ (List.getElem_mem _)))) rfl rfl ?_
            refine SeqC.lk (LOp.plain rfl (fun _ _ => nofun) (fun _ => rfl)) rfl rfl ?_
            refine SeqC.lk (LOp.mv (a := .v _) rfl) rfl rfl ?_
            refine SeqC.splitB 121 rfl (fun hg121 => ?_) (fun hg121 => ?_)
            · skip
              refine SeqC.sk rfl rfl ?_
              refine SeqC.sk rfl rfl ?_
              refine SeqC.sk rfl rfl ?_
              refine SeqC.sk rfl rfl ?_
              refine SeqC.sk rfl rfl ?_
              refine SeqC.sk rfl rfl ?_
              refine SeqC.sk rfl rfl ?_
              refine SeqC.sk rfl rfl ?_
              refine SeqC.sk rfl rfl ?_
              refine SeqC.sk rfl rfl ?_
              refine SeqC.lk (LOp.pkT (a := .v _) rfl (by first | rfl | assumption) rfl) rfl rfl ?_
              refine SeqC.nil ⟨by kernel_rfl, ?_⟩
              refine andThen_normal ?_
              refine AWP.condT rfl ?_
              refine AWP.seq ?_
              refine AWP.region ?_
              refine AOps.lk (LOp.asg (a := .v _) rfl) rfl rfl ?_
              refine AOps.nil ?_
              refine andThen_normal ?_
              refine AWP.ret (inBlk_ret (andThen_ret (andThen_ret (inBlk_ret (andThen_ret (?_))))))
              refine ⟨.inr rfl, Outs.val Tryz.results38 rfl rfl ?_⟩
              exact vb_eq (clB_tst hlt (by simp only [tstP, getD_at hlt]; simp_all))
            · skip
              refine SeqC.lk (LOp.fieldAddr fi35_4 rfl rfl rfl rfl rfl) rfl rfl ?_
              refine SeqC.lk (LOp.load1 row32 rfl rfl rfl rfl rfl) rfl rfl ?_
              refine SeqC.lk (LOp.mv (a := .v _) rfl) rfl rfl ?_
              refine SeqC.lk (LOp.indexT Tryz.underlying32 sz52 rfl rfl (by first | assumption | omega)) rfl rfl ?_
              refine SeqC.lk (LOp.fieldAddrT fi52_0 rfl rfl) rfl rfl ?_
              refine SeqC.lk (LOp.loadT1 row3 rfl rfl) rfl rfl ?_
              refine SeqC.lk (LOp.ldN row35 rfl rfl rfl rfl rfl) rfl rfl ?_
              refine SeqC.lk (LOp.mv (a := .tree _ _) rfl) rfl rfl ?_
              refine SeqC.lk (LOp.call bod74 rfl (txt_p c.tests[k3].v c l hc.nn hl)) rfl rfl ?_
              refine SeqC.lk (LOp.plain rfl (fun _ _ => nofun) (fun _ => rfl)) rfl rfl ?_
              refine SeqC.lk (LOp.pickB rfl rfl rfl) rfl rfl ?_
              refine SeqC.nil ⟨by kernel_rfl, ?_⟩
              refine andThen_normal ?_
              refine AWP.cond rfl (fun hc132 => ?_) (fun hc132 => ?_)
              · skip
                refine AWP.seq ?_
                refine AWP.region ?_
                refine AOps.lk (LOp.asg (a := .v _) rfl) rfl rfl ?_
                refine AOps.nil ?_
                refine andThen_normal ?_
                refine AWP.ret (inBlk_ret (andThen_ret (andThen_ret (inBlk_ret (andThen_ret (?_))))))
                refine ⟨.inr rfl, Outs.val Tryz.results38 rfl rfl ?_⟩
                exact vb_eq (clB_tst hlt (by simp only [tstP, getD_at hlt]; simp_all))
              · skip
                refine AWP.skip ?_
                refine inBlk_normal ?_
                refine andThen_normal ?_
                refine AWP.region ?_
                refine AOps.lk (LOp.mv (a := .v _) rfl) rfl rfl ?_
                refine AOps.lk (LOp.addI rfl rfl (by omega) (by omega)) rfl rfl ?_
                refine AOps.lk (LOp.asg (a := .v _) rfl) rfl rfl ?_
                refine AOps.nil ?_
                refine andThen_normal ?_
                refine ⟨(c.tests.length - (k3 + 1)), ⟨frameL [(1, vsA l), (2, .ptr 0 0 0), (10, .v (.int .i64 (((k3 + 1) : Nat) : Int)))], heapL [(0, ⟨0, clA c, 0, false⟩)], 1⟩, by omega, (Canon.of (.cons rfl rfl (.cons rfl rfl (.cons rfl rfl .nil))) (.cons rfl rfl rfl .nil)), k3 + 1, rfl, rfl, ?_⟩
                refine ⟨by omega, fun j h => ?_⟩
                rcases Nat.lt_succ_iff_lt_or_eq.1 h with h | rfl
                · exact hj j h
                · simp only [tstP, getD_at hlt]; simp_all
          · skip
            have hge : ¬ k3 < c.tests.length := fun h => of_decide_eq_false hc111 (Int.ofNat_lt.2 h)
            refine AWP.exit (andThen_exit (andThen_exit (inBlk_exit ?_)))
            refine andThen_normal ?_
            refine AWP.seq ?_
            refine AWP.region ?_
            refine AOps.lk (LOp.fieldAddr fi35_5 rfl rfl rfl rfl rfl) rfl rfl ?_
            refine AOps.lk (LOp.load1 row33 rfl rfl rfl rfl rfl) rfl rfl ?_
            refine AOps.lk (LOp.ldN row35 rfl rfl rfl rfl rfl) rfl rfl ?_
            refine AOps.lk (LOp.mv (a := .tree _ _) rfl) rfl rfl ?_
            refine AOps.lk (LOp.call bod78 rfl (pai_p c.same c l hc.same hc.nn hl)) rfl rfl ?_
            refine AOps.lk (LOp.mv (a := .v _) rfl) rfl rfl ?_
            refine AOps.splitB 138 rfl (fun hg138 => ?_) (fun hg138 => ?_)
            · skip
              refine AOps.lk (LOp.fieldAddr fi35_6 rfl rfl rfl rfl rfl) rfl rfl ?_
              refine AOps.lk (LOp.load1 row33 rfl rfl rfl rfl rfl) rfl rfl ?_
              refine AOps.lk (LOp.ldN row35 rfl rfl rfl rfl rfl) rfl rfl ?_
              refine AOps.lk (LOp.mv (a := .tree _ _) rfl) rfl rfl ?_
              refine AOps.lk (LOp.call bod78 rfl (pai_p c.diff c l hc.diff hc.nn hl)) rfl rfl ?_
              refine AOps.lk (LOp.pickB rfl rfl rfl) rfl rfl ?_
              refine AOps.lk (LOp.asg (a := .v _) rfl) rfl rfl ?_
              refine AOps.nil ?_
              refine andThen_normal ?_
              refine AWP.ret (?_)
              refine ⟨.inr rfl, Outs.val Tryz.results38 rfl rfl ?_⟩
              refine vb_eq ?_; unfold clB; rw [hn1, hn2, hA, hB, allN_end hk hge hj]; simp_all; done
            · skip
              refine AOps.sk rfl rfl ?_
              refine AOps.sk rfl rfl ?_
              refine AOps.sk rfl rfl ?_
              refine AOps.sk rfl rfl ?_
              refine AOps.sk rfl rfl ?_
              refine AOps.lk (LOp.pkF (a := .v _) rfl (by first | rfl | assumption) rfl) rfl rfl ?_
              refine AOps.lk (LOp.asg (a := .v _) rfl) rfl rfl ?_
              refine AOps.nil ?_
              refine andThen_normal ?_
              refine AWP.ret (?_)
              refine ⟨.inr rfl, Outs.val Tryz.results38 rfl rfl ?_⟩
              refine vb_eq ?_; unfold clB; simp_all; done
end Go.Proofs.YtgknefkobpnjaaaGreatDoor
/- Predicates of the reference; small clauses. -/
namespace Go.Proofs.YtgknefkobpnjaaaGreatDoor
set_option linter.unusedVariables false
set_option linter.unusedSimpArgs false
open Go.RowKit
def clsP (p : PPred) (j : Nat) : Bool := clB (p.cls.getD j default) p.vars
def badP (p : PPred) (n : Int) : Bool := decide (p.tab < 0) || p.cols != n || decide (n < 1) || decide (n > p.vars.length) || !domB p.vars || decide ((p.cls.length : Int) > 256)
/-- Is a predicate valid? -/
def refB (p : PPred) (n : Int) : Bool := !badP p n && allN p.cls.length (clsP p)
/-- A predicate that is not great. -/
structure PPred.Ok (p : PPred) : Prop where
  vars : p.vars.length ≤ 1000
  cls : p.cls.length ≤ 1000
  each : ∀ c ∈ p.cls, c.Ok
abbrev GR : Nat := 140737488355328
/-- A clause as it may come. -/
structure PCl.Fits (c : PCl) : Prop where
  nul : c.nul.length ≤ 140737488355328
  nn : c.nn.length ≤ 140737488355328
  aux : c.aux.length ≤ 140737488355328
  ints : c.ints.length ≤ 140737488355328
  tests : c.tests.length ≤ 140737488355328
  same : c.same.length ≤ 140737488355328
  diff : c.diff.length ≤ 140737488355328
  auxc : ∀ a ∈ c.aux, a.of_.cs.length ≤ 140737488355328
  intc : ∀ a ∈ c.ints, a.l.cs.length ≤ 140737488355328
  tes : ∀ a ∈ c.tests, a.s.size ≤ 140737488355328
def fewN (c : PCl) : Nat := c.nul.length + c.nn.length + c.aux.length + c.ints.length + c.tests.length + c.same.length + c.diff.length
def sumA (c : PCl) : Nat → Nat
  | 0 => 0
  | j + 1 => sumA c j + (c.aux.getD j default).of_.cs.length
def sumI (c : PCl) : Nat → Nat
  | 0 => 0
  | j + 1 => sumI c j + (c.ints.getD j default).l.cs.length
def txtP (c : PCl) (j : Nat) : Bool := !decide (((c.tests.getD j default).s.size : Int) > 40)
/-- Is a clause small enough for the statements? -/
def fewB (c : PCl) : Bool := !decide ((fewN c : Int) > 80) && allN c.tests.length (txtP c) && decide (((fewN c + sumA c c.aux.length + sumI c c.ints.length : Nat) : Int) ≤ 400)
theorem sumA_le {c : PCl} (hc : c.Fits) : ∀ k, k ≤ c.aux.length → sumA c k ≤ k * 140737488355328
  | 0, _ => Nat.le_refl _
  | k + 1, h => by
    have ih := sumA_le hc k (by omega)
    have hk : k < c.aux.length := h
    have h1 := hc.auxc _ (List.getElem_mem hk)
    have h2 : sumA c (k + 1) = sumA c k + c.aux[k].of_.cs.length := by show sumA c k + (c.aux.getD k default).of_.cs.length = _; rw [getD_at hk]
    rw [h2, Nat.succ_mul]; omega
theorem sumI_le {c : PCl} (hc : c.Fits) : ∀ k, k ≤ c.ints.length → sumI c k ≤ k * 140737488355328
  | 0, _ => Nat.le_refl _
  | k + 1, h => by
    have ih := sumI_le hc k (by omega)
    have hk : k < c.ints.length := h
    have h1 := hc.intc _ (List.getElem_mem hk)
    have h2 : sumI c (k + 1) = sumI c k + c.ints[k].l.cs.length := by show sumI c k + (c.ints.getD k default).l.cs.length = _; rw [getD_at hk]
    rw [h2, Nat.succ_mul]; omega
theorem bod37 : bodied Tryz.prog 37 = true := by kernel_rfl
theorem bod38 : bodied Tryz.prog 38 = true := by kernel_rfl
theorem fi25_0 : fieldInfo Tryz.prog 25 0 = some (0, 1) := by kernel_rfl
theorem fi25_1 : fieldInfo Tryz.prog 25 1 = some (1, 1) := by kernel_rfl
theorem fi25_2 : fieldInfo Tryz.prog 25 2 = some (2, 1) := by kernel_rfl
theorem fi25_3 : fieldInfo Tryz.prog 25 3 = some (3, 1) := by kernel_rfl
theorem row22 : rowOf Tryz.prog 22 = some none := by kernel_rfl
theorem row23 : rowOf Tryz.prog 23 = some none := by kernel_rfl
theorem sz35 : sizeInfo Tryz.prog 35 = some 7 := by kernel_rfl

set_option maxRecDepth 100000 in
set_option maxHeartbeats 4000000 in
theorem ref_p (p : PPred) (v : Int) (hp : p.Ok) : PCall Tryz.prog 13 [.agg (prA p), .v (.int .i64 v)] (.v (.bool (refB p v))) := by
  refine PCall.of_body Tryz.func13 rfl Tryz.ntmps13 (Nat.le_of_ble_eq_true rfl) ?_
  refine AWP.seq ?_
  refine AWP.region ?_
  refine AOps.nw (LOp.bx rfl) rfl rfl 1 rfl ?_
  refine AOps.lk (LOp.asg (a := .v _) rfl) rfl rfl ?_
  refine AOps.nil ?_
  refine andThen_normal ?_
  refine AWP.seq ?_
  refine AWP.seq ?_
  refine AWP.region ?_
  refine AOps.lk (LOp.fieldAddr fi25_0 rfl rfl rfl rfl rfl) rfl rfl ?_
  refine AOps.lk (LOp.load1 row3 rfl rfl rfl rfl rfl) rfl rfl ?_
  refine AOps.lk (LOp.plain rfl (fun _ _ => nofun) (fun _ => rfl)) rfl rfl ?_
  refine AOps.lk (LOp.mv (a := .v _) rfl) rfl rfl ?_
  refine AOps.splitB 9 rfl (fun hg9 => ?_) (fun hg9 => ?_)
  · skip
    refine AOps.sk rfl rfl ?_
    refine AOps.sk rfl rfl ?_
    refine AOps.sk rfl rfl ?_
    refine AOps.sk rfl rfl ?_
    refine AOps.lk (LOp.pkT (a := .v _) rfl (by first | rfl | assumption) rfl) rfl rfl ?_
    refine AOps.lk (LOp.mv (a := .v _) rfl) rfl rfl ?_
    refine AOps.sk rfl rfl ?_
    refine AOps.sk rfl rfl ?_
    refine AOps.lk (LOp.pkT (a := .v _) rfl (by first | rfl | assumption) rfl) rfl rfl ?_
    refine AOps.lk (LOp.mv (a := .v _) rfl) rfl rfl ?_
    refine AOps.sk rfl rfl ?_
    refine AOps.sk rfl rfl ?_
    refine AOps.sk rfl rfl ?_
    refine AOps.sk rfl rfl ?_
    refine AOps.sk rfl rfl ?_
    refine AOps.lk (LOp.pkT (a := .v _) rfl (by first | rfl | assumption) rfl) rfl rfl ?_
    refine AOps.lk (LOp.mv (a := .v _) rfl) rfl rfl ?_
    refine AOps.sk rfl rfl ?_
    refine AOps.sk rfl rfl ?_
    refine AOps.sk rfl rfl ?_
    refine AOps.sk rfl rfl ?_
    refine AOps.lk (LOp.pkT (a := .v _) rfl (by first | rfl | assumption) rfl) rfl rfl ?_
    refine AOps.lk (LOp.mv (a := .v _) rfl) rfl rfl ?_
    refine AOps.sk rfl rfl ?_
    refine AOps.sk rfl rfl ?_
    refine AOps.sk rfl rfl ?_
    refine AOps.sk rfl rfl ?_
    refine AOps.lk (LOp.pkT (a := .v _) rfl (by first | rfl | assumption) rfl) rfl rfl ?_
    refine AOps.nil ?_
    refine andThen_normal ?_
    refine AWP.condT rfl ?_
    refine AWP.seq ?_
    refine AWP.region ?_
    refine AOps.lk (LOp.asg (a := .v _) rfl) rfl rfl ?_
    refine AOps.nil ?_
    refine andThen_normal ?_
    refine AWP.ret (andThen_ret (?_))
    refine ⟨.inr rfl, Outs.val Tryz.results13 rfl rfl ?_⟩
    (refine vb_eq ?_; unfold refB; rw [show badP p v = true by unfold badP; simp_all]; rfl)
  · skip
    refine AOps.lk (LOp.fieldAddr fi25_1 rfl rfl rfl rfl rfl) rfl rfl ?_
    refine AOps.lk (LOp.load1 row3 rfl rfl rfl rfl rfl) rfl rfl ?_
    refine AOps.lk (LOp.mv (a := .v _) rfl) rfl rfl ?_
    refine AOps.lk (LOp.plain rfl (fun _ _ => nofun) (fun _ => rfl)) rfl rfl ?_
    refine AOps.lk (LOp.pickB rfl rfl rfl) rfl rfl ?_
    refine AOps.lk (LOp.mv (a := .v _) rfl) rfl rfl ?_
    refine AOps.splitB 15 rfl (fun hg15 => ?_) (fun hg15 => ?_)
    · skip
      refine AOps.sk rfl rfl ?_
      refine AOps.sk rfl rfl ?_
      refine AOps.lk (LOp.pkT (a := .v _) rfl (by first | rfl | assumption) rfl) rfl rfl ?_
      refine AOps.lk (LOp.mv (a := .v _) rfl) rfl rfl ?_
      refine AOps.sk rfl rfl ?_
      refine AOps.sk rfl rfl ?_
      refine AOps.sk rfl rfl ?_
      refine AOps.sk rfl rfl ?_
      refine AOps.sk rfl rfl ?_
      refine AOps.lk (LOp.pkT (a := .v _) rfl (by first | rfl | assumption) rfl) rfl rfl ?_
      refine AOps.lk (LOp.mv (a := .v _) rfl) rfl rfl ?_
      refine AOps.sk rfl rfl ?_
      refine AOps.sk rfl rfl ?_
      refine AOps.sk rfl rfl ?_
      refine AOps.sk rfl rfl ?_
      refine AOps.lk (LOp.pkT (a := .v _) rfl (by first | rfl | assumption) rfl) rfl rfl ?_
      refine AOps.lk (LOp.mv (a := .v _) rfl) rfl rfl ?_
      refine AOps.sk rfl rfl ?_
      refine AOps.sk rfl rfl ?_
      refine AOps.sk rfl rfl ?_
      refine AOps.sk rfl rfl ?_
      refine AOps.lk (LOp.pkT (a := .v _) rfl (by first | rfl | assumption) rfl) rfl rfl ?_
      refine AOps.nil ?_
      refine andThen_normal ?_
      refine AWP.condT rfl ?_
      refine AWP.seq ?_
      refine AWP.region ?_
      refine AOps.lk (LOp.asg (a := .v _) rfl) rfl rfl ?_
      refine AOps.nil ?_
      refine andThen_normal ?_
      refine AWP.ret (andThen_ret (?_))
      refine ⟨.inr rfl, Outs.val Tryz.results13 rfl rfl ?_⟩
      (refine vb_eq ?_; unfold refB; rw [show badP p v = true by unfold badP; simp_all]; rfl)
    · skip
      refine AOps.lk (LOp.mv (a := .v _) rfl) rfl rfl ?_
      refine AOps.lk (LOp.plain rfl (fun _ _ => nofun) (fun _ => rfl)) rfl rfl ?_
      refine AOps.lk (LOp.pickB rfl rfl rfl) rfl rfl ?_
      refine AOps.lk (LOp.mv (a := .v _) rfl) rfl rfl ?_
      refine AOps.splitB 19 rfl (fun hg19 => ?_) (fun hg19 => ?_)
      · skip
        refine AOps.sk rfl rfl ?_
        refine AOps.sk rfl rfl ?_
        refine AOps.sk rfl rfl ?_
        refine AOps.sk rfl rfl ?_
        refine AOps.sk rfl rfl ?_
        refine AOps.lk (LOp.pkT (a := .v _) rfl (by first | rfl | assumption) rfl) rfl rfl ?_
        refine AOps.lk (LOp.mv (a := .v _) rfl) rfl rfl ?_
        refine AOps.sk rfl rfl ?_
        refine AOps.sk rfl rfl ?_
        refine AOps.sk rfl rfl ?_
        refine AOps.sk rfl rfl ?_
        refine AOps.lk (LOp.pkT (a := .v _) rfl (by first | rfl | assumption) rfl) rfl rfl ?_
        refine AOps.lk (LOp.mv (a := .v _) rfl) rfl rfl ?_
        refine AOps.sk rfl rfl ?_
        refine AOps.sk rfl rfl ?_
        refine AOps.sk rfl rfl ?_
        refine AOps.sk rfl rfl ?_
        refine AOps.lk (LOp.pkT (a := .v _) rfl (by first | rfl | assumption) rfl) rfl rfl ?_
        refine AOps.nil ?_
        refine andThen_normal ?_
        refine AWP.condT rfl ?_
        refine AWP.seq ?_
        refine AWP.region ?_
        refine AOps.lk (LOp.asg (a := .v _) rfl) rfl rfl ?_
        refine AOps.nil ?_
        refine andThen_normal ?_
        refine AWP.ret (andThen_ret (?_))
        refine ⟨.inr rfl, Outs.val Tryz.results13 rfl rfl ?_⟩
        (refine vb_eq ?_; unfold refB; rw [show badP p v = true by unfold badP; simp_all]; rfl)
      · skip
        refine AOps.lk (LOp.mv (a := .v _) rfl) rfl rfl ?_
        refine AOps.lk (LOp.fieldAddr fi25_2 rfl rfl rfl rfl rfl) rfl rfl ?_
        refine AOps.lk (LOp.load1 row22 rfl rfl rfl rfl rfl) rfl rfl ?_
        refine AOps.lk (LOp.lenT rfl Tryz.underlying22 rfl) rfl rfl ?_
        refine AOps.lk (LOp.plain rfl (fun _ _ => nofun) (fun _ => rfl)) rfl rfl ?_
        refine AOps.lk (LOp.pickB rfl rfl rfl) rfl rfl ?_
        refine AOps.lk (LOp.mv (a := .v _) rfl) rfl rfl ?_
        refine AOps.splitB 26 rfl (fun hg26 => ?_) (fun hg26 => ?_)
        · skip
          refine AOps.sk rfl rfl ?_
          refine AOps.sk rfl rfl ?_
          refine AOps.sk rfl rfl ?_
          refine AOps.sk rfl rfl ?_
          refine AOps.lk (LOp.pkT (a := .v _) rfl (by first | rfl | assumption) rfl) rfl rfl ?_
          refine AOps.lk (LOp.mv (a := .v _) rfl) rfl rfl ?_
          refine AOps.sk rfl rfl ?_
          refine AOps.sk rfl rfl ?_
          refine AOps.sk rfl rfl ?_
          refine AOps.sk rfl rfl ?_
          refine AOps.lk (LOp.pkT (a := .v _) rfl (by first | rfl | assumption) rfl) rfl rfl ?_
          refine AOps.nil ?_
          refine andThen_normal ?_
          refine AWP.condT rfl ?_
          refine AWP.seq ?_
          refine AWP.region ?_
          refine AOps.lk (LOp.asg (a := .v _) rfl) rfl rfl ?_
          refine AOps.nil ?_
          refine andThen_normal ?_
          refine AWP.ret (andThen_ret (?_))
          refine ⟨.inr rfl, Outs.val Tryz.results13 rfl rfl ?_⟩
          (refine vb_eq ?_; unfold refB; rw [show badP p v = true by unfold badP; simp_all]; rfl)
        · skip
          refine AOps.lk (LOp.fieldAddr fi25_2 rfl rfl rfl rfl rfl) rfl rfl ?_
          refine AOps.lk (LOp.load1 row22 rfl rfl rfl rfl rfl) rfl rfl ?_
          refine AOps.lk (LOp.call bod37 rfl (dom_p p.vars hp.vars)) rfl rfl ?_
          refine AOps.lk (LOp.plain rfl (fun _ _ => nofun) (fun _ => rfl)) rfl rfl ?_
          refine AOps.lk (LOp.pickB rfl rfl rfl) rfl rfl ?_
          refine AOps.lk (LOp.mv (a := .v _) rfl) rfl rfl ?_
          refine AOps.splitB 32 rfl (fun hg32 => ?_) (fun hg32 => ?_)
          · skip
            refine AOps.sk rfl rfl ?_
            refine AOps.sk rfl rfl ?_
            refine AOps.sk rfl rfl ?_
            refine AOps.sk rfl rfl ?_
            refine AOps.lk (LOp.pkT (a := .v _) rfl (by first | rfl | assumption) rfl) rfl rfl ?_
            refine AOps.nil ?_
            refine andThen_normal ?_
            refine AWP.condT rfl ?_
            refine AWP.seq ?_
            refine AWP.region ?_
            refine AOps.lk (LOp.asg (a := .v _) rfl) rfl rfl ?_
            refine AOps.nil ?_
            refine andThen_normal ?_
            refine AWP.ret (andThen_ret (?_))
            refine ⟨.inr rfl, Outs.val Tryz.results13 rfl rfl ?_⟩
            (refine vb_eq ?_; unfold refB; rw [show badP p v = true by unfold badP; simp_all]; rfl)
          · skip
            refine AOps.lk (LOp.fieldAddr fi25_3 rfl rfl rfl rfl rfl) rfl rfl ?_
            refine AOps.lk (LOp.load1 row23 rfl rfl rfl rfl rfl) rfl rfl ?_
            refine AOps.lk (LOp.lenT rfl Tryz.underlying23 rfl) rfl rfl ?_
            refine AOps.lk (LOp.plain rfl (fun _ _ => nofun) (fun _ => rfl)) rfl rfl ?_
            refine AOps.lk (LOp.pickB rfl rfl rfl) rfl rfl ?_
            refine AOps.nil ?_
            refine andThen_normal ?_
            refine AWP.cond rfl (fun hc37 => ?_) (fun hc37 => ?_)
            · skip
              refine AWP.seq ?_
              refine AWP.region ?_
              refine AOps.lk (LOp.asg (a := .v _) rfl) rfl rfl ?_
              refine AOps.nil ?_
              refine andThen_normal ?_
              refine AWP.ret (andThen_ret (?_))
              refine ⟨.inr rfl, Outs.val Tryz.results13 rfl rfl ?_⟩
              (refine vb_eq ?_; unfold refB; rw [show badP p v = true by unfold badP; simp_all]; rfl)
            · skip
              have hbad : badP p v = false := by unfold badP; simp_all
              refine AWP.skip ?_
              refine andThen_normal ?_
              refine AWP.seq ?_
              refine AWP.seq ?_
              refine AWP.region ?_
              refine AOps.lk (LOp.asg (a := .v _) rfl) rfl rfl ?_
              refine AOps.nil ?_
              refine andThen_normal ?_
              refine AWP.block ?_
              refine AWP.loopC (fun n s => ∃ k : Nat, n = (p.cls.length - k) ∧ s = ⟨frameL [(2, .ptr 0 0 0), (5, .v (.int .i64 ((k : Nat) : Int)))], heapL [(0, ⟨0, prA p, 0, false⟩)], 1⟩ ∧ (k ≤ p.cls.length ∧ ∀ j, j < k → clsP p j = true)) (n := (p.cls.length - 0)) (s1 := ⟨frameL [(2, .ptr 0 0 0), (5, .v (.int .i64 ((0 : Nat) : Int)))], heapL [(0, ⟨0, prA p, 0, false⟩)], 1⟩) (Canon.of (.cons rfl rfl (.cons rfl rfl .nil)) (.cons rfl rfl rfl .nil)) ⟨0, rfl, rfl, ⟨Nat.zero_le _, fun j h => absurd h (Nat.not_lt_zero j)⟩⟩ ?_
              rintro n s ⟨k, rfl, rfl, hinv⟩
              obtain ⟨hk, hj⟩ := hinv
              have hcls := hp.cls
              refine AWP.seq ?_
              refine AWP.seq ?_
              refine AWP.region ?_
              refine AOps.lk (LOp.mv (a := .v _) rfl) rfl rfl ?_
              refine AOps.lk (LOp.fieldAddr fi25_3 rfl rfl rfl rfl rfl) rfl rfl ?_
              refine AOps.lk (LOp.load1 row23 rfl rfl rfl rfl rfl) rfl rfl ?_
              refine AOps.lk (LOp.lenT rfl Tryz.underlying23 rfl) rfl rfl ?_
              refine AOps.lk (LOp.plain rfl (fun _ _ => nofun) (fun _ => rfl)) rfl rfl ?_
              refine AOps.nil ?_
              refine andThen_normal ?_
              refine AWP.cond rfl (fun hc42 => ?_) (fun hc42 => ?_)
              · skip
                have hlt : k < p.cls.length := Int.ofNat_lt.1 (of_decide_eq_true hc42)
                refine AWP.skip ?_
                refine andThen_normal ?_
                refine AWP.seq ?_
                refine AWP.block ?_
                refine AWP.seq ?_
                refine AWP.regD mixed ?_
                refine SeqC.lk (LOp.fieldAddr fi25_3 rfl rfl rfl rfl rfl) rfl rfl ?_
                refine SeqC.lk (LOp.load1 row23 rfl rfl rfl rfl rfl) rfl rfl ?_
                refine SeqC.lk (LOp.mv (a := .v _) rfl) rfl rfl ?_
                refine SeqC.lk (LOp.indexT Tryz.underlying23 sz35 rfl rfl (by first | assumption | omega)) rfl rfl ?_
                refine SeqC.lk (LOp.ldTN row35 rfl rfl) rfl rfl ?_
                refine SeqC.lk (LOp.fieldAddr fi25_2 rfl rfl rfl rfl rfl) rfl rfl ?_
                refine SeqC.lk (LOp.load1 row22 rfl rfl rfl rfl rfl) rfl rfl ?_
                refine SeqC.lk (LOp.call bod38 rfl (cl_p p.cls[k] p.vars (hp.each _ (List.getElem_mem _)) hp.vars)) rfl rfl ?_
                refine SeqC.lk (LOp.plain rfl (fun _ _ => nofun) (fun _ => rfl)) rfl rfl ?_
                refine SeqC.nil ⟨by kernel_rfl, ?_⟩
                refine andThen_normal ?_
                refine AWP.cond rfl (fun hc53 => ?_) (fun hc53 => ?_)
                · skip
                  refine AWP.seq ?_
                  refine AWP.region ?_
                  refine AOps.lk (LOp.asg (a := .v _) rfl) rfl rfl ?_
                  refine AOps.nil ?_
                  refine andThen_normal ?_
                  refine AWP.ret (inBlk_ret (andThen_ret (andThen_ret (inBlk_ret (andThen_ret (?_))))))
                  refine ⟨.inr rfl, Outs.val Tryz.results13 rfl rfl ?_⟩
                  (refine vb_eq ?_; unfold refB; rw [hbad, allN_hit hlt (by simp only [clsP, getD_at hlt]; simp_all)]; rfl)
                · skip
                  refine AWP.skip ?_
                  refine inBlk_normal ?_
                  refine andThen_normal ?_
                  refine AWP.region ?_
                  refine AOps.lk (LOp.mv (a := .v _) rfl) rfl rfl ?_
                  refine AOps.lk (LOp.addI rfl rfl (by omega) (by omega)) rfl rfl ?_
                  refine AOps.lk (LOp.asg (a := .v _) rfl) rfl rfl ?_
                  refine AOps.nil ?_
                  refine andThen_normal ?_
                  refine ⟨(p.cls.length - (k + 1)), ⟨frameL [(2, .ptr 0 0 0), (5, .v (.int .i64 (((k + 1) : Nat) : Int)))], heapL [(0, ⟨0, prA p, 0, false⟩)], 1⟩, by omega, (Canon.of (.cons rfl rfl (.cons rfl rfl .nil)) (.cons rfl rfl rfl .nil)), k + 1, rfl, rfl, ?_⟩
                  refine ⟨by omega, fun j h => ?_⟩
                  rcases Nat.lt_succ_iff_lt_or_eq.1 h with h | rfl
                  · exact hj j h
                  · simp only [clsP, getD_at hlt]; simp_all
              · skip
                have hge : ¬ k < p.cls.length := fun h => of_decide_eq_false hc42 (Int.ofNat_lt.2 h)
                refine AWP.exit (andThen_exit (andThen_exit (inBlk_exit ?_)))
                refine andThen_normal ?_
                refine AWP.seq ?_
                refine AWP.region ?_
                refine AOps.lk (LOp.asg (a := .v _) rfl) rfl rfl ?_
                refine AOps.nil ?_
                refine andThen_normal ?_
                refine AWP.ret (?_)
                refine ⟨.inr rfl, Outs.val Tryz.results13 rfl rfl ?_⟩
                (refine vb_eq ?_; unfold refB; rw [hbad, allN_end hk hge hj]; rfl)

set_option maxRecDepth 100000 in
set_option maxHeartbeats 4000000 in
theorem few_p (c : PCl) (hc : c.Fits) : PCall Tryz.prog 11 [.agg (clA c)] (.v (.bool (fewB c))) := by
  have q1 := hc.nul
  have q2 := hc.nn
  have q3 := hc.aux
  have q4 := hc.ints
  have q5 := hc.tests
  have q6 := hc.same
  have q7 := hc.diff
  refine PCall.of_body Tryz.func11 rfl Tryz.ntmps11 (Nat.le_of_ble_eq_true rfl) ?_
  refine AWP.seq ?_
  refine AWP.region ?_
  refine AOps.nw (LOp.bx rfl) rfl rfl 1 rfl ?_
  refine AOps.lk (LOp.asg (a := .v _) rfl) rfl rfl ?_
  refine AOps.nil ?_
  refine andThen_normal ?_
  refine AWP.seq ?_
  refine AWP.region ?_
  refine AOps.lk (LOp.fieldAddr fi35_0 rfl rfl rfl rfl rfl) rfl rfl ?_
  refine AOps.lk (LOp.load1 row29 rfl rfl rfl rfl rfl) rfl rfl ?_
  refine AOps.lk (LOp.lenT rfl Tryz.underlying29 rfl) rfl rfl ?_
  refine AOps.lk (LOp.fieldAddr fi35_1 rfl rfl rfl rfl rfl) rfl rfl ?_
  refine AOps.lk (LOp.load1 row29 rfl rfl rfl rfl rfl) rfl rfl ?_
  refine AOps.lk (LOp.lenT rfl Tryz.underlying29 rfl) rfl rfl ?_
  refine AOps.lk (LOp.addI rfl rfl (by omega) (by omega)) rfl rfl ?_
  refine AOps.lk (LOp.fieldAddr fi35_2 rfl rfl rfl rfl rfl) rfl rfl ?_
  refine AOps.lk (LOp.load1 row30 rfl rfl rfl rfl rfl) rfl rfl ?_
  refine AOps.lk (LOp.lenT rfl Tryz.underlying30 rfl) rfl rfl ?_
  refine AOps.lk (LOp.addI rfl rfl (by omega) (by omega)) rfl rfl ?_
  refine AOps.lk (LOp.fieldAddr fi35_3 rfl rfl rfl rfl rfl) rfl rfl ?_
  refine AOps.lk (LOp.load1 row31 rfl rfl rfl rfl rfl) rfl rfl ?_
  refine AOps.lk (LOp.lenT rfl Tryz.underlying31 rfl) rfl rfl ?_
  refine AOps.lk (LOp.addI rfl rfl (by omega) (by omega)) rfl rfl ?_
  refine AOps.lk (LOp.fieldAddr fi35_4 rfl rfl rfl rfl rfl) rfl rfl ?_
  refine AOps.lk (LOp.load1 row32 rfl rfl rfl rfl rfl) rfl rfl ?_
  refine AOps.lk (LOp.lenT rfl Tryz.underlying32 rfl) rfl rfl ?_
  refine AOps.lk (LOp.addI rfl rfl (by omega) (by omega)) rfl rfl ?_
  refine AOps.lk (LOp.fieldAddr fi35_5 rfl rfl rfl rfl rfl) rfl rfl ?_
  refine AOps.lk (LOp.load1 row33 rfl rfl rfl rfl rfl) rfl rfl ?_
  refine AOps.lk (LOp.lenT rfl Tryz.underlying33 rfl) rfl rfl ?_
  refine AOps.lk (LOp.addI rfl rfl (by omega) (by omega)) rfl rfl ?_
  refine AOps.lk (LOp.fieldAddr fi35_6 rfl rfl rfl rfl rfl) rfl rfl ?_
  refine AOps.lk (LOp.load1 row33 rfl rfl rfl rfl rfl) rfl rfl ?_
  refine AOps.lk (LOp.lenT rfl Tryz.underlying33 rfl) rfl rfl ?_
  refine AOps.lk (LOp.addI rfl rfl (by omega) (by omega)) rfl rfl ?_
  refine AOps.lk (LOp.asg (a := .v _) rfl) rfl rfl ?_
  refine AOps.nil ?_
  refine andThen_normal ?_
  refine AWP.seq ?_
  refine AWP.seq ?_
  refine AWP.region ?_
  refine AOps.lk (LOp.mv (a := .v _) rfl) rfl rfl ?_
  refine AOps.lk (LOp.plain rfl (fun _ _ => nofun) (fun _ => rfl)) rfl rfl ?_
  refine AOps.nil ?_
  refine andThen_normal ?_
  refine AWP.cond rfl (fun hc35 => ?_) (fun hc35 => ?_)
  · skip
    refine AWP.seq ?_
    refine AWP.region ?_
    refine AOps.lk (LOp.asg (a := .v _) rfl) rfl rfl ?_
    refine AOps.nil ?_
    refine andThen_normal ?_
    refine AWP.ret (andThen_ret (?_))
    refine ⟨.inr rfl, Outs.val Tryz.results11 rfl rfl ?_⟩
    (refine vb_eq ?_; unfold fewB; rw [show decide ((fewN c : Int) > 80) = true by (have := of_decide_eq_true hc35; unfold fewN; simp; omega)]; rfl)
  · skip
    have hfew : fewN c ≤ 80 := by have := of_decide_eq_false hc35; unfold fewN; omega
    refine AWP.skip ?_
    refine andThen_normal ?_
    refine AWP.seq ?_
    refine AWP.seq ?_
    refine AWP.region ?_
    refine AOps.lk (LOp.asg (a := .v _) rfl) rfl rfl ?_
    refine AOps.nil ?_
    refine andThen_normal ?_
    refine AWP.block ?_
    refine AWP.loopC (fun n s => ∃ k : Nat, n = (c.aux.length - k) ∧ s = ⟨frameL [(1, .ptr 0 0 0), (3, .v (.int .i64 ((fewN c + sumA c k : Nat) : Int))), (4, .v (.int .i64 ((k : Nat) : Int)))], heapL [(0, ⟨0, clA c, 0, false⟩)], 1⟩ ∧ (k ≤ c.aux.length ∧ ∀ j, j < k → (fun _ => true) j = true)) (n := (c.aux.length - 0)) (s1 := ⟨frameL [(1, .ptr 0 0 0), (3, .v (.int .i64 ((fewN c + sumA c 0 : Nat) : Int))), (4, .v (.int .i64 ((0 : Nat) : Int)))], heapL [(0, ⟨0, clA c, 0, false⟩)], 1⟩) (Canon.of (.cons rfl rfl (.cons (by first | rfl | exact vi_eq (by rw [hs]; omega)) rfl (.cons rfl rfl .nil))) (.cons rfl rfl rfl .nil)) ⟨0, rfl, rfl, ⟨Nat.zero_le _, fun j h => absurd h (Nat.not_lt_zero j)⟩⟩ ?_
    rintro n s ⟨k, rfl, rfl, hinv⟩
    obtain ⟨hk, hj⟩ := hinv
    have hsz : fewN c ≤ 80 := by omega
    have h80 : c.nul.length + c.nn.length + c.aux.length + c.ints.length + c.tests.length + c.same.length + c.diff.length ≤ 80 := hsz
    have hsA := sumA_le hc k hk
    refine AWP.seq ?_
    refine AWP.seq ?_
    refine AWP.region ?_
    refine AOps.lk (LOp.mv (a := .v _) rfl) rfl rfl ?_
    refine AOps.lk (LOp.fieldAddr fi35_2 rfl rfl rfl rfl rfl) rfl rfl ?_
    refine AOps.lk (LOp.load1 row30 rfl rfl rfl rfl rfl) rfl rfl ?_
    refine AOps.lk (LOp.lenT rfl Tryz.underlying30 rfl) rfl rfl ?_
    refine AOps.lk (LOp.plain rfl (fun _ _ => nofun) (fun _ => rfl)) rfl rfl ?_
    refine AOps.nil ?_
    refine andThen_normal ?_
    refine AWP.cond rfl (fun hc40 => ?_) (fun hc40 => ?_)
    · skip
      have hlt : k < c.aux.length := Int.ofNat_lt.1 (of_decide_eq_true hc40)
      have hcl := hc.auxc _ (List.getElem_mem hlt)
      have hs : sumA c (k + 1) = sumA c k + c.aux[k].of_.cs.length := by show sumA c k + (c.aux.getD k default).of_.cs.length = _; rw [getD_at hlt]
      refine AWP.skip ?_
      refine andThen_normal ?_
      refine AWP.seq ?_
      refine AWP.block ?_
      refine AWP.region ?_
      refine AOps.lk (LOp.mv (a := .v _) rfl) rfl rfl ?_
      refine AOps.lk (LOp.fieldAddr fi35_2 rfl rfl rfl rfl rfl) rfl rfl ?_
      refine AOps.lk (LOp.load1 row30 rfl rfl rfl rfl rfl) rfl rfl ?_
      refine AOps.lk (LOp.mv (a := .v _) rfl) rfl rfl ?_
      refine AOps.lk (LOp.indexT Tryz.underlying30 sz81 rfl rfl (by first | assumption | omega)) rfl rfl ?_
      refine AOps.lk (LOp.fieldAddrT fi81_0 rfl rfl) rfl rfl ?_
      refine AOps.lk (LOp.fieldAddrT fi79_1 rfl rfl) rfl rfl ?_
      refine AOps.lk (LOp.loadT1 row77 rfl rfl) rfl rfl ?_
      refine AOps.lk (LOp.lenT rfl Tryz.underlying77 rfl) rfl rfl ?_
      refine AOps.lk (LOp.addI rfl rfl (by omega) (by omega)) rfl rfl ?_
      refine AOps.lk (LOp.asg (a := .v _) rfl) rfl rfl ?_
      refine AOps.nil ?_
      refine inBlk_normal ?_
      refine andThen_normal ?_
      refine AWP.region ?_
      refine AOps.lk (LOp.mv (a := .v _) rfl) rfl rfl ?_
      refine AOps.lk (LOp.addI rfl rfl (by omega) (by omega)) rfl rfl ?_
      refine AOps.lk (LOp.asg (a := .v _) rfl) rfl rfl ?_
      refine AOps.nil ?_
      refine andThen_normal ?_
      refine ⟨(c.aux.length - (k + 1)), ⟨frameL [(1, .ptr 0 0 0), (3, .v (.int .i64 ((fewN c + sumA c (k + 1) : Nat) : Int))), (4, .v (.int .i64 (((k + 1) : Nat) : Int)))], heapL [(0, ⟨0, clA c, 0, false⟩)], 1⟩, by omega, (Canon.of (.cons rfl rfl (.cons (by first | rfl | exact vi_eq (by rw [hs]; omega)) rfl (.cons rfl rfl .nil))) (.cons rfl rfl rfl .nil)), k + 1, rfl, rfl, ?_⟩
      refine ⟨by omega, fun j h => ?_⟩
      rcases Nat.lt_succ_iff_lt_or_eq.1 h with h | rfl
      · exact hj j h
      · rfl
    · skip
      have hge : ¬ k < c.aux.length := fun h => of_decide_eq_false hc40 (Int.ofNat_lt.2 h)
      have hkA : k = c.aux.length := by omega
      subst hkA
      clear hj hk hge
      refine AWP.exit (andThen_exit (andThen_exit (inBlk_exit ?_)))
      refine andThen_normal ?_
      refine AWP.seq ?_
      refine AWP.seq ?_
      refine AWP.region ?_
      refine AOps.lk (LOp.asg (a := .v _) rfl) rfl rfl ?_
      refine AOps.nil ?_
      refine andThen_normal ?_
      refine AWP.block ?_
      refine AWP.loopC (fun n s => ∃ k2 : Nat, n = (c.ints.length - k2) ∧ s = ⟨frameL [(1, .ptr 0 0 0), (3, .v (.int .i64 ((fewN c + sumA c c.aux.length + sumI c k2 : Nat) : Int))), (5, .v (.int .i64 ((k2 : Nat) : Int)))], heapL [(0, ⟨0, clA c, 0, false⟩)], 1⟩ ∧ (k2 ≤ c.ints.length ∧ ∀ j, j < k2 → (fun _ => true) j = true)) (n := (c.ints.length - 0)) (s1 := ⟨frameL [(1, .ptr 0 0 0), (3, .v (.int .i64 ((fewN c + sumA c c.aux.length + sumI c 0 : Nat) : Int))), (5, .v (.int .i64 ((0 : Nat) : Int)))], heapL [(0, ⟨0, clA c, 0, false⟩)], 1⟩) (Canon.of (.cons rfl rfl (.cons (by first | rfl | exact vi_eq (by rw [hs]; omega)) rfl (.cons rfl rfl .nil))) (.cons rfl rfl rfl .nil)) ⟨0, rfl, rfl, ⟨Nat.zero_le _, fun j h => absurd h (Nat.not_lt_zero j)⟩⟩ ?_
      rintro n s ⟨k2, rfl, rfl, hinv⟩
      obtain ⟨hk, hj⟩ := hinv
      have hsz : fewN c ≤ 80 := by omega
      have h80 : c.nul.length + c.nn.length + c.aux.length + c.ints.length + c.tests.length + c.same.length + c.diff.length ≤ 80 := hsz
      have hsI := sumI_le hc k2 hk
      have hsA := sumA_le hc c.aux.length (Nat.le_refl _)
      refine AWP.seq ?_
      refine AWP.seq ?_
      refine AWP.region ?_
      refine AOps.lk (LOp.mv (a := .v _) rfl) rfl rfl ?_
      refine AOps.lk (LOp.fieldAddr fi35_3 rfl rfl rfl rfl rfl) rfl rfl ?_
      refine AOps.lk (LOp.load1 row31 rfl rfl rfl rfl rfl) rfl rfl ?_
      refine AOps.lk (LOp.lenT rfl Tryz.underlying31 rfl) rfl rfl ?_
      refine AOps.lk (LOp.plain rfl (fun _ _ => nofun) (fun _ => rfl)) rfl rfl ?_
      refine AOps.nil ?_
      refine andThen_normal ?_
      refine AWP.cond rfl (fun hc57 => ?_) (fun hc57 => ?_)
      · skip
        have hlt : k2 < c.ints.length := Int.ofNat_lt.1 (of_decide_eq_true hc57)
        have hcl := hc.intc _ (List.getElem_mem hlt)
        have hs : sumI c (k2 + 1) = sumI c k2 + c.ints[k2].l.cs.length := by show sumI c k2 + (c.ints.getD k2 default).l.cs.length = _; rw [getD_at hlt]
        refine AWP.skip ?_
        refine andThen_normal ?_
        refine AWP.seq ?_
        refine AWP.block ?_
        refine AWP.region ?_
        refine AOps.lk (LOp.mv (a := .v _) rfl) rfl rfl ?_
        refine AOps.lk (LOp.fieldAddr fi35_3 rfl rfl rfl rfl rfl) rfl rfl ?_
        refine AOps.lk (LOp.load1 row31 rfl rfl rfl rfl rfl) rfl rfl ?_
        refine AOps.lk (LOp.mv (a := .v _) rfl) rfl rfl ?_
        refine AOps.lk (LOp.indexT Tryz.underlying31 sz84 rfl rfl (by first | assumption | omega)) rfl rfl ?_
        refine AOps.lk (LOp.fieldAddrT fi84_0 rfl rfl) rfl rfl ?_
        refine AOps.lk (LOp.fieldAddrT fi79_1 rfl rfl) rfl rfl ?_
        refine AOps.lk (LOp.loadT1 row77 rfl rfl) rfl rfl ?_
        refine AOps.lk (LOp.lenT rfl Tryz.underlying77 rfl) rfl rfl ?_
        refine AOps.lk (LOp.addI rfl rfl (by omega) (by omega)) rfl rfl ?_
        refine AOps.lk (LOp.asg (a := .v _) rfl) rfl rfl ?_
        refine AOps.nil ?_
        refine inBlk_normal ?_
        refine andThen_normal ?_
        refine AWP.region ?_
        refine AOps.lk (LOp.mv (a := .v _) rfl) rfl rfl ?_
        refine AOps.lk (LOp.addI rfl rfl (by omega) (by omega)) rfl rfl ?_
        refine AOps.lk (LOp.asg (a := .v _) rfl) rfl rfl ?_
        refine AOps.nil ?_
        refine andThen_normal ?_
        refine ⟨(c.ints.length - (k2 + 1)), ⟨frameL [(1, .ptr 0 0 0), (3, .v (.int .i64 ((fewN c + sumA c c.aux.length + sumI c (k2 + 1) : Nat) : Int))), (5, .v (.int .i64 (((k2 + 1) : Nat) : Int)))], heapL [(0, ⟨0, clA c, 0, false⟩)], 1⟩, by omega, (Canon.of (.cons rfl rfl (.cons (by first | rfl | exact vi_eq (by rw [hs]; omega)) rfl (.cons rfl rfl .nil))) (.cons rfl rfl rfl .nil)), k2 + 1, rfl, rfl, ?_⟩
        refine ⟨by omega, fun j h => ?_⟩
        rcases Nat.lt_succ_iff_lt_or_eq.1 h with h | rfl
        · exact hj j h
        · rfl
      · skip
        have hge : ¬ k2 < c.ints.length := fun h => of_decide_eq_false hc57 (Int.ofNat_lt.2 h)
        have hkA : k2 = c.ints.length := by omega
        subst hkA
        clear hj hk hge
        refine AWP.exit (andThen_exit (andThen_exit (inBlk_exit ?_)))
        refine andThen_normal ?_
        refine AWP.seq ?_
        refine AWP.seq ?_
        refine AWP.region ?_
        refine AOps.lk (LOp.asg (a := .v _) rfl) rfl rfl ?_
        refine AOps.nil ?_
        refine andThen_normal ?_
        refine AWP.block ?_
        refine AWP.loopC (fun n s => ∃ k3 : Nat, n = (c.tests.length - k3) ∧ s = ⟨frameL [(1, .ptr 0 0 0), (3, .v (.int .i64 ((fewN c + sumA c c.aux.length + sumI c c.ints.length : Nat) : Int))), (6, .v (.int .i64 ((k3 : Nat) : Int)))], heapL [(0, ⟨0, clA c, 0, false⟩)], 1⟩ ∧ (k3 ≤ c.tests.length ∧ ∀ j, j < k3 → txtP c j = true)) (n := (c.tests.length - 0)) (s1 := ⟨frameL [(1, .ptr 0 0 0), (3, .v (.int .i64 ((fewN c + sumA c c.aux.length + sumI c c.ints.length : Nat) : Int))), (6, .v (.int .i64 ((0 : Nat) : Int)))], heapL [(0, ⟨0, clA c, 0, false⟩)], 1⟩) (Canon.of (.cons rfl rfl (.cons rfl rfl (.cons rfl rfl .nil))) (.cons rfl rfl rfl .nil)) ⟨0, rfl, rfl, ⟨Nat.zero_le _, fun j h => absurd h (Nat.not_lt_zero j)⟩⟩ ?_
        rintro n s ⟨k3, rfl, rfl, hinv⟩
        obtain ⟨hk, hj⟩ := hinv
        have hsz : fewN c ≤ 80 := by omega
        have h80 : c.nul.length + c.nn.length + c.aux.length + c.ints.length + c.tests.length + c.same.length + c.diff.length ≤ 80 := hsz
        refine AWP.seq ?_
        refine AWP.seq ?_
        refine AWP.region ?_
        refine AOps.lk (LOp.mv (a := .v _) rfl) rfl rfl ?_
        refine AOps.lk (LOp.fieldAddr fi35_4 rfl rfl rfl rfl rfl) rfl rfl ?_
        refine AOps.lk (LOp.load1 row32 rfl rfl rfl rfl rfl) rfl rfl ?_
        refine AOps.lk (LOp.lenT rfl Tryz.underlying32 rfl) rfl rfl ?_
        refine AOps.lk (LOp.plain rfl (fun _ _ => nofun) (fun _ => rfl)) rfl rfl ?_
        refine AOps.nil ?_
        refine andThen_normal ?_
        refine AWP.cond rfl (fun hc74 => ?_) (fun hc74 => ?_)
        · skip
          have hlt : k3 < c.tests.length := Int.ofNat_lt.1 (of_decide_eq_true hc74)
          refine AWP.skip ?_
          refine andThen_normal ?_
          refine AWP.seq ?_
          refine AWP.block ?_
          refine AWP.seq ?_
          refine AWP.region ?_
          refine AOps.lk (LOp.fieldAddr fi35_4 rfl rfl rfl rfl rfl) rfl rfl ?_
          refine AOps.lk (LOp.load1 row32 rfl rfl rfl rfl rfl) rfl rfl ?_
          refine AOps.lk (LOp.mv (a := .v _) rfl) rfl rfl ?_
          refine AOps.lk (LOp.indexT Tryz.underlying32 sz52 rfl rfl (by first | assumption | omega)) rfl rfl ?_
          refine AOps.lk (LOp.fieldAddrT fi52_3 rfl rfl) rfl rfl ?_
          refine AOps.lk (LOp.loadT1 row9 rfl rfl) rfl rfl ?_
          refine AOps.lk (LOp.lenStr rfl Tryz.underlying9 rfl) rfl rfl ?_
          refine AOps.lk (LOp.plain rfl (fun _ _ => nofun) (fun _ => rfl)) rfl rfl ?_
          refine AOps.nil ?_
          refine andThen_normal ?_
          refine AWP.cond rfl (fun hc84 => ?_) (fun hc84 => ?_)
          · skip
            refine AWP.seq ?_
            refine AWP.region ?_
            refine AOps.lk (LOp.asg (a := .v _) rfl) rfl rfl ?_
            refine AOps.nil ?_
            refine andThen_normal ?_
            refine AWP.ret (inBlk_ret (andThen_ret (andThen_ret (inBlk_ret (andThen_ret (?_))))))
            refine ⟨.inr rfl, Outs.val Tryz.results11 rfl rfl ?_⟩
            (refine vb_eq ?_; unfold fewB; rw [allN_hit hlt (by simp only [txtP, getD_at hlt]; simp_all)]; simp; done)
          · skip
            refine AWP.skip ?_
            refine inBlk_normal ?_
            refine andThen_normal ?_
            refine AWP.region ?_
            refine AOps.lk (LOp.mv (a := .v _) rfl) rfl rfl ?_
            refine AOps.lk (LOp.addI rfl rfl (by omega) (by omega)) rfl rfl ?_
            refine AOps.lk (LOp.asg (a := .v _) rfl) rfl rfl ?_
            refine AOps.nil ?_
            refine andThen_normal ?_
            refine ⟨(c.tests.length - (k3 + 1)), ⟨frameL [(1, .ptr 0 0 0), (3, .v (.int .i64 ((fewN c + sumA c c.aux.length + sumI c c.ints.length : Nat) : Int))), (6, .v (.int .i64 (((k3 + 1) : Nat) : Int)))], heapL [(0, ⟨0, clA c, 0, false⟩)], 1⟩, by omega, (Canon.of (.cons rfl rfl (.cons rfl rfl (.cons rfl rfl .nil))) (.cons rfl rfl rfl .nil)), k3 + 1, rfl, rfl, ?_⟩
            refine ⟨by omega, fun j h => ?_⟩
            rcases Nat.lt_succ_iff_lt_or_eq.1 h with h | rfl
            · exact hj j h
            · simp only [txtP, getD_at hlt]; simp_all
        · skip
          have hge : ¬ k3 < c.tests.length := fun h => of_decide_eq_false hc74 (Int.ofNat_lt.2 h)
          refine AWP.exit (andThen_exit (andThen_exit (inBlk_exit ?_)))
          refine andThen_normal ?_
          refine AWP.seq ?_
          refine AWP.region ?_
          refine AOps.lk (LOp.mv (a := .v _) rfl) rfl rfl ?_
          refine AOps.lk (LOp.plain rfl (fun _ _ => nofun) (fun _ => rfl)) rfl rfl ?_
          refine AOps.lk (LOp.asg (a := .v _) rfl) rfl rfl ?_
          refine AOps.nil ?_
          refine andThen_normal ?_
          refine AWP.ret (?_)
          refine ⟨.inr rfl, Outs.val Tryz.results11 rfl rfl ?_⟩
          (refine vb_eq ?_; unfold fewB; rw [allN_end hk hge hj, show decide ((fewN c : Int) > 80) = false by (simp; omega)]; rfl)
end Go.Proofs.YtgknefkobpnjaaaGreatDoor
/- Small functions of the program. -/
namespace Go.Proofs.YtgknefkobpnjaaaGreatDoor
set_option linter.unusedVariables false
set_option linter.unusedSimpArgs false
open Go.RowKit
/-- The first number below n at which q does not hold, or -1. -/
def idxQ (n : Nat) (q : Nat → Bool) : Int := match (List.range n).find? (fun j => !q j) with
  | some j => ((j : Nat) : Int)
  | none => -1
theorem idxQ_hit {n k : Nat} {q : Nat → Bool} (hk : k < n) (h : ∀ j, j < k → q j = true) (hq : q k = false) : ((k : Nat) : Int) = idxQ n q := by
  unfold idxQ
  have : (List.range n).find? (fun j => !q j) = some k := by
    rw [List.find?_range_eq_some]
    exact ⟨by simp [hq], List.mem_range.2 hk, fun j hj => by simp [h j hj]⟩
  rw [this]
theorem idxQ_end {n k : Nat} {q : Nat → Bool} (h1 : k ≤ n) (h2 : ¬ k < n) (h : ∀ j, j < k → q j = true) : (-1 : Int) = idxQ n q := by
  unfold idxQ
  have : (List.range n).find? (fun j => !q j) = none := by
    rw [List.find?_eq_none]
    intro j hj
    have := List.mem_range.1 hj
    simp [h j (by omega)]
  rw [this]
theorem idxQ_ge {n : Nat} {q : Nat → Bool} : decide (idxQ n q ≥ 0) = !allN n q := by
  unfold idxQ allN
  cases h : (List.range n).find? (fun j => !q j) with
  | none =>
    have : (List.range n).all q = true := by
      rw [List.all_eq_true]
      intro j hj
      have := List.find?_eq_none.1 h j hj
      simpa using this
    rw [this]; rfl
  | some j =>
    have : (List.range n).all q = false := by
      rw [List.all_eq_false]
      exact ⟨j, List.mem_of_find?_eq_some h, by have := List.find?_some h; simpa using this⟩
    rw [this]; simp
def uabs (n : Int) : Int := if n < 0 then -n else n
theorem bod102 : bodied Tryz.prog 102 = true := by kernel_rfl

set_option maxRecDepth 100000 in
set_option maxHeartbeats 4000000 in
theorem pvar_p (x : PVar) : PCall Tryz.prog 33 [.agg (vA x)] (.v (.bool (varB x))) := by
  refine PCall.of_body Tryz.func33 rfl Tryz.ntmps33 (Nat.le_of_ble_eq_true rfl) ?_
  refine AWP.seq ?_
  refine AWP.region ?_
  refine AOps.nw (LOp.bx rfl) rfl rfl 1 rfl ?_
  refine AOps.lk (LOp.asg (a := .v _) rfl) rfl rfl ?_
  refine AOps.nil ?_
  refine andThen_normal ?_
  refine AWP.seq ?_
  refine AWP.seq ?_
  refine AWP.region ?_
  refine AOps.lk (LOp.fieldAddr fi44_0 rfl rfl rfl rfl rfl) rfl rfl ?_
  refine AOps.lk (LOp.load1 row3 rfl rfl rfl rfl rfl) rfl rfl ?_
  refine AOps.lk (LOp.plain rfl (fun _ _ => nofun) (fun _ => rfl)) rfl rfl ?_
  refine AOps.nil ?_
  refine andThen_normal ?_
  refine AWP.cond rfl (fun hc5 => ?_) (fun hc5 => ?_)
  · skip
    refine AWP.seq ?_
    refine AWP.region ?_
    refine AOps.lk (LOp.fieldAddr fi44_1 rfl rfl rfl rfl rfl) rfl rfl ?_
    refine AOps.lk (LOp.load1 row2 rfl rfl rfl rfl rfl) rfl rfl ?_
    refine AOps.lk (LOp.plain rfl (fun _ _ => nofun) (fun _ => rfl)) rfl rfl ?_
    refine AOps.lk (LOp.mv (a := .v _) rfl) rfl rfl ?_
    refine AOps.splitB 9 rfl (fun hg9 => ?_) (fun hg9 => ?_)
    · skip
      refine AOps.lk (LOp.fieldAddr fi44_1 rfl rfl rfl rfl rfl) rfl rfl ?_
      refine AOps.lk (LOp.load1 row2 rfl rfl rfl rfl rfl) rfl rfl ?_
      refine AOps.lk (LOp.fieldAddr fi44_2 rfl rfl rfl rfl rfl) rfl rfl ?_
      refine AOps.lk (LOp.load1 row2 rfl rfl rfl rfl rfl) rfl rfl ?_
      refine AOps.lk (LOp.plain rfl (fun _ _ => nofun) (fun _ => rfl)) rfl rfl ?_
      refine AOps.lk (LOp.pickB rfl rfl rfl) rfl rfl ?_
      refine AOps.lk (LOp.mv (a := .v _) rfl) rfl rfl ?_
      refine AOps.splitB 16 rfl (fun hg16 => ?_) (fun hg16 => ?_)
      · skip
        refine AOps.lk (LOp.fieldAddr fi44_2 rfl rfl rfl rfl rfl) rfl rfl ?_
        refine AOps.lk (LOp.load1 row2 rfl rfl rfl rfl rfl) rfl rfl ?_
        refine AOps.lk (LOp.plain rfl (fun _ _ => nofun) (fun _ => rfl)) rfl rfl ?_
        refine AOps.lk (LOp.pickB rfl rfl rfl) rfl rfl ?_
        refine AOps.lk (LOp.mv (a := .v _) rfl) rfl rfl ?_
        refine AOps.splitB 21 rfl (fun hg21 => ?_) (fun hg21 => ?_)
        · skip
          refine AOps.lk (LOp.fieldAddr fi44_3 rfl rfl rfl rfl rfl) rfl rfl ?_
          refine AOps.lk (LOp.load1 row3 rfl rfl rfl rfl rfl) rfl rfl ?_
          refine AOps.lk (LOp.plain rfl (fun _ _ => nofun) (fun _ => rfl)) rfl rfl ?_
          refine AOps.lk (LOp.pickB rfl rfl rfl) rfl rfl ?_
          refine AOps.lk (LOp.asg (a := .v _) rfl) rfl rfl ?_
          refine AOps.nil ?_
          refine andThen_normal ?_
          refine AWP.ret (andThen_ret (?_))
          refine ⟨.inr rfl, Outs.val Tryz.results33 rfl rfl ?_⟩
          refine vb_eq ?_; unfold varB; simp_all; try (intros; omega)
        · skip
          refine AOps.sk rfl rfl ?_
          refine AOps.sk rfl rfl ?_
          refine AOps.sk rfl rfl ?_
          refine AOps.lk (LOp.pkF (a := .v _) rfl (by first | rfl | assumption) rfl) rfl rfl ?_
          refine AOps.lk (LOp.asg (a := .v _) rfl) rfl rfl ?_
          refine AOps.nil ?_
          refine andThen_normal ?_
          refine AWP.ret (andThen_ret (?_))
          refine ⟨.inr rfl, Outs.val Tryz.results33 rfl rfl ?_⟩
          refine vb_eq ?_; unfold varB; simp_all; try (intros; omega)
      · skip
        refine AOps.sk rfl rfl ?_
        refine AOps.sk rfl rfl ?_
        refine AOps.sk rfl rfl ?_
        refine AOps.lk (LOp.pkF (a := .v _) rfl (by first | rfl | assumption) rfl) rfl rfl ?_
        refine AOps.lk (LOp.mv (a := .v _) rfl) rfl rfl ?_
        refine AOps.sk rfl rfl ?_
        refine AOps.sk rfl rfl ?_
        refine AOps.sk rfl rfl ?_
        refine AOps.lk (LOp.pkF (a := .v _) rfl (by first | rfl | assumption) rfl) rfl rfl ?_
        refine AOps.lk (LOp.asg (a := .v _) rfl) rfl rfl ?_
        refine AOps.nil ?_
        refine andThen_normal ?_
        refine AWP.ret (andThen_ret (?_))
        refine ⟨.inr rfl, Outs.val Tryz.results33 rfl rfl ?_⟩
        refine vb_eq ?_; unfold varB; simp_all; try (intros; omega)
    · skip
      refine AOps.sk rfl rfl ?_
      refine AOps.sk rfl rfl ?_
      refine AOps.sk rfl rfl ?_
      refine AOps.sk rfl rfl ?_
      refine AOps.sk rfl rfl ?_
      refine AOps.lk (LOp.pkF (a := .v _) rfl (by first | rfl | assumption) rfl) rfl rfl ?_
      refine AOps.lk (LOp.mv (a := .v _) rfl) rfl rfl ?_
      refine AOps.sk rfl rfl ?_
      refine AOps.sk rfl rfl ?_
      refine AOps.sk rfl rfl ?_
      refine AOps.lk (LOp.pkF (a := .v _) rfl (by first | rfl | assumption) rfl) rfl rfl ?_
      refine AOps.lk (LOp.mv (a := .v _) rfl) rfl rfl ?_
      refine AOps.sk rfl rfl ?_
      refine AOps.sk rfl rfl ?_
      refine AOps.sk rfl rfl ?_
      refine AOps.lk (LOp.pkF (a := .v _) rfl (by first | rfl | assumption) rfl) rfl rfl ?_
      refine AOps.lk (LOp.asg (a := .v _) rfl) rfl rfl ?_
      refine AOps.nil ?_
      refine andThen_normal ?_
      refine AWP.ret (andThen_ret (?_))
      refine ⟨.inr rfl, Outs.val Tryz.results33 rfl rfl ?_⟩
      refine vb_eq ?_; unfold varB; simp_all; try (intros; omega)
  · skip
    refine AWP.skip ?_
    refine andThen_normal ?_
    refine AWP.seq ?_
    refine AWP.region ?_
    refine AOps.lk (LOp.fieldAddr fi44_0 rfl rfl rfl rfl rfl) rfl rfl ?_
    refine AOps.lk (LOp.load1 row3 rfl rfl rfl rfl rfl) rfl rfl ?_
    refine AOps.lk (LOp.plain rfl (fun _ _ => nofun) (fun _ => rfl)) rfl rfl ?_
    refine AOps.lk (LOp.mv (a := .v _) rfl) rfl rfl ?_
    refine AOps.splitB 29 rfl (fun hg29 => ?_) (fun hg29 => ?_)
    · skip
      refine AOps.lk (LOp.fieldAddr fi44_3 rfl rfl rfl rfl rfl) rfl rfl ?_
      refine AOps.lk (LOp.load1 row3 rfl rfl rfl rfl rfl) rfl rfl ?_
      refine AOps.lk (LOp.plain rfl (fun _ _ => nofun) (fun _ => rfl)) rfl rfl ?_
      refine AOps.lk (LOp.pickB rfl rfl rfl) rfl rfl ?_
      refine AOps.lk (LOp.mv (a := .v _) rfl) rfl rfl ?_
      refine AOps.splitB 34 rfl (fun hg34 => ?_) (fun hg34 => ?_)
      · skip
        refine AOps.lk (LOp.fieldAddr fi44_3 rfl rfl rfl rfl rfl) rfl rfl ?_
        refine AOps.lk (LOp.load1 row3 rfl rfl rfl rfl rfl) rfl rfl ?_
        refine AOps.lk (LOp.plain rfl (fun _ _ => nofun) (fun _ => rfl)) rfl rfl ?_
        refine AOps.lk (LOp.pickB rfl rfl rfl) rfl rfl ?_
        refine AOps.lk (LOp.mv (a := .v _) rfl) rfl rfl ?_
        refine AOps.splitB 39 rfl (fun hg39 => ?_) (fun hg39 => ?_)
        · skip
          refine AOps.lk (LOp.fieldAddr fi44_1 rfl rfl rfl rfl rfl) rfl rfl ?_
          refine AOps.lk (LOp.load1 row2 rfl rfl rfl rfl rfl) rfl rfl ?_
          refine AOps.lk (LOp.plain rfl (fun _ _ => nofun) (fun _ => rfl)) rfl rfl ?_
          refine AOps.lk (LOp.pickB rfl rfl rfl) rfl rfl ?_
          refine AOps.lk (LOp.mv (a := .v _) rfl) rfl rfl ?_
          refine AOps.splitB 44 rfl (fun hg44 => ?_) (fun hg44 => ?_)
          · skip
            refine AOps.lk (LOp.fieldAddr fi44_2 rfl rfl rfl rfl rfl) rfl rfl ?_
            refine AOps.lk (LOp.load1 row2 rfl rfl rfl rfl rfl) rfl rfl ?_
            refine AOps.lk (LOp.plain rfl (fun _ _ => nofun) (fun _ => rfl)) rfl rfl ?_
            refine AOps.lk (LOp.pickB rfl rfl rfl) rfl rfl ?_
            refine AOps.lk (LOp.asg (a := .v _) rfl) rfl rfl ?_
            refine AOps.nil ?_
            refine andThen_normal ?_
            refine AWP.ret (?_)
            refine ⟨.inr rfl, Outs.val Tryz.results33 rfl rfl ?_⟩
            refine vb_eq ?_; unfold varB; simp_all; try (intros; omega)
          · skip
            refine AOps.sk rfl rfl ?_
            refine AOps.sk rfl rfl ?_
            refine AOps.sk rfl rfl ?_
            refine AOps.lk (LOp.pkF (a := .v _) rfl (by first | rfl | assumption) rfl) rfl rfl ?_
            refine AOps.lk (LOp.asg (a := .v _) rfl) rfl rfl ?_
            refine AOps.nil ?_
            refine andThen_normal ?_
            refine AWP.ret (?_)
            refine ⟨.inr rfl, Outs.val Tryz.results33 rfl rfl ?_⟩
            refine vb_eq ?_; unfold varB; simp_all; try (intros; omega)
        · skip
          refine AOps.sk rfl rfl ?_
          refine AOps.sk rfl rfl ?_
          refine AOps.sk rfl rfl ?_
          refine AOps.lk (LOp.pkF (a := .v _) rfl (by first | rfl | assumption) rfl) rfl rfl ?_
          refine AOps.lk (LOp.mv (a := .v _) rfl) rfl rfl ?_
          refine AOps.sk rfl rfl ?_
          refine AOps.sk rfl rfl ?_
          refine AOps.sk rfl rfl ?_
          refine AOps.lk (LOp.pkF (a := .v _) rfl (by first | rfl | assumption) rfl) rfl rfl ?_
          refine AOps.lk (LOp.asg (a := .v _) rfl) rfl rfl ?_
          refine AOps.nil ?_
          refine andThen_normal ?_
          refine AWP.ret (?_)
          refine ⟨.inr rfl, Outs.val Tryz.results33 rfl rfl ?_⟩
          refine vb_eq ?_; unfold varB; simp_all; try (intros; omega)
      · skip
        refine AOps.sk rfl rfl ?_
        refine AOps.sk rfl rfl ?_
        refine AOps.sk rfl rfl ?_
        refine AOps.lk (LOp.pkF (a := .v _) rfl (by first | rfl | assumption) rfl) rfl rfl ?_
        refine AOps.lk (LOp.mv (a := .v _) rfl) rfl rfl ?_
        refine AOps.sk rfl rfl ?_
        refine AOps.sk rfl rfl ?_
        refine AOps.sk rfl rfl ?_
        refine AOps.lk (LOp.pkF (a := .v _) rfl (by first | rfl | assumption) rfl) rfl rfl ?_
        refine AOps.lk (LOp.mv (a := .v _) rfl) rfl rfl ?_
        refine AOps.sk rfl rfl ?_
        refine AOps.sk rfl rfl ?_
        refine AOps.sk rfl rfl ?_
        refine AOps.lk (LOp.pkF (a := .v _) rfl (by first | rfl | assumption) rfl) rfl rfl ?_
        refine AOps.lk (LOp.asg (a := .v _) rfl) rfl rfl ?_
        refine AOps.nil ?_
        refine andThen_normal ?_
        refine AWP.ret (?_)
        refine ⟨.inr rfl, Outs.val Tryz.results33 rfl rfl ?_⟩
        refine vb_eq ?_; unfold varB; simp_all; try (intros; omega)
    · skip
      refine AOps.sk rfl rfl ?_
      refine AOps.sk rfl rfl ?_
      refine AOps.sk rfl rfl ?_
      refine AOps.lk (LOp.pkF (a := .v _) rfl (by first | rfl | assumption) rfl) rfl rfl ?_
      refine AOps.lk (LOp.mv (a := .v _) rfl) rfl rfl ?_
      refine AOps.sk rfl rfl ?_
      refine AOps.sk rfl rfl ?_
      refine AOps.sk rfl rfl ?_
      refine AOps.lk (LOp.pkF (a := .v _) rfl (by first | rfl | assumption) rfl) rfl rfl ?_
      refine AOps.lk (LOp.mv (a := .v _) rfl) rfl rfl ?_
      refine AOps.sk rfl rfl ?_
      refine AOps.sk rfl rfl ?_
      refine AOps.sk rfl rfl ?_
      refine AOps.lk (LOp.pkF (a := .v _) rfl (by first | rfl | assumption) rfl) rfl rfl ?_
      refine AOps.lk (LOp.mv (a := .v _) rfl) rfl rfl ?_
      refine AOps.sk rfl rfl ?_
      refine AOps.sk rfl rfl ?_
      refine AOps.sk rfl rfl ?_
      refine AOps.lk (LOp.pkF (a := .v _) rfl (by first | rfl | assumption) rfl) rfl rfl ?_
      refine AOps.lk (LOp.asg (a := .v _) rfl) rfl rfl ?_
      refine AOps.nil ?_
      refine andThen_normal ?_
      refine AWP.ret (?_)
      refine ⟨.inr rfl, Outs.val Tryz.results33 rfl rfl ?_⟩
      refine vb_eq ?_; unfold varB; simp_all; try (intros; omega)

set_option maxRecDepth 100000 in
set_option maxHeartbeats 4000000 in
theorem pasc_p (l : List Int) (v : Int) (hl : l.length ≤ 1000) : PCall Tryz.prog 65 [isA l, .v (.int .i64 v)] (.v (.bool (ascB l v))) := by
  refine PCall.of_body Tryz.func65 rfl Tryz.ntmps65 (Nat.le_of_ble_eq_true rfl) ?_
  refine AWP.seq ?_
  refine AWP.region ?_
  refine AOps.lk (LOp.asg (a := .v _) rfl) rfl rfl ?_
  refine AOps.nil ?_
  refine andThen_normal ?_
  refine AWP.seq ?_
  refine AWP.seq ?_
  refine AWP.region ?_
  refine AOps.lk (LOp.mv (a := .tree _ _) rfl) rfl rfl ?_
  refine AOps.lk (LOp.lenT rfl Tryz.underlying29 rfl) rfl rfl ?_
  refine AOps.lk (LOp.mv (a := .v _) rfl) rfl rfl ?_
  refine AOps.nil ?_
  refine andThen_normal ?_
  refine AWP.block ?_
  refine AWP.loopC (fun n s => ∃ k : Nat, n = (l.length - k) ∧ s = ⟨frameL [(0, isA l), (1, .v (.int .i64 v)), (7, isA l), (8, .v (.int .i64 ((l.length : Nat) : Int))), (9, .v (.int .i64 ((k : Nat) : Int)))], heapL [], 0⟩ ∧ (k ≤ l.length ∧ ∀ j, j < k → ascP l v j = true)) (n := (l.length - 0)) (s1 := ⟨frameL [(0, isA l), (1, .v (.int .i64 v)), (7, isA l), (8, .v (.int .i64 ((l.length : Nat) : Int))), (9, .v (.int .i64 ((0 : Nat) : Int)))], heapL [], 0⟩) (Canon.of (.cons rfl rfl (.cons rfl rfl (.cons rfl rfl (.cons rfl rfl (.cons rfl rfl .nil))))) .nil) ⟨0, rfl, rfl, ⟨Nat.zero_le _, fun j h => absurd h (Nat.not_lt_zero j)⟩⟩ ?_
  rintro n s ⟨k, rfl, rfl, hinv⟩
  obtain ⟨hk, hj⟩ := hinv
  refine AWP.seq ?_
  refine AWP.region ?_
  refine AOps.lk (LOp.plain rfl (fun _ _ => nofun) (fun _ => rfl)) rfl rfl ?_
  refine AOps.nil ?_
  refine andThen_normal ?_
  refine AWP.seq ?_
  refine AWP.cond rfl (fun hc10 => ?_) (fun hc10 => ?_)
  · skip
    have hlt : k < l.length := Int.ofNat_lt.1 (of_decide_eq_true hc10)
    refine AWP.skip ?_
    refine andThen_normal ?_
    refine AWP.seq ?_
    refine AWP.block ?_
    refine AWP.seq ?_
    refine AWP.region ?_
    refine AOps.lk (LOp.mv (a := .v _) rfl) rfl rfl ?_
    refine AOps.lk (LOp.indexT Tryz.underlying29 sz3 rfl rfl (by first | assumption | omega)) rfl rfl ?_
    refine AOps.lk (LOp.loadT1 row3 rfl rfl) rfl rfl ?_
    refine AOps.lk (LOp.asg (a := .v _) rfl) rfl rfl ?_
    refine AOps.lk (LOp.asg (a := .v _) rfl) rfl rfl ?_
    refine AOps.nil ?_
    refine andThen_normal ?_
    refine AWP.seq ?_
    refine AWP.region ?_
    refine AOps.lk (LOp.mv (a := .v _) rfl) rfl rfl ?_
    refine AOps.lk (LOp.plain rfl (fun _ _ => nofun) (fun _ => rfl)) rfl rfl ?_
    refine AOps.lk (LOp.mv (a := .v _) rfl) rfl rfl ?_
    refine AOps.splitB 16 rfl (fun hg16 => ?_) (fun hg16 => ?_)
    · skip
      refine AOps.sk rfl rfl ?_
      refine AOps.sk rfl rfl ?_
      refine AOps.sk rfl rfl ?_
      refine AOps.lk (LOp.pkT (a := .v _) rfl (by first | rfl | assumption) rfl) rfl rfl ?_
      refine AOps.lk (LOp.mv (a := .v _) rfl) rfl rfl ?_
      refine AOps.sk rfl rfl ?_
      refine AOps.sk rfl rfl ?_
      refine AOps.sk rfl rfl ?_
      refine AOps.sk rfl rfl ?_
      refine AOps.sk rfl rfl ?_
      refine AOps.sk rfl rfl ?_
      refine AOps.sk rfl rfl ?_
      refine AOps.sk rfl rfl ?_
      refine AOps.sk rfl rfl ?_
      refine AOps.sk rfl rfl ?_
      refine AOps.sk rfl rfl ?_
      refine AOps.lk (LOp.pkT (a := .v _) rfl (by first | rfl | assumption) rfl) rfl rfl ?_
      refine AOps.nil ?_
      refine andThen_normal ?_
      refine AWP.condT rfl ?_
      refine AWP.seq ?_
      refine AWP.region ?_
      refine AOps.lk (LOp.asg (a := .v _) rfl) rfl rfl ?_
      refine AOps.nil ?_
      refine andThen_normal ?_
      refine AWP.ret (inBlk_ret (andThen_ret (andThen_ret (inBlk_ret (andThen_ret (?_))))))
      refine ⟨.inr rfl, Outs.val Tryz.results65 rfl rfl ?_⟩
      (refine vb_eq (Eq.symm (allN_hit hlt ?_)); (first | simp only [ascP, getD_at hlt, ek1] | simp only [ascP, getD_at hlt]); simp_all; done)
    · skip
      refine AOps.lk (LOp.mv (a := .v _) rfl) rfl rfl ?_
      refine AOps.lk (LOp.mv (a := .v _) rfl) rfl rfl ?_
      refine AOps.lk (LOp.plain rfl (fun _ _ => nofun) (fun _ => rfl)) rfl rfl ?_
      refine AOps.lk (LOp.pickB rfl rfl rfl) rfl rfl ?_
      refine AOps.lk (LOp.mv (a := .v _) rfl) rfl rfl ?_
      refine AOps.splitB 21 rfl (fun hg21 => ?_) (fun hg21 => ?_)
      · skip
        refine AOps.sk rfl rfl ?_
        refine AOps.sk rfl rfl ?_
        refine AOps.sk rfl rfl ?_
        refine AOps.sk rfl rfl ?_
        refine AOps.sk rfl rfl ?_
        refine AOps.sk rfl rfl ?_
        refine AOps.sk rfl rfl ?_
        refine AOps.sk rfl rfl ?_
        refine AOps.sk rfl rfl ?_
        refine AOps.sk rfl rfl ?_
        refine AOps.sk rfl rfl ?_
        refine AOps.lk (LOp.pkT (a := .v _) rfl (by first | rfl | assumption) rfl) rfl rfl ?_
        refine AOps.nil ?_
        refine andThen_normal ?_
        refine AWP.condT rfl ?_
        refine AWP.seq ?_
        refine AWP.region ?_
        refine AOps.lk (LOp.asg (a := .v _) rfl) rfl rfl ?_
        refine AOps.nil ?_
        refine andThen_normal ?_
        refine AWP.ret (inBlk_ret (andThen_ret (andThen_ret (inBlk_ret (andThen_ret (?_))))))
        refine ⟨.inr rfl, Outs.val Tryz.results65 rfl rfl ?_⟩
        (refine vb_eq (Eq.symm (allN_hit hlt ?_)); (first | simp only [ascP, getD_at hlt, ek1] | simp only [ascP, getD_at hlt]); simp_all; done)
      · skip
        refine AOps.lk (LOp.mv (a := .v _) rfl) rfl rfl ?_
        refine AOps.lk (LOp.plain rfl (fun _ _ => nofun) (fun _ => rfl)) rfl rfl ?_
        refine AOps.lk (LOp.mv (a := .v _) rfl) rfl rfl ?_
        refine AOps.splitB 24 rfl (fun hg24 => ?_) (fun hg24 => ?_)
        · skip
          obtain ⟨k', hk'⟩ : ∃ k', k = k' + 1 := ⟨k - 1, by simp at hg24; omega⟩
          have ek1 : l.getD (k - 1) 0 = l[k']'(by omega) := by rw [show k - 1 = k' by omega]; exact getD_at (by omega)
          refine AOps.lk (LOp.mv (a := .v _) rfl) rfl rfl ?_
          refine AOps.lk (LOp.mv (a := .tree _ _) rfl) rfl rfl ?_
          refine AOps.lk (LOp.mv (a := .v _) rfl) rfl rfl ?_
          refine AOps.lk (LOp.subOne rfl rfl hk' (by omega)) rfl rfl ?_
          refine AOps.lk (LOp.indexT Tryz.underlying29 sz3 rfl rfl (by first | assumption | omega)) rfl rfl ?_
          refine AOps.lk (LOp.loadT1 row3 rfl rfl) rfl rfl ?_
          refine AOps.lk (LOp.plain rfl (fun _ _ => nofun) (fun _ => rfl)) rfl rfl ?_
          refine AOps.lk (LOp.pickB rfl rfl rfl) rfl rfl ?_
          refine AOps.lk (LOp.pickB rfl rfl rfl) rfl rfl ?_
          refine AOps.nil ?_
          refine andThen_normal ?_
          refine AWP.cond rfl (fun hc33 => ?_) (fun hc33 => ?_)
          · skip
            refine AWP.seq ?_
            refine AWP.region ?_
            refine AOps.lk (LOp.asg (a := .v _) rfl) rfl rfl ?_
            refine AOps.nil ?_
            refine andThen_normal ?_
            refine AWP.ret (inBlk_ret (andThen_ret (andThen_ret (inBlk_ret (andThen_ret (?_))))))
            refine ⟨.inr rfl, Outs.val Tryz.results65 rfl rfl ?_⟩
            (refine vb_eq (Eq.symm (allN_hit hlt ?_)); (first | simp only [ascP, getD_at hlt, ek1] | simp only [ascP, getD_at hlt]); simp_all; done)
          · skip
            refine AWP.skip ?_
            refine inBlk_normal ?_
            refine andThen_normal ?_
            refine AWP.region ?_
            refine AOps.lk (LOp.addI rfl rfl (by omega) (by omega)) rfl rfl ?_
            refine AOps.lk (LOp.mv (a := .v _) rfl) rfl rfl ?_
            refine AOps.nil ?_
            refine andThen_normal ?_
            refine ⟨(l.length - (k + 1)), ⟨frameL [(0, isA l), (1, .v (.int .i64 v)), (7, isA l), (8, .v (.int .i64 ((l.length : Nat) : Int))), (9, .v (.int .i64 (((k + 1) : Nat) : Int)))], heapL [], 0⟩, by omega, (Canon.of (.cons rfl rfl (.cons rfl rfl (.cons rfl rfl (.cons rfl rfl (.cons rfl rfl .nil))))) .nil), k + 1, rfl, rfl, ?_⟩
            refine ⟨by omega, fun j h => ?_⟩
            rcases Nat.lt_succ_iff_lt_or_eq.1 h with h | rfl
            · exact hj j h
            · (first | simp only [ascP, getD_at hlt, ek1] | simp only [ascP, getD_at hlt]); simp_all
        · skip
          refine AOps.sk rfl rfl ?_
          refine AOps.sk rfl rfl ?_
          refine AOps.sk rfl rfl ?_
          refine AOps.sk rfl rfl ?_
          refine AOps.sk rfl rfl ?_
          refine AOps.sk rfl rfl ?_
          refine AOps.sk rfl rfl ?_
          refine AOps.lk (LOp.pkF (a := .v _) rfl (by first | rfl | assumption) rfl) rfl rfl ?_
          refine AOps.lk (LOp.pickB rfl rfl rfl) rfl rfl ?_
          refine AOps.nil ?_
          refine andThen_normal ?_
          refine AWP.condF rfl ?_
          refine AWP.skip ?_
          refine inBlk_normal ?_
          refine andThen_normal ?_
          refine AWP.region ?_
          refine AOps.lk (LOp.addI rfl rfl (by omega) (by omega)) rfl rfl ?_
          refine AOps.lk (LOp.mv (a := .v _) rfl) rfl rfl ?_
          refine AOps.nil ?_
          refine andThen_normal ?_
          refine ⟨(l.length - (k + 1)), ⟨frameL [(0, isA l), (1, .v (.int .i64 v)), (7, isA l), (8, .v (.int .i64 ((l.length : Nat) : Int))), (9, .v (.int .i64 (((k + 1) : Nat) : Int)))], heapL [], 0⟩, by omega, (Canon.of (.cons rfl rfl (.cons rfl rfl (.cons rfl rfl (.cons rfl rfl (.cons rfl rfl .nil))))) .nil), k + 1, rfl, rfl, ?_⟩
          refine ⟨by omega, fun j h => ?_⟩
          rcases Nat.lt_succ_iff_lt_or_eq.1 h with h | rfl
          · exact hj j h
          · (first | simp only [ascP, getD_at hlt, ek1] | simp only [ascP, getD_at hlt]); simp_all
  · skip
    have hge : ¬ k < l.length := fun h => of_decide_eq_false hc10 (Int.ofNat_lt.2 h)
    refine AWP.exit (andThen_exit (andThen_exit (inBlk_exit ?_)))
    refine andThen_normal ?_
    refine AWP.seq ?_
    refine AWP.region ?_
    refine AOps.lk (LOp.asg (a := .v _) rfl) rfl rfl ?_
    refine AOps.nil ?_
    refine andThen_normal ?_
    refine AWP.ret (?_)
    refine ⟨.inr rfl, Outs.val Tryz.results65 rfl rfl ?_⟩
    exact vb_eq (Eq.symm (allN_end hk hge hj))

set_option maxRecDepth 100000 in
set_option maxHeartbeats 4000000 in
theorem idx_p (l : List Int) (v : Int) (hl : l.length ≤ 1000) : PCall Tryz.prog 102 [isA l, .v (.int .i64 v)] (.v (.int .i64 (idxQ l.length (hasP l v)))) := by
  refine PCall.of_body Tryz.func102 rfl Tryz.ntmps102 (Nat.le_of_ble_eq_true rfl) ?_
  refine AWP.seq ?_
  refine AWP.region ?_
  refine AOps.lk (LOp.asg (a := .v _) rfl) rfl rfl ?_
  refine AOps.nil ?_
  refine andThen_normal ?_
  refine AWP.seq ?_
  refine AWP.seq ?_
  refine AWP.region ?_
  refine AOps.lk (LOp.mv (a := .tree _ _) rfl) rfl rfl ?_
  refine AOps.lk (LOp.lenT rfl Tryz.underlying29 rfl) rfl rfl ?_
  refine AOps.lk (LOp.mv (a := .v _) rfl) rfl rfl ?_
  refine AOps.nil ?_
  refine andThen_normal ?_
  refine AWP.block ?_
  refine AWP.loopC (fun n s => ∃ k : Nat, n = (l.length - k) ∧ s = ⟨frameL [(0, isA l), (1, .v (.int .i64 v)), (7, .v (.int .i64 ((l.length : Nat) : Int))), (8, .v (.int .i64 ((k : Nat) : Int)))], heapL [], 0⟩ ∧ (k ≤ l.length ∧ ∀ j, j < k → hasP l v j = true)) (n := (l.length - 0)) (s1 := ⟨frameL [(0, isA l), (1, .v (.int .i64 v)), (7, .v (.int .i64 ((l.length : Nat) : Int))), (8, .v (.int .i64 ((0 : Nat) : Int)))], heapL [], 0⟩) (Canon.of (.cons rfl rfl (.cons rfl rfl (.cons rfl rfl (.cons rfl rfl .nil)))) .nil) ⟨0, rfl, rfl, ⟨Nat.zero_le _, fun j h => absurd h (Nat.not_lt_zero j)⟩⟩ ?_
  rintro n s ⟨k, rfl, rfl, hinv⟩
  obtain ⟨hk, hj⟩ := hinv
  refine AWP.seq ?_
  refine AWP.region ?_
  refine AOps.lk (LOp.plain rfl (fun _ _ => nofun) (fun _ => rfl)) rfl rfl ?_
  refine AOps.nil ?_
  refine andThen_normal ?_
  refine AWP.seq ?_
  refine AWP.cond rfl (fun hc9 => ?_) (fun hc9 => ?_)
  · skip
    have hlt : k < l.length := Int.ofNat_lt.1 (of_decide_eq_true hc9)
    refine AWP.skip ?_
    refine andThen_normal ?_
    refine AWP.seq ?_
    refine AWP.block ?_
    refine AWP.seq ?_
    refine AWP.region ?_
    refine AOps.lk (LOp.mv (a := .v _) rfl) rfl rfl ?_
    refine AOps.lk (LOp.asg (a := .v _) rfl) rfl rfl ?_
    refine AOps.nil ?_
    refine andThen_normal ?_
    refine AWP.seq ?_
    refine AWP.region ?_
    refine AOps.lk (LOp.mv (a := .v _) rfl) rfl rfl ?_
    refine AOps.lk (LOp.mv (a := .tree _ _) rfl) rfl rfl ?_
    refine AOps.lk (LOp.mv (a := .v _) rfl) rfl rfl ?_
    refine AOps.lk (LOp.indexT Tryz.underlying29 sz3 rfl rfl (by first | assumption | omega)) rfl rfl ?_
    refine AOps.lk (LOp.loadT1 row3 rfl rfl) rfl rfl ?_
    refine AOps.lk (LOp.plain rfl (fun _ _ => nofun) (fun _ => rfl)) rfl rfl ?_
    refine AOps.nil ?_
    refine andThen_normal ?_
    refine AWP.cond rfl (fun hc16 => ?_) (fun hc16 => ?_)
    · skip
      refine AWP.seq ?_
      refine AWP.region ?_
      refine AOps.lk (LOp.mv (a := .v _) rfl) rfl rfl ?_
      refine AOps.lk (LOp.asg (a := .v _) rfl) rfl rfl ?_
      refine AOps.nil ?_
      refine andThen_normal ?_
      refine AWP.ret (inBlk_ret (andThen_ret (andThen_ret (inBlk_ret (andThen_ret (?_))))))
      refine ⟨.inr rfl, Outs.val Tryz.results102 rfl rfl ?_⟩
      refine vi_eq (idxQ_hit hlt hj ?_); simp only [hasP, getD_at hlt]; simp_all
    · skip
      refine AWP.skip ?_
      refine inBlk_normal ?_
      refine andThen_normal ?_
      refine AWP.region ?_
      refine AOps.lk (LOp.addI rfl rfl (by omega) (by omega)) rfl rfl ?_
      refine AOps.lk (LOp.mv (a := .v _) rfl) rfl rfl ?_
      refine AOps.nil ?_
      refine andThen_normal ?_
      refine ⟨(l.length - (k + 1)), ⟨frameL [(0, isA l), (1, .v (.int .i64 v)), (7, .v (.int .i64 ((l.length : Nat) : Int))), (8, .v (.int .i64 (((k + 1) : Nat) : Int)))], heapL [], 0⟩, by omega, (Canon.of (.cons rfl rfl (.cons rfl rfl (.cons rfl rfl (.cons rfl rfl .nil)))) .nil), k + 1, rfl, rfl, ?_⟩
      refine ⟨by omega, fun j h => ?_⟩
      rcases Nat.lt_succ_iff_lt_or_eq.1 h with h | rfl
      · exact hj j h
      · simp only [hasP, getD_at hlt]; simp_all; try (intro h; exact absurd h.symm (by assumption))
  · skip
    have hge : ¬ k < l.length := fun h => of_decide_eq_false hc9 (Int.ofNat_lt.2 h)
    refine AWP.exit (andThen_exit (andThen_exit (inBlk_exit ?_)))
    refine andThen_normal ?_
    refine AWP.seq ?_
    refine AWP.region ?_
    refine AOps.lk (LOp.asg (a := .v _) rfl) rfl rfl ?_
    refine AOps.nil ?_
    refine andThen_normal ?_
    refine AWP.ret (?_)
    refine ⟨.inr rfl, Outs.val Tryz.results102 rfl rfl ?_⟩
    exact vi_eq (idxQ_end hk hge hj)

set_option maxRecDepth 100000 in
set_option maxHeartbeats 4000000 in
theorem con_p (l : List Int) (v : Int) (hl : l.length ≤ 1000) : PCall Tryz.prog 67 [isA l, .v (.int .i64 v)] (.v (.bool (hasB l v))) := by
  refine PCall.of_body Tryz.func67 rfl Tryz.ntmps67 (Nat.le_of_ble_eq_true rfl) ?_
  refine AWP.seq ?_
  refine AWP.region ?_
  refine AOps.lk (LOp.asg (a := .v _) rfl) rfl rfl ?_
  refine AOps.nil ?_
  refine andThen_normal ?_
  refine AWP.seq ?_
  refine AWP.region ?_
  refine AOps.lk (LOp.mv (a := .tree _ _) rfl) rfl rfl ?_
  refine AOps.lk (LOp.mv (a := .v _) rfl) rfl rfl ?_
  refine AOps.lk (LOp.call bod102 rfl (idx_p l v hl)) rfl rfl ?_
  refine AOps.lk (LOp.plain rfl (fun _ _ => nofun) (fun _ => rfl)) rfl rfl ?_
  refine AOps.lk (LOp.asg (a := .v _) rfl) rfl rfl ?_
  refine AOps.nil ?_
  refine andThen_normal ?_
  refine AWP.ret (?_)
  refine ⟨.inr rfl, Outs.val Tryz.results67 rfl rfl ?_⟩
  refine vb_eq ?_; exact idxQ_ge
end Go.Proofs.YtgknefkobpnjaaaGreatDoor
/- More operations: calls of closures, arithmetic without a sign, bytes of a text, a slice that a call made anew. -/
namespace Go.Proofs.YtgknefkobpnjaaaGreatDoor
set_option linter.unusedVariables false
set_option linter.unusedSimpArgs false
open Go.RowKit

/-- The values of a list, read with some blocks taken for immutable ones. -/
inductive FzL (fp : List Nat) (η : Heap) : List AV → List AV → Prop where
  | nil : FzL fp η [] []
  | cons {a r : AV} {ls rs : List AV} : FzP fp η a r → FzL fp η ls rs → FzL fp η (a :: ls) (r :: rs)
theorem FzL.at {fp : List Nat} {η : Heap} {ls rs : List AV} (h : FzL fp η ls rs) : ls.length = rs.length ∧ ∀ i (h : i < ls.length) (h' : i < rs.length), FzP fp η ls[i] rs[i] := by
  induction h with
  | nil => exact ⟨rfl, fun i h => absurd h (by simp)⟩
  | cons h1 _ ih =>
    refine ⟨by simp [ih.1], fun i h h' => ?_⟩
    cases i with
    | zero => exact h1
    | succ i => exact ih.2 i (by simpa using h) (by simpa using h')
theorem FzL.pure {fp : List Nat} {η : Heap} : ∀ {ls : List AV}, pureL ls = true → FzL fp η ls ls
  | [], _ => .nil
  | a :: ls, h => by
    simp only [pureL, Bool.and_eq_true] at h
    exact .cons (FzP.pure h.1) (FzL.pure h.2)
theorem FzP.clo {fp : List Nat} {η : Heap} {f : FuncId} {cs ds : List AV} (h : FzL fp η cs ds) : FzP fp η (.clo f cs) (.clo f ds) := fun C hg hη x hx => by
  obtain ⟨vs, rfl, h1, h2⟩ := hx.clo_inv
  obtain ⟨hl, hi⟩ := h.at
  exact .clo (by omega) (fun i h h' => hi i (by omega) h C hg hη _ (h2 i (by omega) h'))
theorem FzP.ptrL {fp : List Nat} {η : Heap} {id ver o w z : Nat} {cs ds : List AV} (hid : id ∈ fp) (hb : η id = some ⟨w, cs, z, false⟩) (hv : w = ver) (h : FzL fp η cs ds) : FzP fp η (.ptr id ver o) (.tp ds o) :=
  FzP.ptr (b := ⟨w, cs, z, false⟩) hid hb hv rfl h.at.1.symm (fun j h1 h2 => h.at.2 j h1 h2)

section
variable {P : Program} {τ : Nat → AV} {η : Heap} {d : Option Tmp} {ty : TypeId} {pos : String} {af : Array Edge} {g : Option (Nat × Bool)}
/-- The call of a closure that is handed blocks of the call's own to look at. -/
theorem LOp.callVB {g0 : Operand} {f : FuncId} {caps : List AV} {xs : Array Operand} {ats : Array TypeId} {y : Value} {ys args : List AV} (fp : List Nat) (hb : bodied P f = true) (hg0 : aev τ g0 = .clo f caps) (hys : xs.toList.map (aev τ) ++ caps = ys) (hf : FzL fp η ys args) (hc : PCall P f args (.v y)) :
    LOp P ⟨d, .call { callee := .value g0, args := xs, argTypes := ats }, ty, pos, af, g⟩ τ η fp [] (.v y) := by
  refine LOp.of_callB hc fun C a hg hxs hη => ?_
  have h0 := hxs g0 (by simp [Op.operands, Call.operands])
  rw [hg0] at h0
  obtain ⟨vs, hv, hl, hi⟩ := h0.clo_inv
  refine ⟨xs.map a.eval ++ vs, ?_, ?_⟩
  · have hlen := hf.at.1
    subst hys
    refine ⟨by rw [← hlen]; simp [hl], fun i h h' => ?_⟩
    have hlt : i < (xs.toList.map (aev τ) ++ caps).length := by rw [hlen]; exact h
    have hF := (hf.at.2 i hlt h) C hg hη ((xs.map a.eval ++ vs)[i]) ?_
    · exact hF.mono (fun b hb => hb.imp (fun h => h) Ctx.mineOf_mine) (fun _ _ => rfl)
    · by_cases hlx : i < xs.size
      · have e1 : (xs.toList.map (aev τ) ++ caps)[i] = aev τ xs[i] := by
          rw [List.getElem_append_left (by simpa using hlx)]; simp
        have e2 : (xs.map a.eval ++ vs)[i] = a.eval xs[i] := by
          rw [Array.getElem_append_left (by simpa using hlx)]; simp
        rw [e1, e2]
        exact hxs _ (by simp [Op.operands, Call.operands])
      · have e1 : (xs.toList.map (aev τ) ++ caps)[i] = caps[i - xs.size]'(by simp at hlt; omega) := by
          rw [List.getElem_append_right (by simpa using hlx)]; simp
        have e2 : (xs.map a.eval ++ vs)[i] = vs[i - xs.size]'(by simp at h'; omega) := by
          rw [Array.getElem_append_right (by simpa using hlx)]; simp
        rw [e1, e2]
        exact hi _ _ _
  · have e : (execOp a.eval ⟨d, .call { callee := .value g0, args := xs, argTypes := ats }, ty, pos, af, g⟩).run P C.w = (callFunc f (#[] ++ xs.map a.eval ++ vs)).run P C.w := by
      have e0 : execOp a.eval ⟨d, .call { callee := .value g0, args := xs, argTypes := ats }, ty, pos, af, g⟩ = (do let dd ← Deferred.ofValue (a.eval g0) (xs.map a.eval); invoke dd.target dd.args) := rfl
      rw [e0, hv]
      rfl
    rw [e, run_callFunc' hb]
    simp

theorem LOp.mkFn {f : FuncId} {caps : Array Operand} {cs : List AV} (h : caps.toList.map (aev τ) = cs) : LOp P ⟨d, .makeFunc (.func f) #[] caps, ty, pos, af, g⟩ τ η [] [] (.clo f cs) := by
  subst h; exact LOp.makeFunc

/-! ### Numbers without a sign -/
theorem LOp.addU {t t' : Nat} {x y : Operand} {m n : Int} (hx : aev τ x = .v (.int .u64 m)) (hy : aev τ y = .v (.int .u64 n)) (h1 : 0 ≤ m + n) (h2 : m + n ≤ 18446744073709551615) :
    LOp P ⟨d, .binOp .add t x y t', ty, pos, af, g⟩ τ η [] [] (.v (.int .u64 (m + n))) :=
  .look [] fun C a _ hxs _ => by
    have e1 := hxs x (by simp [Op.operands])
    have e2 := hxs y (by simp [Op.operands])
    rw [hx] at e1
    rw [hy] at e2
    refine ⟨.int .u64 (m + n), ?_, VR.v C _⟩
    rw [← Go.IntWalk.u64_in (m + n) ⟨h1, h2⟩]
    simp only [execOp, e1.v_inv, e2.v_inv]
    rfl
theorem LOp.quoU {t t' : Nat} {x y : Operand} {m n : Int} (hx : aev τ x = .v (.int .u64 m)) (hy : aev τ y = .v (.int .u64 n)) (h1 : 0 ≤ m) (h2 : m ≤ 18446744073709551615) (h3 : 1 ≤ n) :
    LOp P ⟨d, .binOp .quo t x y t', ty, pos, af, g⟩ τ η [] [] (.v (.int .u64 (m / n))) :=
  .look [] fun C a _ hxs _ => by
    have e1 := hxs x (by simp [Op.operands])
    have e2 := hxs y (by simp [Op.operands])
    rw [hx] at e1
    rw [hy] at e2
    refine ⟨.int .u64 (m / n), ?_, VR.v C _⟩
    rw [← Go.IntWalk.u64_quo m n ⟨h1, h2, h3⟩]
    have h0 : ¬ (n = 0) := by omega
    simp only [execOp, e1.v_inv, e2.v_inv]
    simp [binOp, Op.intArith, Op.intDiv, eqGuard, h0, Sem.run_bind]
theorem LOp.cvtU {t t' : Nat} {x : Operand} {td : TypeDesc} {m : Int} {k : IntKind} (hs : P.underlying t = some td) (hd : P.underlying t' = some (.int .u64)) (hx : aev τ x = .v (.int k m)) (h1 : 0 ≤ m) (h2 : m ≤ 18446744073709551615) :
    LOp P ⟨d, .convert t t' x, ty, pos, af, g⟩ τ η [] [] (.v (.int .u64 m)) :=
  .look [] fun C a _ hxs _ => by
    have e1 := hxs x (by simp [Op.operands])
    rw [hx] at e1
    refine ⟨.int .u64 m, ?_, VR.v C _⟩
    simp [execOp, e1.v_inv, convert, run_underlying hs, run_underlying hd, Conv.intToInt, Go.IntWalk.u64_in m ⟨h1, h2⟩]
theorem LOp.minU {x y : Operand} {ats : Array TypeId} {k : IntKind} {m n : Int} (hx : aev τ x = .v (.int k m)) (hy : aev τ y = .v (.int k n)) :
    LOp P ⟨d, .call { callee := .builtin .min, args := #[x, y], argTypes := ats }, ty, pos, af, g⟩ τ η [] [] (.v (.int k (min m n))) :=
  .look [] fun C a _ hxs _ => by
    have e1 := hxs x (by simp [Op.operands, Call.operands])
    have e2 := hxs y (by simp [Op.operands, Call.operands])
    rw [hx] at e1
    rw [hy] at e2
    refine ⟨.int k (min m n), ?_, VR.v C _⟩
    have := Go.Lib.run_min_ints (P := P) C.w ats ty k k m n
    simp only [execOp, resolve, invoke, builtin, Sem.run_bind, Sem.run_pure, Result.andThen_ok, List.map_toArray, List.map_cons, List.map_nil, e1.v_inv, e2.v_inv, this]

/-! ### The bytes of a text -/
def byA (b : UInt8) : List AV := [.v (.int .u8 ((b.toNat : Nat) : Int))]
theorem LOp.bytesS {t t' e : Nat} {x : Operand} {td : TypeDesc} {s : ByteArray} (hs : P.underlying t = some td) (hd : P.underlying t' = some (.slice e)) (he : P.underlying e = some (.int .u8)) (hx : aev τ x = .v (.string s)) (hlen : s.size ≤ 1000) :
    LOp P ⟨d, .convert t t' x, ty, pos, af, g⟩ τ η [] [] (.tree 1 (s.data.toList.map byA)) := by
  intro C a hg hxs _ _ K Q hK
  have e1 := hxs x (by simp [Op.operands])
  rw [hx] at e1
  have hrun := Go.Lib.run_convert_string_bytes (P := P) C.w t t' e s hs hd he
  have hex : (execOp a.eval ⟨d, .convert t t' x, ty, pos, af, g⟩).run P C.w = .ok (.value (.slice (some ⟨C.w.heap.size, 0, none⟩) s.size (grownCap C.w s.size 0 e))) (Go.Lib.bytesWorld C.w e s) := by
    simp only [execOp, e1.v_inv, Sem.run_bind, hrun, Result.andThen_ok, Sem.run_pure]
  have hb : Below C.w.heap.size C.w (Go.Lib.bytesWorld C.w e s) := ⟨rfl, rfl, rfl, by rw [Go.Lib.bytesWorld_size]; omega, fun k hk => Go.Lib.bytesWorld_at_old C.w e s k hk⟩
  let T' : Nat → Prop := fun b => C.T b ∨ b = C.w.heap.size
  have t1 : ∀ b, C.T b → T' b := fun b h => .inl h
  have t2 : ∀ b, T' b → C.T b ∨ C.w.heap.size ≤ b := fun b h => h.imp id (fun e => by omega)
  have t3 : ∀ b, T' b → b < (Go.Lib.bytesWorld C.w e s).heap.size := fun b h => by
    rw [Go.Lib.bytesWorld_size]
    rcases h with h | h
    · have := hg.tlt h; omega
    · omega
  unfold Oper.wp
  rw [hex]
  refine hK _ (C.after T' (Go.Lib.bytesWorld C.w e s)) rfl (fun id => by simp [Ctx.after]) (Ctx.after_good hg hb t1 t2 t3) (Ctx.after_ev hg hb t1 t2) ?_
  have hsz : (s.data.toList.map byA).length = s.size := by simp
  have hge := grownCap_ge C.w s.size 0 e
  have hmx : grownCap C.w s.size 0 e ≤ maxLen := grownCap_le_maxLen C.w s.size 0 e (by unfold maxLen; omega)
  refine .imm ?_
  have hT := TR.tree (T := T') (w := Go.Lib.bytesWorld C.w e s) (n := 1) (xs := s.data.toList.map byA) (b := C.w.heap.size) (off := 0) (cap := grownCap C.w s.size 0 e) (fun k j => .int .u8 (((s.data.toList.getD k 0).toNat : Nat) : Int)) (.inr rfl) (by omega) hmx (by omega)
    (fun k h => by simp [byA]) (fun k j hk hj => by
      have hj0 : j = 0 := by omega
      subst hj0
      have hks : k < s.size := by omega
      have := Go.Lib.bytesWorld_cell C.w e s k hks
      simpa using this) (fun k h j h' => by
      have hj0 : j = 0 := by simp [byA] at h'; omega
      subst hj0
      have hks : k < s.data.toList.length := by simpa using h
      simp only [List.getElem_map, byA, List.getElem_cons_zero, List.getD, List.getElem?_eq_getElem hks, Option.getD_some]
      exact .v _)
  rw [hsz] at hT
  exact hT
theorem byA_at {s : ByteArray} {k : Nat} (h : k < s.data.toList.length) : byA s.data.toList[k] = [.v (.int .u8 (((bAt s k).toNat : Nat) : Int))] := by
  unfold byA bAt
  have h' : k < s.data.size := by simpa using h
  simp only [Array.getD, h', dif_pos, Array.getElem_toList]
  rfl
end
end Go.Proofs.YtgknefkobpnjaaaGreatDoor
/- Small functions of the program. -/
namespace Go.Proofs.YtgknefkobpnjaaaGreatDoor
set_option linter.unusedVariables false
set_option linter.unusedSimpArgs false
open Go.RowKit
theorem vu_eq {b c : Int} (h : b = c) : AV.v (.int .u64 b) = AV.v (.int .u64 c) := by rw [h]
section
variable {P : Program} {τ : Nat → AV} {η : Heap} {d : Option Tmp} {ty : TypeId} {pos : String} {af : Array Edge} {g : Option (Nat × Bool)}
theorem LOp.indexBy {t e : Nat} {x i : Operand} {s : ByteArray} {k : Nat} (he : P.underlying t = some (.slice e)) (hs : sizeInfo P e = some 1) (hx : aev τ x = .tree 1 (s.data.toList.map byA)) (hi : aev τ i = .v (.int .i64 ((k : Nat) : Int))) (hj : k < s.data.toList.length) :
    LOp P ⟨d, .indexAddr t x i, ty, pos, af, g⟩ τ η [] [] (.tp [.v (.int .u8 (((bAt s k).toNat : Nat) : Int))] 0) := by
  have := LOp.indexT (P := P) (τ := τ) (η := η) (d := d) (ty := ty) (pos := pos) (af := af) (g := g) he hs hx hi hj
  rwa [byA_at hj] at this
end
/-- Is a variable one of a kind that is not NULL? -/
def usB (v q : Int) (nn : List Int) (l : List PVar) : Bool := decide (v ≥ 0) && decide (v < l.length) && (l.getD v.toNat default).t == q && hasB nn v
theorem usB_txt {v : Int} {nn : List Int} {l : List PVar} : usB v 2 nn l = txtB v nn l := rfl
def prB (s : ByteArray) : Bool := allN s.size (prnP s) && decide ((s.size : Int) ≤ 16)
theorem bod67 : bodied Tryz.prog 67 = true := by kernel_rfl
theorem row5 : rowOf Tryz.prog 5 = some none := by kernel_rfl
theorem sz5 : sizeInfo Tryz.prog 5 = some 1 := by kernel_rfl

set_option maxRecDepth 100000 in
set_option maxHeartbeats 4000000 in
theorem pabs_p (v : Int) (h1 : -9223372036854775808 ≤ v) (h2 : v ≤ 9223372036854775807) : PCall Tryz.prog 69 [.v (.int .i64 v)] (.v (.int .u64 (absI v))) := by
  refine PCall.of_body Tryz.func69 rfl Tryz.ntmps69 (Nat.le_of_ble_eq_true rfl) ?_
  refine AWP.seq ?_
  refine AWP.region ?_
  refine AOps.lk (LOp.asg (a := .v _) rfl) rfl rfl ?_
  refine AOps.nil ?_
  refine andThen_normal ?_
  refine AWP.seq ?_
  refine AWP.seq ?_
  refine AWP.region ?_
  refine AOps.lk (LOp.mv (a := .v _) rfl) rfl rfl ?_
  refine AOps.lk (LOp.plain rfl (fun _ _ => nofun) (fun _ => rfl)) rfl rfl ?_
  refine AOps.nil ?_
  refine andThen_normal ?_
  refine AWP.cond rfl (fun hc4 => ?_) (fun hc4 => ?_)
  · skip
    refine AWP.seq ?_
    refine AWP.region ?_
    refine AOps.lk (LOp.mv (a := .v _) rfl) rfl rfl ?_
    refine AOps.lk (LOp.plain rfl (fun _ _ => nofun) (fun _ => rfl)) rfl rfl ?_
    refine AOps.lk (LOp.plain rfl (fun _ _ => nofun) (fun _ => rfl)) rfl rfl ?_
    refine AOps.lk (LOp.asg (a := .v _) rfl) rfl rfl ?_
    refine AOps.nil ?_
    refine andThen_normal ?_
    refine AWP.ret (andThen_ret (?_))
    refine ⟨.inr rfl, Outs.val Tryz.results69 rfl rfl ?_⟩
    refine vu_eq ?_; have h0 := of_decide_eq_true hc4; unfold absI; rw [if_pos h0, IntKind.wrap_u64, IntKind.wrap_u64]; omega
  · skip
    refine AWP.skip ?_
    refine andThen_normal ?_
    refine AWP.seq ?_
    refine AWP.region ?_
    refine AOps.lk (LOp.mv (a := .v _) rfl) rfl rfl ?_
    refine AOps.lk (LOp.plain rfl (fun _ _ => nofun) (fun _ => rfl)) rfl rfl ?_
    refine AOps.lk (LOp.asg (a := .v _) rfl) rfl rfl ?_
    refine AOps.nil ?_
    refine andThen_normal ?_
    refine AWP.ret (?_)
    refine ⟨.inr rfl, Outs.val Tryz.results69 rfl rfl ?_⟩
    refine vu_eq ?_; have h0 := of_decide_eq_false hc4; unfold absI; rw [if_neg h0, IntKind.wrap_u64]; omega

set_option maxRecDepth 100000 in
set_option maxHeartbeats 4000000 in
theorem prn_p (tx : ByteArray) (hl : tx.size ≤ 1000) : PCall Tryz.prog 71 [.v (.string tx)] (.v (.bool (prB tx))) := by
  have hsz : tx.data.toList.length = tx.size := by simp
  refine PCall.of_body Tryz.func71 rfl Tryz.ntmps71 (Nat.le_of_ble_eq_true rfl) ?_
  refine AWP.seq ?_
  refine AWP.region ?_
  refine AOps.lk (LOp.asg (a := .v _) rfl) rfl rfl ?_
  refine AOps.nil ?_
  refine andThen_normal ?_
  refine AWP.seq ?_
  refine AWP.seq ?_
  refine AWP.region ?_
  refine AOps.lk (LOp.mv (a := .v _) rfl) rfl rfl ?_
  refine AOps.lk (LOp.bytesS Tryz.underlying9 Tryz.underlying179 Tryz.underlying5 rfl hl) rfl rfl ?_
  refine AOps.lk (LOp.lenT rfl Tryz.underlying179 rfl) rfl rfl ?_
  refine AOps.lk (LOp.mv (a := .v _) rfl) rfl rfl ?_
  refine AOps.nil ?_
  refine andThen_normal ?_
  refine AWP.block ?_
  refine AWP.loopC (fun n s => ∃ k : Nat, n = (tx.data.toList.length - k) ∧ s = ⟨frameL [(0, .v (.string tx)), (6, .tree 1 (tx.data.toList.map byA)), (7, .v (.int .i64 ((tx.data.toList.length : Nat) : Int))), (8, .v (.int .i64 ((k : Nat) : Int)))], heapL [], 0⟩ ∧ (k ≤ tx.data.toList.length ∧ ∀ j, j < k → prnP tx j = true)) (n := (tx.data.toList.length - 0)) (s1 := ⟨frameL [(0, .v (.string tx)), (6, .tree 1 (tx.data.toList.map byA)), (7, .v (.int .i64 ((tx.data.toList.length : Nat) : Int))), (8, .v (.int .i64 ((0 : Nat) : Int)))], heapL [], 0⟩) (Canon.of (.cons rfl rfl (.cons rfl rfl (.cons rfl rfl (.cons rfl rfl .nil)))) .nil) ⟨0, rfl, rfl, ⟨Nat.zero_le _, fun j h => absurd h (Nat.not_lt_zero j)⟩⟩ ?_
  rintro n s ⟨k, rfl, rfl, hinv⟩
  obtain ⟨hk, hj⟩ := hinv
  refine AWP.seq ?_
  refine AWP.region ?_
  refine AOps.lk (LOp.plain rfl (fun _ _ => nofun) (fun _ => rfl)) rfl rfl ?_
  refine AOps.nil ?_
  refine andThen_normal ?_
  refine AWP.seq ?_
  refine AWP.cond rfl (fun hc9 => ?_) (fun hc9 => ?_)
  · skip
    have hlt : k < tx.data.toList.length := Int.ofNat_lt.1 (of_decide_eq_true hc9)
    refine AWP.skip ?_
    refine andThen_normal ?_
    refine AWP.seq ?_
    refine AWP.block ?_
    refine AWP.seq ?_
    refine AWP.region ?_
    refine AOps.lk (LOp.indexBy Tryz.underlying179 sz5 rfl rfl hlt) rfl rfl ?_
    refine AOps.lk (LOp.loadT1 row5 rfl rfl) rfl rfl ?_
    refine AOps.lk (LOp.asg (a := .v _) rfl) rfl rfl ?_
    refine AOps.nil ?_
    refine andThen_normal ?_
    refine AWP.seq ?_
    refine AWP.region ?_
    refine AOps.lk (LOp.mv (a := .v _) rfl) rfl rfl ?_
    refine AOps.lk (LOp.plain rfl (fun _ _ => nofun) (fun _ => rfl)) rfl rfl ?_
    refine AOps.lk (LOp.mv (a := .v _) rfl) rfl rfl ?_
    refine AOps.splitB 14 rfl (fun hg14 => ?_) (fun hg14 => ?_)
    · skip
      refine AOps.sk rfl rfl ?_
      refine AOps.sk rfl rfl ?_
      refine AOps.lk (LOp.pkT (a := .v _) rfl (by first | rfl | assumption) rfl) rfl rfl ?_
      refine AOps.nil ?_
      refine andThen_normal ?_
      refine AWP.condT rfl ?_
      refine AWP.seq ?_
      refine AWP.region ?_
      refine AOps.lk (LOp.asg (a := .v _) rfl) rfl rfl ?_
      refine AOps.nil ?_
      refine andThen_normal ?_
      refine AWP.ret (inBlk_ret (andThen_ret (andThen_ret (inBlk_ret (andThen_ret (?_))))))
      refine ⟨.inr rfl, Outs.val Tryz.results71 rfl rfl ?_⟩
      (refine vb_eq ?_; unfold prB; rw [← hsz, allN_hit hlt (by simp only [prnP]; simp_all)]; rfl)
    · skip
      refine AOps.lk (LOp.mv (a := .v _) rfl) rfl rfl ?_
      refine AOps.lk (LOp.plain rfl (fun _ _ => nofun) (fun _ => rfl)) rfl rfl ?_
      refine AOps.lk (LOp.pickB rfl rfl rfl) rfl rfl ?_
      refine AOps.nil ?_
      refine andThen_normal ?_
      refine AWP.cond rfl (fun hc17 => ?_) (fun hc17 => ?_)
      · skip
        refine AWP.seq ?_
        refine AWP.region ?_
        refine AOps.lk (LOp.asg (a := .v _) rfl) rfl rfl ?_
        refine AOps.nil ?_
        refine andThen_normal ?_
        refine AWP.ret (inBlk_ret (andThen_ret (andThen_ret (inBlk_ret (andThen_ret (?_))))))
        refine ⟨.inr rfl, Outs.val Tryz.results71 rfl rfl ?_⟩
        (refine vb_eq ?_; unfold prB; rw [← hsz, allN_hit hlt (by simp only [prnP]; simp_all)]; rfl)
      · skip
        refine AWP.skip ?_
        refine inBlk_normal ?_
        refine andThen_normal ?_
        refine AWP.region ?_
        refine AOps.lk (LOp.addI rfl rfl (by omega) (by omega)) rfl rfl ?_
        refine AOps.lk (LOp.mv (a := .v _) rfl) rfl rfl ?_
        refine AOps.nil ?_
        refine andThen_normal ?_
        refine ⟨(tx.data.toList.length - (k + 1)), ⟨frameL [(0, .v (.string tx)), (6, .tree 1 (tx.data.toList.map byA)), (7, .v (.int .i64 ((tx.data.toList.length : Nat) : Int))), (8, .v (.int .i64 (((k + 1) : Nat) : Int)))], heapL [], 0⟩, by omega, (Canon.of (.cons rfl rfl (.cons rfl rfl (.cons rfl rfl (.cons rfl rfl .nil)))) .nil), k + 1, rfl, rfl, ?_⟩
        refine ⟨by omega, fun j h => ?_⟩
        rcases Nat.lt_succ_iff_lt_or_eq.1 h with h | rfl
        · exact hj j h
        · simp only [prnP]; simp_all
  · skip
    have hge : ¬ k < tx.data.toList.length := fun h => of_decide_eq_false hc9 (Int.ofNat_lt.2 h)
    refine AWP.exit (andThen_exit (andThen_exit (inBlk_exit ?_)))
    refine andThen_normal ?_
    refine AWP.seq ?_
    refine AWP.region ?_
    refine AOps.lk (LOp.mv (a := .v _) rfl) rfl rfl ?_
    refine AOps.lk (LOp.lenStr rfl Tryz.underlying9 rfl) rfl rfl ?_
    refine AOps.lk (LOp.plain rfl (fun _ _ => nofun) (fun _ => rfl)) rfl rfl ?_
    refine AOps.lk (LOp.asg (a := .v _) rfl) rfl rfl ?_
    refine AOps.nil ?_
    refine andThen_normal ?_
    refine AWP.ret (?_)
    refine ⟨.inr rfl, Outs.val Tryz.results71 rfl rfl ?_⟩
    (refine vb_eq ?_; unfold prB; rw [← hsz, allN_end hk hge hj, hsz]; simp; done)

set_option maxRecDepth 100000 in
set_option maxHeartbeats 4000000 in
theorem us_p (v q : Int) (c : PCl) (l : List PVar) (hn : c.nn.length ≤ 1000) (hl : l.length ≤ 1000) : PCall Tryz.prog 66 [.v (.int .i64 v), .v (.int .i64 q), .tp [.v (.int .i64 ((l.length : Nat) : Int))] 0, .tp [vsA l] 0, .tp (clA c) 0] (.v (.bool (usB v q c.nn l))) := by
  refine PCall.of_body Tryz.func66 rfl Tryz.ntmps66 (Nat.le_of_ble_eq_true rfl) ?_
  refine AWP.seq ?_
  refine AWP.region ?_
  refine AOps.lk (LOp.asg (a := .v _) rfl) rfl rfl ?_
  refine AOps.nil ?_
  refine andThen_normal ?_
  refine AWP.seq ?_
  refine AWP.region ?_
  refine AOps.lk (LOp.mv (a := .v _) rfl) rfl rfl ?_
  refine AOps.lk (LOp.plain rfl (fun _ _ => nofun) (fun _ => rfl)) rfl rfl ?_
  refine AOps.lk (LOp.mv (a := .v _) rfl) rfl rfl ?_
  refine AOps.splitB 10 rfl (fun hg10 => ?_) (fun hg10 => ?_)
  · skip
    refine AOps.lk (LOp.mv (a := .v _) rfl) rfl rfl ?_
    refine AOps.lk (LOp.loadT1 row3 rfl rfl) rfl rfl ?_
    refine AOps.lk (LOp.plain rfl (fun _ _ => nofun) (fun _ => rfl)) rfl rfl ?_
    refine AOps.lk (LOp.pickB rfl rfl rfl) rfl rfl ?_
    refine AOps.lk (LOp.mv (a := .v _) rfl) rfl rfl ?_
    refine AOps.splitB 15 rfl (fun hg15 => ?_) (fun hg15 => ?_)
    · skip
      have h0 : 0 ≤ v := by simpa using hg10
      have h1 : v < l.length := by simpa using hg15
      obtain ⟨j, hj⟩ := Int.eq_ofNat_of_zero_le h0
      have hjl : j < l.length := by omega
      have ev : l.getD v.toNat default = l[j] := by rw [hj]; simp [List.getD, hjl]
      refine AOps.lk (LOp.loadT1 row22 rfl rfl) rfl rfl ?_
      refine AOps.lk (LOp.mv (a := .v _) rfl) rfl rfl ?_
      refine AOps.lk (LOp.indexI Tryz.underlying22 sz44 rfl rfl hj hjl) rfl rfl ?_
      refine AOps.lk (LOp.fieldAddrT fi44_0 rfl rfl) rfl rfl ?_
      refine AOps.lk (LOp.loadT1 row3 rfl rfl) rfl rfl ?_
      refine AOps.lk (LOp.mv (a := .v _) rfl) rfl rfl ?_
      refine AOps.lk (LOp.plain rfl (fun _ _ => nofun) (fun _ => rfl)) rfl rfl ?_
      refine AOps.lk (LOp.pickB rfl rfl rfl) rfl rfl ?_
      refine AOps.lk (LOp.mv (a := .v _) rfl) rfl rfl ?_
      refine AOps.splitB 24 rfl (fun hg24 => ?_) (fun hg24 => ?_)
      · skip
        refine AOps.lk (LOp.fieldAddrT fi35_1 rfl rfl) rfl rfl ?_
        refine AOps.lk (LOp.loadT1 row29 rfl rfl) rfl rfl ?_
        refine AOps.lk (LOp.mv (a := .v _) rfl) rfl rfl ?_
        refine AOps.lk (LOp.call bod67 rfl (con_p c.nn v hn)) rfl rfl ?_
        refine AOps.lk (LOp.pickB rfl rfl rfl) rfl rfl ?_
        refine AOps.lk (LOp.asg (a := .v _) rfl) rfl rfl ?_
        refine AOps.nil ?_
        refine andThen_normal ?_
        refine AWP.ret (?_)
        refine ⟨.inr rfl, Outs.val Tryz.results66 rfl rfl ?_⟩
        refine vb_eq ?_; first | (simp only [usB, ev]; simp_all; done) | (simp only [usB]; simp_all; done) | (simp only [usB]; simp_all; intros; omega)
      · skip
        refine AOps.sk rfl rfl ?_
        refine AOps.sk rfl rfl ?_
        refine AOps.sk rfl rfl ?_
        refine AOps.sk rfl rfl ?_
        refine AOps.lk (LOp.pkF (a := .v _) rfl (by first | rfl | assumption) rfl) rfl rfl ?_
        refine AOps.lk (LOp.asg (a := .v _) rfl) rfl rfl ?_
        refine AOps.nil ?_
        refine andThen_normal ?_
        refine AWP.ret (?_)
        refine ⟨.inr rfl, Outs.val Tryz.results66 rfl rfl ?_⟩
        refine vb_eq ?_; first | (simp only [usB, ev]; simp_all; done) | (simp only [usB]; simp_all; done) | (simp only [usB]; simp_all; intros; omega)
    · skip
      refine AOps.sk rfl rfl ?_
      refine AOps.sk rfl rfl ?_
      refine AOps.sk rfl rfl ?_
      refine AOps.sk rfl rfl ?_
      refine AOps.sk rfl rfl ?_
      refine AOps.sk rfl rfl ?_
      refine AOps.sk rfl rfl ?_
      refine AOps.lk (LOp.pkF (a := .v _) rfl (by first | rfl | assumption) rfl) rfl rfl ?_
      refine AOps.lk (LOp.mv (a := .v _) rfl) rfl rfl ?_
      refine AOps.sk rfl rfl ?_
      refine AOps.sk rfl rfl ?_
      refine AOps.sk rfl rfl ?_
      refine AOps.sk rfl rfl ?_
      refine AOps.lk (LOp.pkF (a := .v _) rfl (by first | rfl | assumption) rfl) rfl rfl ?_
      refine AOps.lk (LOp.asg (a := .v _) rfl) rfl rfl ?_
      refine AOps.nil ?_
      refine andThen_normal ?_
      refine AWP.ret (?_)
      refine ⟨.inr rfl, Outs.val Tryz.results66 rfl rfl ?_⟩
      refine vb_eq ?_; first | (simp only [usB, ev]; simp_all; done) | (simp only [usB]; simp_all; done) | (simp only [usB]; simp_all; intros; omega)
  · skip
    refine AOps.sk rfl rfl ?_
    refine AOps.sk rfl rfl ?_
    refine AOps.sk rfl rfl ?_
    refine AOps.lk (LOp.pkF (a := .v _) rfl (by first | rfl | assumption) rfl) rfl rfl ?_
    refine AOps.lk (LOp.mv (a := .v _) rfl) rfl rfl ?_
    refine AOps.sk rfl rfl ?_
    refine AOps.sk rfl rfl ?_
    refine AOps.sk rfl rfl ?_
    refine AOps.sk rfl rfl ?_
    refine AOps.sk rfl rfl ?_
    refine AOps.sk rfl rfl ?_
    refine AOps.sk rfl rfl ?_
    refine AOps.lk (LOp.pkF (a := .v _) rfl (by first | rfl | assumption) rfl) rfl rfl ?_
    refine AOps.lk (LOp.mv (a := .v _) rfl) rfl rfl ?_
    refine AOps.sk rfl rfl ?_
    refine AOps.sk rfl rfl ?_
    refine AOps.sk rfl rfl ?_
    refine AOps.sk rfl rfl ?_
    refine AOps.lk (LOp.pkF (a := .v _) rfl (by first | rfl | assumption) rfl) rfl rfl ?_
    refine AOps.lk (LOp.asg (a := .v _) rfl) rfl rfl ?_
    refine AOps.nil ?_
    refine andThen_normal ?_
    refine AWP.ret (?_)
    refine ⟨.inr rfl, Outs.val Tryz.results66 rfl rfl ?_⟩
    refine vb_eq ?_; first | (simp only [usB, ev]; simp_all; done) | (simp only [usB]; simp_all; done) | (simp only [usB]; simp_all; intros; omega)
end Go.Proofs.YtgknefkobpnjaaaGreatDoor
