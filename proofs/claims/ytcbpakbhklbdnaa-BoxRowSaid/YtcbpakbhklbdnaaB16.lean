/- The plain laws of boxes and rows, with no program in sight. -/
import Derived.Test.YtcbpakbhklbdnaaB14
namespace Go.Proofs.Ytcbpakbhklbdnaa
set_option linter.unusedVariables false

theorem sle_refl (a : ByteArray) : sle a a = true := by rw [sle_iff, slt_irrefl]; rfl
theorem sle_trans {a b c : ByteArray} (h1 : sle a b = true) (h2 : sle b c = true) : sle a c = true := by
  rw [sle_iff] at *
  simp only [Bool.not_eq_true'] at *
  cases h : slt c a
  · rfl
  · rcases slt_tri b c with e | e | e
    · rw [slt_trans e h] at h1; cases h1
    · subst e; rw [h] at h1; cases h1
    · rw [e] at h2; cases h2
theorem sle_total (a b : ByteArray) : sle a b = true ∨ sle b a = true := by
  rw [sle_iff, sle_iff]
  cases h : slt b a
  · exact .inl rfl
  · exact .inr (by rw [slt_asymm h]; rfl)
theorem sle_anti {a b : ByteArray} (h1 : sle a b = true) (h2 : sle b a = true) : a = b := by
  rw [sle_iff] at *
  rcases slt_tri a b with e | e | e
  · rw [e] at h2; cases h2
  · exact e
  · rw [e] at h1; cases h1
theorem minS_eq (a b : ByteArray) : Lib.minS a b = if slt b a then b else a := by
  unfold Lib.minS
  rcases slt_tri a b with h | h | h
  · have h' := h
    rw [slt_eq, decide_eq_true_eq] at h'
    rw [if_pos (.inl h'), slt_asymm h]; rfl
  · subst h
    rw [if_pos (.inr rfl), slt_irrefl]; rfl
  · have h1 := slt_asymm h
    rw [slt_eq, decide_eq_false_iff_not] at h1
    rw [if_neg, h]
    · rfl
    · rintro (e | e)
      · exact h1 e
      · have : a = b := ByteArray.ext (Array.toList_inj.1 e)
        subst this
        rw [slt_irrefl] at h; cases h
theorem maxS_eq (a b : ByteArray) : Lib.maxS a b = if slt a b then b else a := by
  unfold Lib.maxS
  rw [slt_eq]
  by_cases h : a.data.toList < b.data.toList
  · rw [if_pos h, decide_eq_true h]; rfl
  · rw [if_neg h, decide_eq_false h]; rfl
theorem sle_minS {x a b : ByteArray} : sle x (Lib.minS a b) = (sle x a && sle x b) := by
  rw [minS_eq]
  cases h : slt b a
  · have h' : sle a b = true := by rw [sle_iff, h]; rfl
    simp only [Bool.false_eq_true, if_false]
    cases h1 : sle x a
    · rfl
    · rw [sle_trans h1 h']; rfl
  · have h' : sle b a = true := by rw [sle_iff, slt_asymm h]; rfl
    simp only [if_true]
    cases h1 : sle x b
    · simp
    · rw [sle_trans h1 h']; rfl
theorem maxS_sle {x a b : ByteArray} : sle (Lib.maxS a b) x = (sle a x && sle b x) := by
  rw [maxS_eq]
  cases h : slt a b
  · have h' : sle b a = true := by rw [sle_iff, h]; rfl
    simp only [Bool.false_eq_true, if_false]
    cases h1 : sle a x
    · rfl
    · rw [sle_trans h' h1]; rfl
  · have h' : sle a b = true := by rw [sle_iff, slt_asymm h]; rfl
    simp only [if_true]
    cases h1 : sle b x
    · simp
    · rw [sle_trans h' h1]; rfl
theorem minS_sle_l {x a b : ByteArray} (h : sle a x = true) : sle (Lib.minS a b) x = true := by
  refine sle_trans ?_ h
  have := sle_refl (Lib.minS a b)
  rw [sle_minS, Bool.and_eq_true] at this
  exact this.1
theorem minS_sle_r {x a b : ByteArray} (h : sle b x = true) : sle (Lib.minS a b) x = true := by
  refine sle_trans ?_ h
  have := sle_refl (Lib.minS a b)
  rw [sle_minS, Bool.and_eq_true] at this
  exact this.2
theorem sle_maxS_l {x a b : ByteArray} (h : sle x a = true) : sle x (Lib.maxS a b) = true := by
  refine sle_trans h ?_
  have := sle_refl (Lib.maxS a b)
  rw [maxS_sle, Bool.and_eq_true] at this
  exact this.1
theorem sle_maxS_r {x a b : ByteArray} (h : sle x b = true) : sle x (Lib.maxS a b) = true := by
  refine sle_trans h ?_
  have := sle_refl (Lib.maxS a b)
  rw [maxS_sle, Bool.and_eq_true] at this
  exact this.2

theorem allZip_iff {α β : Type} {f : α → β → Bool} {l : List α} {m : List β} : allZip f l m = true ↔ ∀ k (h : k < l.length) (h' : k < m.length), f l[k] m[k] = true := by
  unfold allZip
  rw [List.all_eq_true]
  constructor
  · intro h k h1 h2
    exact h (l[k], m[k]) (by
      have hz : k < (l.zip m).length := by simp; omega
      have := List.getElem_mem hz
      simpa using this)
  · intro h p hp
    obtain ⟨k, hk, rfl⟩ := List.getElem_of_mem hp
    have hk' : k < l.length ∧ k < m.length := by simp at hk; omega
    simpa using h k hk'.1 hk'.2

theorem rightB_len {ss : List PSide} (h : rightB ss = true) : ss.length ≤ 10 := by
  unfold rightB at h
  rw [Bool.and_eq_true, decide_eq_true_eq] at h
  exact h.2
theorem rightB_at {ss : List PSide} (h : rightB ss = true) {s : PSide} (hs : s ∈ ss) : sideRight s = true := by
  unfold rightB at h
  rw [Bool.and_eq_true, List.all_eq_true] at h
  exact h.1 s hs
theorem validR_len {vs : List PVal} (h : validR vs = true) : vs.length ≤ 12 := by
  unfold validR at h
  rw [Bool.and_eq_true, decide_eq_true_eq] at h
  exact h.2
theorem validR_at {vs : List PVal} (h : validR vs = true) {v : PVal} (hv : v ∈ vs) : validB v = true := by
  unfold validR at h
  rw [Bool.and_eq_true, List.all_eq_true] at h
  exact h.1 v hv
theorem validB_kind {v : PVal} (h : validB v = true) : v.kind = 0 ∨ v.kind = 1 ∨ v.kind = 2 := by
  unfold validB at h
  split at h
  · exact .inl ‹_›
  · split at h
    · exact .inr (.inl ‹_›)
    · split at h
      · exact .inr (.inr ‹_›)
      · cases h
theorem toList_empty {b : ByteArray} (h : b.toList.isEmpty = true) : b = ⟨#[]⟩ := by
  have h1 : b.toList = [] := List.isEmpty_iff.1 h
  rw [ByteArray.toList_eq] at h1
  exact ByteArray.ext (Array.toList_inj.1 h1)

-- meeting
theorem sideMeet_comm (s t : PSide) : sideMeet s t = sideMeet t s := by
  unfold sideMeet
  rw [sle_minS, sle_minS, maxS_sle, maxS_sle, maxS_sle, maxS_sle, Int.max_comm, Int.min_comm, Bool.and_comm s.null, Bool.and_comm s.other]
  cases sle s.frm s.to <;> cases sle s.frm t.to <;> cases sle t.frm s.to <;> cases sle t.frm t.to <;> rfl
theorem meetB_comm (t t2 : Int) (ss ts : List PSide) : meetB t ss t2 ts = meetB t2 ts t ss := by
  rw [Bool.eq_iff_iff]
  unfold meetB
  simp only [Bool.and_eq_true, beq_iff_eq, Bool.not_eq_true', beq_eq_false_iff_ne]
  have hp : pairs sideMeet ss ts = true ↔ pairs sideMeet ts ss = true := by
    rw [pairs_eq, pairs_eq, allZip_iff, allZip_iff]
    constructor
    · intro h k h1 h2; rw [sideMeet_comm]; exact h k h2 h1
    · intro h k h1 h2; rw [sideMeet_comm]; exact h k h2 h1
  rw [hp]
  constructor
  · rintro ⟨⟨⟨a, b⟩, c⟩, d⟩; exact ⟨⟨⟨a.symm, b.symm⟩, fun h => c (by omega)⟩, d⟩
  · rintro ⟨⟨⟨a, b⟩, c⟩, d⟩; exact ⟨⟨⟨a.symm, b.symm⟩, fun h => c (by omega)⟩, d⟩

theorem containsB_iff {ss : List PSide} {vs : List PVal} : containsB ss vs = true ↔ ss.length ≠ 0 ∧ ss.length = vs.length ∧ ∀ k (h : k < ss.length) (h' : k < vs.length), sideIn ss[k] vs[k] = true := by
  have : containsB ss vs = (!(ss.length == 0) && ss.length == vs.length && allZip sideIn ss vs) := rfl
  rw [this, Bool.and_eq_true, Bool.and_eq_true, allZip_iff]
  simp only [Bool.not_eq_true', beq_eq_false_iff_ne, beq_iff_eq, and_assoc]

/-- A value of the right type in two sides: they meet. -/
theorem sideMeet_of_in {s t : PSide} {v : PVal} (hs : sideRight s = true) (ht : sideRight t = true) (hv : validB v = true) (h1 : sideTyped s v = true) (h2 : sideTyped t v = true) (i1 : sideIn s v = true) (i2 : sideIn t v = true) : sideMeet s t = true := by
  unfold sideIn at i1 i2
  unfold sideMeet
  rcases validB_kind hv with hk | hk | hk
  · rw [if_pos hk] at i1 i2
    rw [i1, i2]; rfl
  · rw [if_neg (by omega), if_pos hk] at i1 i2
    unfold sideTyped at h1 h2
    simp only [hk, beq_self_eq_true, Bool.true_and, show ((1 : Int) == 2) = false from rfl, Bool.false_and, Bool.or_false, Bool.not_eq_true', Bool.or_eq_false_iff, Bool.not_eq_false'] at h1 h2
    simp only [Bool.and_eq_true, decide_eq_true_eq] at i1 i2
    rw [toList_empty h1.1, toList_empty h1.2, toList_empty h2.1, toList_empty h2.2, i1.1.1, i2.1.1, maxS_sle, sle_minS, sle_refl]
    have : max s.low t.low ≤ min s.high t.high := by omega
    simp [this]
  · rw [if_neg (by omega), if_neg (by omega)] at i1 i2
    unfold sideTyped at h1 h2
    simp only [hk, beq_self_eq_true, Bool.true_and, show ((2 : Int) == 1) = false from rfl, Bool.false_and, Bool.false_or, Bool.not_eq_true', Bool.or_eq_false_iff, Bool.not_eq_false', beq_iff_eq] at h1 h2
    simp only [Bool.and_eq_true] at i1 i2
    have a : sle (Lib.maxS s.frm t.frm) (Lib.minS s.to t.to) = true := by
      rw [maxS_sle, sle_minS, sle_minS, sle_trans i1.1.2 i1.2, sle_trans i1.1.2 i2.2, sle_trans i2.1.2 i1.2, sle_trans i2.1.2 i2.2]; rfl
    rw [a, i1.1.1, i2.1.1, h1.1, h1.2, h2.1, h2.2]
    simp
theorem common_meet {t : Int} {ss ts : List PSide} {vs : List PVal} (hs : rightB ss = true) (ht : rightB ts = true) (hv : validR vs = true) (h1 : typedB ss vs = true) (h2 : typedB ts vs = true) (c1 : containsB ss vs = true) (c2 : containsB ts vs = true) : meetB t ss t ts = true := by
  rw [containsB_iff] at c1 c2
  obtain ⟨n1, l1, a1⟩ := c1
  obtain ⟨n2, l2, a2⟩ := c2
  unfold typedB at h1 h2
  rw [Bool.and_eq_true, allZip_iff] at h1 h2
  unfold meetB
  rw [pairs_eq]
  have : allZip sideMeet ss ts = true := allZip_iff.2 fun k h h' => by
    have hk : k < vs.length := by omega
    exact sideMeet_of_in (rightB_at hs (List.getElem_mem h)) (rightB_at ht (List.getElem_mem h')) (validR_at hv (List.getElem_mem hk)) (h1.2 k h hk) (h2.2 k h' hk) (a1 k h hk) (a2 k h' hk)
  rw [this]
  have e : ss.length = ts.length := by omega
  simp [e]
  intro h0; subst h0; simp at n2

-- sameness
theorem sideEq_refl (s : PSide) : sideEq s s = true := by simp [sideEq]
theorem sameB_refl (t : Int) (ss : List PSide) : sameB t ss t ss = true := by
  unfold sameB
  have : allZip sideEq ss ss = true := allZip_iff.2 fun k h h' => sideEq_refl _
  rw [this]; simp

-- hulls
theorem sideHull_eq {s t : PSide} (hs : sideRight s = true) (ht : sideRight t = true) : sideHull s t = rsideHull s t := by
  have hz : ∀ x : PSide, sideRight x = true → x.other = false → x = ⟨true, false, 0, 0, ⟨#[]⟩, ⟨#[]⟩⟩ := by
    intro x hx ho
    unfold sideRight at hx
    simp only [Bool.and_eq_true, ho, Bool.or_false, Bool.false_or] at hx
    obtain ⟨⟨⟨⟨a, b⟩, c⟩, d⟩, e⟩ := hx
    unfold sideZero at e
    simp only [Bool.and_eq_true, beq_iff_eq] at e
    obtain ⟨⟨⟨⟨⟨e1, e2⟩, e3⟩, e4⟩, e5⟩, e6⟩ := e
    have f1 := toList_empty (b := x.frm) (by rw [e5]; rfl)
    have f2 := toList_empty (b := x.to) (by rw [e6]; rfl)
    cases x
    simp only at *
    subst a ho e3 e4 f1 f2
    rfl
  unfold sideHull rsideHull
  cases ho : t.other
  · simp only [if_true, Bool.and_false, Bool.false_eq_true, if_false, Bool.or_false]
    cases hp : s.other
    · have := hz s hs hp
      have h2 := hz t ht ho
      subst this h2
      rfl
    · simp only [if_true]
  · cases hp : s.other
    · simp
    · simp
theorem hull_list_eq {ss ts : List PSide} (hs : rightB ss = true) (ht : rightB ts = true) (hl : ss.length = ts.length) : (List.range ss.length).map (hullAt ss ts ts.length) = List.zipWith rsideHull ss ts := by
  apply List.ext_getElem
  · simp [hl]
  · intro k h1 h2
    have hk : k < ss.length := by simpa using h1
    have hk' : k < ts.length := by omega
    simp only [List.getElem_map, List.getElem_range, List.getElem_zipWith, hullAt, hk', if_true, List.getD_eq_getElem?_getD, List.getElem?_eq_getElem hk, List.getElem?_eq_getElem hk', Option.getD_some]
    exact sideHull_eq (rightB_at hs (List.getElem_mem hk)) (rightB_at ht (List.getElem_mem hk'))
theorem hull_list_nil {ss : List PSide} : (List.range ss.length).map (hullAt ss [] 0) = ss := by
  apply List.ext_getElem
  · simp
  · intro k h1 h2
    simp only [List.getElem_map, List.getElem_range, hullAt, Nat.not_lt_zero, if_false, List.getD_eq_getElem?_getD, List.getElem?_eq_getElem h2, Option.getD_some]
theorem zipWith_wf {ss ts : List PSide} (hs : ∀ s ∈ ss, s.Wf) (ht : ∀ s ∈ ts, s.Wf) : ∀ s ∈ List.zipWith rsideHull ss ts, s.Wf := by
  intro s h
  obtain ⟨k, hk, rfl⟩ := List.getElem_of_mem h
  rw [List.getElem_zipWith]
  exact rsideHull_wf (hs _ (List.getElem_mem _)) (ht _ (List.getElem_mem _))
theorem in_hull_l {s t : PSide} {v : PVal} (h : sideIn s v = true) : sideIn (rsideHull s t) v = true := by
  unfold sideIn at *
  unfold rsideHull
  split at h
  · rw [if_pos ‹_›, apply_ite PSide.null]
    simp only [h, Bool.true_or]
    split
    · rfl
    · split <;> rfl
  · rw [if_neg ‹_›]
    split at h
    · rw [if_pos ‹_›]
      simp only [Bool.and_eq_true, decide_eq_true_eq] at h
      rw [h.1.1]
      cases ho : t.other
      · simp only [Bool.and_false, Bool.false_eq_true, if_false, if_true, Bool.or_false, Bool.true_and, Bool.and_eq_true, decide_eq_true_eq]
        exact ⟨h.1.2, h.2⟩
      · simp only [Bool.and_true, if_true, Bool.or_true, Bool.true_and, Bool.and_eq_true, decide_eq_true_eq]
        omega
    · rw [if_neg ‹_›]
      simp only [Bool.and_eq_true] at h
      rw [h.1.1]
      cases ho : t.other
      · simp only [Bool.and_false, Bool.false_eq_true, if_false, if_true, Bool.or_false, Bool.true_and, Bool.and_eq_true]
        exact ⟨h.1.2, h.2⟩
      · simp only [Bool.and_true, if_true, Bool.or_true, Bool.true_and, Bool.and_eq_true]
        exact ⟨minS_sle_l h.1.2, sle_maxS_l h.2⟩
theorem in_hull_r {s t : PSide} {v : PVal} (h : sideIn t v = true) : sideIn (rsideHull s t) v = true := by
  unfold sideIn at *
  unfold rsideHull
  split at h
  · rw [if_pos ‹_›, apply_ite PSide.null]
    simp only [h, Bool.or_true]
    split
    · rfl
    · split <;> rfl
  · rw [if_neg ‹_›]
    split at h
    · rw [if_pos ‹_›]
      simp only [Bool.and_eq_true, decide_eq_true_eq] at h
      rw [h.1.1]
      cases ho : s.other
      · simp only [Bool.and_true, Bool.false_eq_true, if_false, Bool.or_true, Bool.true_and, Bool.and_eq_true, decide_eq_true_eq]
        exact ⟨h.1.2, h.2⟩
      · simp only [Bool.and_true, if_true, Bool.or_true, Bool.true_and, Bool.and_eq_true, decide_eq_true_eq]
        omega
    · rw [if_neg ‹_›]
      simp only [Bool.and_eq_true] at h
      rw [h.1.1]
      cases ho : s.other
      · simp only [Bool.and_true, Bool.false_eq_true, if_false, Bool.or_true, Bool.true_and, Bool.and_eq_true]
        exact ⟨h.1.2, h.2⟩
      · simp only [Bool.and_true, if_true, Bool.or_true, Bool.true_and, Bool.and_eq_true]
        exact ⟨minS_sle_r h.1.2, sle_maxS_r h.2⟩
theorem contains_hull {ss ts : List PSide} {vs : List PVal} (hl : ss.length = ts.length) (h : containsB ss vs = true ∨ containsB ts vs = true) : containsB (List.zipWith rsideHull ss ts) vs = true := by
  rw [containsB_iff]
  rcases h with h | h
  · obtain ⟨n, l, a⟩ := containsB_iff.1 h
    refine ⟨by rw [List.length_zipWith]; omega, by rw [List.length_zipWith]; omega, fun k h1 h2 => ?_⟩
    have hk : k < ss.length ∧ k < ts.length := by simp at h1; omega
    rw [List.getElem_zipWith]
    exact in_hull_l (a k hk.1 h2)
  · obtain ⟨n, l, a⟩ := containsB_iff.1 h
    refine ⟨by rw [List.length_zipWith]; omega, by rw [List.length_zipWith]; omega, fun k h1 h2 => ?_⟩
    have hk : k < ss.length ∧ k < ts.length := by simp at h1; omega
    rw [List.getElem_zipWith]
    exact in_hull_r (a k hk.2 h2)
theorem containsB_nil (vs : List PVal) : containsB [] vs = false := rfl

-- rows
theorem in_rowSide (v : PVal) : sideIn (rowSide v) v = true := by
  unfold sideIn rowSide
  split
  · rfl
  · split
    · simp
    · simp [sle_refl]
theorem contains_row {vs : List PVal} (h : vs.length ≠ 0) : containsB (vs.map rowSide) vs = true := by
  rw [containsB_iff]
  refine ⟨by simpa using h, by simp, fun k h1 h2 => ?_⟩
  rw [List.getElem_map]
  exact in_rowSide _
theorem row_wf {vs : List PVal} (h : ∀ v ∈ vs, v.Wf) : ∀ s ∈ vs.map rowSide, s.Wf := by
  intro s hs
  obtain ⟨v, hv, rfl⟩ := List.mem_map.1 hs
  exact rowSide_wf (h v hv)
theorem fits_of_in {u v : PVal} (hu : validB u = true) (hv : validB v = true) (h : sideIn (rowSide u) v = true) : valFits u v = true := by
  unfold valFits
  cases hk : (u.kind == v.kind)
  · rfl
  · have hk' : u.kind = v.kind := eq_of_beq hk
    have : valEq u v = true := by
      unfold valEq
      rw [hk]
      unfold sideIn rowSide at h
      unfold validB at hu hv
      rw [← hk'] at hv
      rw [← hk'] at h
      by_cases k0 : u.kind = 0
      · rw [if_pos k0, Bool.and_eq_true, beq_iff_eq] at hu hv
        rw [hu.1, hv.1, toList_empty hu.2, toList_empty hv.2]
        simp
      · rw [if_neg k0] at hu hv h
        by_cases k1 : u.kind = 1
        · rw [if_pos k1] at hu hv h
          rw [if_neg k0, if_pos k1] at h
          simp only [Bool.true_and, Bool.and_eq_true, decide_eq_true_eq] at h
          rw [toList_empty hu, toList_empty hv]
          have : u.int = v.int := by omega
          simp [this]
        · rw [if_neg k1] at hu hv h
          rw [if_neg k0, if_neg k1] at h
          by_cases k2 : u.kind = 2
          · rw [if_pos k2, Bool.and_eq_true, Bool.and_eq_true, beq_iff_eq] at hu hv
            simp only [Bool.true_and, Bool.and_eq_true] at h
            rw [hu.1.1, hv.1.1, sle_anti h.1 h.2]
            simp
          · rw [if_neg k2] at hu; cases hu
    rw [this]; rfl
theorem fits_row {vs us : List PVal} (hv : validR vs = true) (hu : validR us = true) (h : containsB (vs.map rowSide) us = true) : vs.length = us.length ∧ allZip valFits vs us = true := by
  obtain ⟨n, l, a⟩ := containsB_iff.1 h
  simp only [List.length_map] at n l
  refine ⟨l, allZip_iff.2 fun k h1 h2 => ?_⟩
  have := a k (by simpa using h1) h2
  rw [List.getElem_map] at this
  exact fits_of_in (validR_at hv (List.getElem_mem h1)) (validR_at hu (List.getElem_mem h2)) this
end Go.Proofs.Ytcbpakbhklbdnaa
