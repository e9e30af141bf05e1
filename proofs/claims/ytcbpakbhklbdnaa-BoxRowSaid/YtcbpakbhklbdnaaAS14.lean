/- append to a slice that is nil so far; slices handed over for good; several results. -/
import Derived.Test.YtcbpakbhklbdnaaAS13
namespace Go.Proofs.Ytcbpakbhklbdnaa
set_option linter.unusedVariables false
open Go.RowKit

section
variable {P : Program} {τ : Nat → AV} {η : Heap} {d : Option Tmp} {ty : TypeId} {pos : String} {af : Array Edge} {g : Option (Nat × Bool)}

theorem VR.slnil_inv {C : Ctx} {id ver len : Nat} {b : Blk} {x : Value} (h : VR C (.sl id ver 0 len) x) (hb : C.η id = some b) (hv : b.ver = ver) (hn : b.nilp = true) : x = .slice none 0 0 ∧ len = 0 := by
  cases h with
  | imm h => cases h
  | sl hb' _ hn' => rw [hb] at hb'; cases hb'; rw [hn] at hn'; cases hn'
  | slz hb' _ hn' => rw [hb] at hb'; cases hb'; rw [hn] at hn'; cases hn'
  | slnil => exact ⟨rfl, rfl⟩
  | stales _ _ hs => have := hs b hb; omega

/-- The row that append makes of nothing. -/
theorem append_new {C : Ctx} (hg : Good C) {t e sz by_ : Nat} {inf : TypeInfo} {z : Value} {id w m : Nat} {news : List AV} {vals : List Value} {ad : Addr} {c : Nat} (ht : P.underlying t = some (.slice e)) (hi : P.info? e = some inf) (hz : inf.zero = some z) (hzs : z.cells.size = inf.size)
    (hm : 0 < m) (hvl : vals.length = m * inf.size) (v1 : vals.length = news.length) (v2 : ∀ (j : Nat) (u : Value), vals[j]? = some u → C.w.cell? (ad.add j) = some u) (v3 : ∀ j (h : j < news.length) (h' : j < vals.length), VR C news[j] vals[j])
    (hmax : m * inf.bytes ≤ 140737488355328) (hmax2 : m ≤ 140737488355328) (hver : C.U id → ∃ b0, C.η id = some b0 ∧ b0.ver < w) :
    ∃ r zz w' v, (Builtin.append_ #[t, t] ty #[.slice none 0 0, .slice (some ad) m c]).run P C.w = .ok v w' ∧ ReplOk C id r zz ⟨w, news, inf.size, false⟩ w' ∧ VR (C.repl id r zz ⟨w, news, inf.size, false⟩ w') (.sl id w 0 m) v := by
  have hr := run_append_nil (P := P) C.w t ty e inf z ht hi hz ad m c vals hvl v2 hm (by omega) (by omega)
  have hge := grownCap_ge C.w m 0 e
  have hmx : m ≤ maxLen := by unfold maxLen; omega
  have hcm : grownCap C.w m 0 e ≤ maxLen := grownCap_le_maxLen C.w m 0 e hmx
  generalize hcell : (vals.toArray ++ Builtin.zeroCells z.cells (grownCap C.w m 0 e - m)) = nc at hr
  have hncs : nc.size = grownCap C.w m 0 e * inf.size := by
    rw [← hcell]
    simp only [Array.size_append, List.size_toArray, size_zeroCells, hzs, hvl, ← Nat.add_mul]
    congr 1
    omega
  have hle : m * inf.size ≤ grownCap C.w m 0 e * inf.size := Nat.mul_le_mul_right _ hge
  have hget : ∀ j (h : j < news.length) (h' : j < nc.size), VR C news[j] nc[j] := by
    intro j hj hj'
    have hnj : nc[j]? = vals[j]? := by
      rw [← hcell, Array.getElem?_append_left (by simp; omega)]
      simp
    rw [Array.getElem?_eq_getElem hj', List.getElem?_eq_getElem (by omega)] at hnj
    rw [Option.some.inj hnj]
    exact v3 j hj (by omega)
  have hwh : (C.w.drew.alloc (.cells nc e)).heap[C.w.heap.size]? = some (.cells nc e (0, 0)) := heap_alloc_new C.w.drew _
  refine ⟨(C.w.heap.size, 0), nc.size, _, _, hr, ⟨rfl, rfl, rfl, by simp, fun k hk _ => Below.heap_alloc C.w.drew _ k hk, .inr (Nat.le_refl _), hver, rfl, nc, e, hwh, rfl, by rw [hncs]; simp; omega, fun j h h' => by have := hget j h (by simpa using h'); simpa using this⟩, ?_⟩
  have := VR.sl (C := C.repl id (C.w.heap.size, 0) nc.size ⟨w, news, inf.size, false⟩ (C.w.drew.alloc (.cells nc e))) (id := id) (ver := w) (off := 0) (len := m) (cap := grownCap C.w m 0 e) (b := ⟨w, news, inf.size, false⟩) (Heap.set_same _ _ _) rfl rfl hge hcm hmax2
    (by simp [Ctx.repl, hncs])
  simpa [Ctx.repl] using this

theorem LOp.append_of {t sz m : Nat} {s x : Operand} {fp : List Nat} {id w : Nat} {news : List AV} (hfid : True)
    (h : ∀ (C : Ctx) (a : Act), Good C → (∀ q ∈ (Oper.mk d (.call { callee := .builtin .append, args := #[s, x], argTypes := #[t, t] }) ty pos af g).op.operands, VR C (aev τ q) (a.eval q)) → (∀ id ∈ fp, C.η id = η id) → (id ∉ fp → ¬ C.U id) →
      ∃ r zz w' v, (Builtin.append_ #[t, t] ty #[a.eval s, a.eval x]).run P C.w = .ok v w' ∧ ReplOk C id r zz ⟨w, news, sz, false⟩ w' ∧ VR (C.repl id r zz ⟨w, news, sz, false⟩ w') (.sl id w 0 m) v) :
    LOp P ⟨d, .call { callee := .builtin .append, args := #[s, x], argTypes := #[t, t] }, ty, pos, af, g⟩ τ η fp [(id, some ⟨w, news, sz, false⟩)] (.sl id w 0 m) := by
  intro C a hg hxs hfp hnew K Q hK
  obtain ⟨r, zz, w', v, hr, hok, hvr⟩ := h C a hg hxs hfp (fun h => hnew (id, some ⟨w, news, sz, false⟩) (by simp) h)
  unfold Oper.wp
  rw [exec_append C.w hr]
  exact hK v (C.repl id r zz _ w') rfl (fun i => by simp [Ctx.repl]) (Ctx.repl_good hg hok) (Ctx.repl_ev hg hok) hvr

/-- append to nil. -/
theorem LOp.appendN {u t e sz by_ m : Nat} {s x : Operand} {z : Value} {fp : List Nat} {news : List AV} (ht : P.underlying t = some (.slice e)) (hs : sizeInfo P e = some sz) (hz : zeroOf P e = some z) (hby : (P.info? e).map (·.bytes) = some by_) (hzs : z.cells.size = sz)
    (hx : aev τ s = .v (.slice none 0 0)) (hu : u ∉ fp) (hsrc : Src η fp (aev τ x) m news) (hm : 0 < m) (hnl : news.length = m * sz) (hmax : m * by_ ≤ 140737488355328) (hmax2 : m ≤ 140737488355328) :
    LOp P ⟨d, .call { callee := .builtin .append, args := #[s, x], argTypes := #[t, t] }, ty, pos, af, g⟩ τ η fp [(u, some ⟨0, news, sz, false⟩)] (.sl u 0 0 m) :=
  .append_of trivial fun C a hg hxs hfp hnew => by
    unfold sizeInfo at hs
    unfold zeroOf at hz
    cases hi : P.info? e with
    | none => rw [hi] at hz; cases hz
    | some inf =>
      rw [hi] at hz hs hby
      simp only [Option.bind_some] at hz
      simp only [Option.map_some, Option.some.injEq] at hs hby
      subst hs; subst hby
      have e1 := hxs s (by simp [Op.operands, Call.operands])
      rw [hx] at e1
      rcases hsrc C hg hfp _ (hxs x (by simp [Op.operands, Call.operands])) with ⟨h0, _⟩ | ⟨ad, c, vals, hx2, v1, v2, v3⟩
      · omega
      · rw [e1.v_inv, hx2]
        exact append_new (by_ := inf.bytes) (sz := inf.size) hg ht hi hz hzs hm (by omega) v1 v2 v3 hmax hmax2 (fun h => absurd h (hnew hu))
/-- append of one or more to a slice of the call's own, nil or not. -/
theorem LOp.appendA {t e sz by_ : Nat} {s x : Operand} {z : Value} {fp : List Nat} {id ver len m : Nat} {w : Nat} {cs news : List AV} {np : Bool} (ht : P.underlying t = some (.slice e)) (hs : sizeInfo P e = some sz) (hz : zeroOf P e = some z) (hby : (P.info? e).map (·.bytes) = some by_) (hzs : z.cells.size = sz)
    (hx : aev τ s = .sl id ver 0 len) (hb : η id = some ⟨w, cs, sz, np⟩) (hv : w = ver) (hlen : cs.length = len * sz) (hsrc : Src η fp (aev τ x) m news) (hm : 0 < m) (hnl : news.length = m * sz) (h1 : news.all AV.one = true)
    (hmax : (len + m) * by_ ≤ 140737488355328) (hmax2 : len + m ≤ 140737488355328) :
    LOp P ⟨d, .call { callee := .builtin .append, args := #[s, x], argTypes := #[t, t] }, ty, pos, af, g⟩ τ η (id :: fp) [(id, some ⟨ver + 1, cs ++ news, sz, false⟩)] (.sl id (ver + 1) 0 (len + m)) := by
  cases np with
  | false =>
    have := LOp.append (P := P) (τ := τ) (η := η) (d := d) (ty := ty) (pos := pos) (af := af) (g := g) (x := x) ht hs hz hby hzs hx hb hv rfl rfl (Nat.le_of_eq hlen.symm) hsrc hnl h1 hmax hmax2
    rw [← hlen, List.take_length] at this
    exact this
  | true =>
    intro C a hg hxs hfp hnew K Q hK
    have hb' : C.η id = some ⟨w, cs, sz, true⟩ := (hfp id (by simp)).trans hb
    have e1 := hxs s (by simp [Op.operands, Call.operands])
    rw [hx] at e1
    obtain ⟨e2, rfl⟩ := e1.slnil_inv hb' hv rfl
    have hcs : cs = [] := hg.nils hb' rfl
    subst hcs
    refine LOp.append_of (P := P) (τ := τ) (η := η) (d := d) (ty := ty) (pos := pos) (af := af) (g := g) (t := t) (sz := sz) (s := s) (x := x) (news := [] ++ news) (fp := id :: fp) (id := id) (w := ver + 1) (m := 0 + m) trivial (fun C a hg hxs hfp _ => ?_) C a hg hxs hfp hnew K Q hK
    have hb' : C.η id = some ⟨w, [], sz, true⟩ := (hfp id (by simp)).trans hb
    have e1 := hxs s (by simp [Op.operands, Call.operands])
    rw [hx] at e1
    obtain ⟨e2, _⟩ := e1.slnil_inv hb' hv rfl
    unfold sizeInfo at hs
    unfold zeroOf at hz
    cases hi : P.info? e with
    | none => rw [hi] at hz; cases hz
    | some inf =>
      rw [hi] at hz hs hby
      simp only [Option.bind_some] at hz
      simp only [Option.map_some, Option.some.injEq] at hs hby
      subst hs; subst hby
      rcases hsrc C hg (fun i hi => hfp i (by simp [hi])) _ (hxs x (by simp [Op.operands, Call.operands])) with ⟨h0, _⟩ | ⟨ad, c, vals, hx2, v1, v2, v3⟩
      · omega
      · rw [e2, hx2]
        simp only [List.nil_append, Nat.zero_add] at *
        exact append_new (by_ := inf.bytes) (sz := inf.size) hg ht hi hz hzs hm (by omega) v1 v2 v3 hmax hmax2 (fun _ => ⟨_, hb', by simp [hv]⟩)
end

/-! ### A nil slice as one of the call's own that is nil so far -/

theorem SRel.lazy {N : Nat} {C : Ctx} {s : St} {a : Act} (h : SRel N C s a) (z : Nat) : ∃ C', C'.w = C.w ∧ Fr C C' ∧ Good C' ∧ (∀ {v x}, VR C v x → VR C' v x) ∧ VR C' (.sl s.u 0 0 0) (.slice none 0 0) ∧ C'.η = s.η.set s.u (some ⟨0, [], z, true⟩) ∧ (∀ id, C'.U id → id < s.u + 1) ∧ C'.ρ = C.ρ ∧ C'.sz = C.sz ∧ C'.T = C.T := by
  have hnu : ¬ C.U s.u := fun hu => by have := h.u _ hu; omega
  let C' : Ctx := { C with η := C.η.set s.u (some ⟨0, [], z, true⟩), U := fun i => C.U i ∨ i = s.u }
  have hl : ∀ {i b'}, C'.η i = some b' → (i = s.u ∧ b' = ⟨0, [], z, true⟩) ∨ (i ≠ s.u ∧ C.η i = some b') := by
    intro i b' hb'
    by_cases e : i = s.u
    · subst e; have := hb'; simp only [C'] at this; rw [Heap.set_same] at this; cases this; exact .inl ⟨rfl, rfl⟩
    · have := hb'; simp only [C'] at this; rw [Heap.set_other _ _ e] at this; exact .inr ⟨e, this⟩
  have hlive : ∀ {i}, C'.live i → C.live i := by
    rintro i ⟨b', hb', hn'⟩
    rcases hl hb' with ⟨_, rfl⟩ | ⟨_, hb'⟩
    · cases hn'
    · exact ⟨b', hb', hn'⟩
  have hmine : ∀ {k}, C'.mine k → C.mine k := fun ⟨i, h1, h2⟩ => ⟨i, hlive h1, h2⟩
  have he : Ev C C' := by
    refine ⟨⟨rfl, rfl, rfl, Nat.le_refl _, fun _ _ _ => rfl, fun k hk => .inl (hmine hk), fun _ h => h, fun _ h => .inl h⟩, fun _ h => .inl h, fun i b' hid hb' => ?_⟩
    rcases hl hb' with ⟨rfl, _⟩ | ⟨_, hb'⟩
    · exact absurd hid hnu
    · exact ⟨b', hb', Nat.le_refl _, fun _ => ⟨rfl, rfl, rfl, rfl⟩⟩
  have hvr : ∀ {v x}, VR C v x → VR C' v x := fun hv => hv.mono h.good he
  have hg' : Good C' := by
    refine ⟨?_, ?_, ?_, fun h1 h2 h3 => h.good.inj (hlive h1) (hlive h2) h3, fun hk => h.good.tlt hk, fun hk => h.good.apart (hmine hk)⟩
    · intro i b' hb'
      rcases hl hb' with ⟨rfl, _⟩ | ⟨_, hb'⟩
      · exact .inr rfl
      · exact .inl (h.good.used hb')
    · intro i b' hb' hn'
      rcases hl hb' with ⟨_, rfl⟩ | ⟨_, hb'⟩
      · rfl
      · exact h.good.nils hb' hn'
    · intro i b' hb' hn'
      rcases hl hb' with ⟨_, rfl⟩ | ⟨_, hb'⟩
      · cases hn'
      · obtain ⟨c, t', g1, g2, g3, g4⟩ := h.good.blk hb' hn'
        exact ⟨c, t', g1, g2, g3, fun j hj hj' => hvr (g4 j hj hj')⟩
  refine ⟨C', rfl, he.toFr, hg', hvr, .slnil (b := ⟨0, [], z, true⟩) (Heap.set_same _ _ _) rfl rfl, by simp only [C', h.η], fun id hid => ?_, rfl, rfl, rfl⟩
  rcases hid with h1 | h1
  · have := h.u id h1; omega
  · omega

section
variable {P : Program} {N : Nat} {Q : Exit → St → Prop} {τ : Nat → AV} {η : Heap} {u : Nat}

/-- The nil in a slot. -/
theorem AWP.lazyT {c : Code} (t z : Nat) (h : τ t = .v (.slice none 0 0)) (u' : Nat) (hu : u' = u + 1) (hc : AWP P N c Q ⟨upd τ t (.sl u 0 0 0), η.set u (some ⟨0, [], z, true⟩), u'⟩) : AWP P N c Q ⟨τ, η, u⟩ := by
  subst hu
  intro C a hr
  obtain ⟨C', hw, hf, hg, hv, hnil, hη, hU, _⟩ := hr.lazy z
  have hr' : SRel N C' ⟨upd τ t (.sl u 0 0 0), η.set u (some ⟨0, [], z, true⟩), u + 1⟩ a := by
    refine ⟨hg, hη, hU, hr.defers, hr.size, fun q => ?_⟩
    by_cases e : q = t
    · subst e
      have e1 : upd τ q (.sl u 0 0 0) q = .sl u 0 0 0 := by simp [upd]
      have e2 := hr.τ q
      simp only at e2
      rw [h] at e2
      show VR C' (upd τ q (.sl u 0 0 0) q) _
      rw [e1, e2.v_inv]; exact hnil
    · have e1 : upd τ t (.sl u 0 0 0) q = τ q := by
        have : Nat.beq q t = false := by
          cases hb : Nat.beq q t with
          | false => rfl
          | true => exact absurd (Nat.eq_of_beq_eq_true hb) e
        simp [upd, this]
      show VR C' (upd τ t (.sl u 0 0 0) q) _
      rw [e1]; exact hv (hr.τ q)
  have := hc C' a hr'
  rw [hw] at this
  exact Code.wp_mono (fun e a' w' ⟨s', C'', h1, h2, h3, h4⟩ => ⟨s', C'', h1, h2, h3, hf.trans h4⟩) this

/-- The nil in a cell of a variable. -/
theorem AWP.lazyC {c : Code} (id j z : Nat) {w : Nat} {cs ds : List AV} {ez : Nat} {np : Bool} (h : η id = some ⟨w, cs, ez, np⟩) (hn : np = false) (hj : cs[j]? = some (.v (.slice none 0 0))) (hd : putAt j cs [.sl u 0 0 0] = some ds) (hid : Nat.ble (id + 1) u = true) (u' : Nat) (hu : u' = u + 1)
    (hc : AWP P N c Q ⟨τ, (η.set u (some ⟨0, [], z, true⟩)).set id (some ⟨w, ds, ez, np⟩), u'⟩) : AWP P N c Q ⟨τ, η, u⟩ := by
  subst hu
  subst hn
  intro C a hr
  obtain ⟨C', hw, hf, hg, hv, hnil, hη, hU, hρ, hsz, hT⟩ := hr.lazy z
  have hidu : id ≠ u := by have := Nat.le_of_ble_eq_true hid; omega
  have hb : C.η id = some ⟨w, cs, ez, false⟩ := by rw [hr.η]; exact h
  have hb' : C'.η id = some ⟨w, cs, ez, false⟩ := by rw [hη, Heap.set_other _ _ hidu]; exact h
  obtain ⟨p1, p2⟩ := putAt_eq _ _ _ _ hd
  have hjl : j < cs.length := by simp only [List.length_cons, List.length_nil] at p1; omega
  have hdl : ds.length = cs.length := by rw [p2]; exact setRange_length p1
  have hds : ∀ i (hi : i < ds.length) (hi' : i < cs.length), ds[i] = if i = j then .sl u 0 0 0 else cs[i] := by
    intro i hi hi'
    have : ds[i]? = if i = j then some (.sl u 0 0 0) else cs[i]? := by
      rw [p2]
      simp only [setRange, List.length_cons, List.length_nil]
      by_cases e : i = j
      · subst e
        rw [if_pos rfl, List.getElem?_append_left (by simp; omega), List.getElem?_append_right (by simp; omega)]
        have : i - (cs.take i).length = 0 := by simp; omega
        rw [this]; rfl
      · rw [if_neg e]
        by_cases hlt : i < j
        · rw [List.getElem?_append_left (by simp; omega), List.getElem?_append_left (by simp; omega), List.getElem?_take_of_lt hlt]
        · rw [List.getElem?_append_right (by simp; omega), List.getElem?_drop]
          congr 1
          simp; omega
    rw [List.getElem?_eq_getElem hi] at this
    by_cases e : i = j
    · rw [if_pos e] at this ⊢; exact Option.some.inj this
    · rw [if_neg e, List.getElem?_eq_getElem hi'] at this
      rw [if_neg e]; exact Option.some.inj this
  let C2 : Ctx := { C' with η := C'.η.set id (some ⟨w, ds, ez, false⟩) }
  have hl : ∀ {i b'}, C2.η i = some b' → (i = id ∧ b' = ⟨w, ds, ez, false⟩) ∨ (i ≠ id ∧ C'.η i = some b') := by
    intro i b' hb'
    by_cases e : i = id
    · subst e; have := hb'; simp only [C2] at this; rw [Heap.set_same] at this; cases this; exact .inl ⟨rfl, rfl⟩
    · have := hb'; simp only [C2] at this; rw [Heap.set_other _ _ e] at this; exact .inr ⟨e, this⟩
  have hlive : ∀ {i}, C2.live i → C'.live i := by
    rintro i ⟨b', hb2, hn'⟩
    rcases hl hb2 with ⟨rfl, rfl⟩ | ⟨_, hb2⟩
    · exact ⟨_, hb', rfl⟩
    · exact ⟨b', hb2, hn'⟩
  have hmine : ∀ {k}, C2.mine k → C'.mine k := fun ⟨i, h1, h2⟩ => ⟨i, hlive h1, h2⟩
  have he : Ev C' C2 := by
    refine ⟨⟨rfl, rfl, rfl, Nat.le_refl _, fun _ _ _ => rfl, fun k hk => .inl (hmine hk), fun _ h => h, fun _ h => .inl h⟩, fun _ h => h, fun i b' hid hb2 => ?_⟩
    rcases hl hb2 with ⟨rfl, rfl⟩ | ⟨_, hb2⟩
    · exact ⟨_, hb', Nat.le_refl _, fun _ => ⟨rfl, rfl, rfl, rfl⟩⟩
    · exact ⟨b', hb2, Nat.le_refl _, fun _ => ⟨rfl, rfl, rfl, rfl⟩⟩
  have hg2 : Good C2 := by
    refine ⟨?_, ?_, ?_, fun h1 h2 h3 => hg.inj (hlive h1) (hlive h2) h3, fun hk => hg.tlt hk, fun hk => hg.apart (hmine hk)⟩
    · intro i b' hb2
      rcases hl hb2 with ⟨rfl, _⟩ | ⟨_, hb2⟩
      · exact hg.used hb'
      · exact hg.used hb2
    · intro i b' hb2 hn'
      rcases hl hb2 with ⟨_, rfl⟩ | ⟨_, hb2⟩
      · cases hn'
      · exact hg.nils hb2 hn'
    · intro i b' hb2 hn'
      rcases hl hb2 with ⟨rfl, rfl⟩ | ⟨_, hb2⟩
      · obtain ⟨c, t', g1, g2, g3, g4⟩ := hg.blk hb' rfl
        refine ⟨c, t', g1, g2, by show (C'.ρ i).2 + ds.length ≤ c.size; simp only at g3; omega, fun i' hi hi' => ?_⟩
        have hi2 : i' < cs.length := by simp only at hi; omega
        have := g4 i' hi2 hi'
        simp only at this ⊢
        rw [hds i' hi hi2]
        split
        · rename_i e
          subst e
          have e2 : cs[i'] = .v (.slice none 0 0) := by
            rw [List.getElem?_eq_getElem hi2] at hj; exact Option.some.inj hj
          rw [e2] at this
          have e3 := this.v_inv
          have e4 : c[(C2.ρ i).2 + i']'hi' = .slice none 0 0 := e3
          rw [e4]
          exact hnil.mono hg he
        · exact this.mono hg he
      · obtain ⟨c, t', g1, g2, g3, g4⟩ := hg.blk hb2 hn'
        exact ⟨c, t', g1, g2, g3, fun j hj hj' => (g4 j hj hj').mono hg he⟩
  have hr' : SRel N C2 ⟨τ, (η.set u (some ⟨0, [], z, true⟩)).set id (some ⟨w, ds, ez, false⟩), u + 1⟩ a :=
    ⟨hg2, by simp only [C2, hη], hU, hr.defers, hr.size, fun q => (hv (hr.τ q)).mono hg he⟩
  have := hc C2 a hr'
  rw [show C2.w = C.w from hw] at this
  exact Code.wp_mono (fun e a' w' ⟨s', C'', h1, h2, h3, h4⟩ => ⟨s', C'', h1, h2, h3, (hf.trans he.toFr).trans h4⟩) this
end
end Go.Proofs.Ytcbpakbhklbdnaa
