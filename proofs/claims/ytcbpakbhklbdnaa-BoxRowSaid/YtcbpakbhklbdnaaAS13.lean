/- append, said of plain values. -/
import Derived.Test.YtcbpakbhklbdnaaAS12
namespace Go.Proofs.Ytcbpakbhklbdnaa
set_option linter.unusedVariables false
open Go.RowKit

/-- A block of the call's own is laid anew (or is new). -/
def Ctx.repl (C : Ctx) (id : Nat) (r : Nat × Nat) (z : Nat) (b : Blk) (w : World) : Ctx :=
  { ρ := fun i => if i = id then r else C.ρ i, sz := fun i => if i = id then z else C.sz i, η := C.η.set id (some b), U := fun i => C.U i ∨ i = id, T := C.T, w := w }

section
variable {C : Ctx} {id : Nat} {r : Nat × Nat} {z : Nat} {b : Blk} {w : World}

structure ReplOk (C : Ctx) (id : Nat) (r : Nat × Nat) (z : Nat) (b : Blk) (w : World) : Prop where
  os : w.os = C.w.os
  tape : w.tape = C.w.tape
  output : w.output = C.w.output
  size : C.w.heap.size ≤ w.heap.size
  keep : ∀ k, k < C.w.heap.size → k ≠ r.1 → w.heap[k]? = C.w.heap[k]?
  where_ : (∃ b0, C.η id = some b0 ∧ b0.nilp = false ∧ (C.ρ id).1 = r.1) ∨ C.w.heap.size ≤ r.1
  ver : C.U id → ∃ b0, C.η id = some b0 ∧ b0.ver < b.ver
  nn : b.nilp = false
  cells : ∃ c t, w.heap[r.1]? = some (.cells c t (0, 0)) ∧ c.size = z ∧ r.2 + b.cs.length ≤ c.size ∧ ∀ j (h : j < b.cs.length) (h' : r.2 + j < c.size), VR C b.cs[j] c[r.2 + j]

theorem Ctx.repl_ev (hg : Good C) (h : ReplOk C id r z b w) : Ev C (C.repl id r z b w) where
  os := h.os
  tape := h.tape
  output := h.output
  size := h.size
  keep := fun k hk hm => by
    refine h.keep k hk (fun e => ?_)
    rcases h.where_ with ⟨b0, h1, h2, h3⟩ | h1
    · exact hm ⟨id, ⟨b0, h1, h2⟩, h3.trans e.symm⟩
    · omega
  mine := fun k ⟨i, ⟨b', hb', hn'⟩, hk⟩ => by
    by_cases e : i = id
    · subst e
      simp only [Ctx.repl, if_true] at hk
      rcases h.where_ with ⟨b0, h1, h2, h3⟩ | h1
      · exact .inl ⟨i, ⟨b0, h1, h2⟩, h3.trans hk⟩
      · exact .inr (by omega)
    · simp only [Ctx.repl] at hb' hk
      rw [Heap.set_other _ _ e] at hb'
      simp only [e, if_false] at hk
      exact .inl ⟨i, ⟨b', hb', hn'⟩, hk⟩
  T := fun _ h => h
  Tnew := fun _ h => .inl h
  U := fun _ h => .inl h
  old := fun i b' hid hb' => by
    simp only [Ctx.repl] at hb'
    by_cases e : i = id
    · subst e
      rw [Heap.set_same] at hb'
      cases hb'
      obtain ⟨b0, h1, h2⟩ := h.ver hid
      exact ⟨b0, h1, by omega, fun e => by omega⟩
    · rw [Heap.set_other _ _ e] at hb'
      exact ⟨b', hb', Nat.le_refl _, fun _ => ⟨by simp [Ctx.repl, e], by simp [Ctx.repl, e], rfl, rfl⟩⟩

theorem Ctx.repl_good (hg : Good C) (h : ReplOk C id r z b w) : Good (C.repl id r z b w) := by
  have he := Ctx.repl_ev hg h
  have hlive : ∀ {i b'}, (C.repl id r z b w).η i = some b' → (i = id ∧ b' = b) ∨ (i ≠ id ∧ C.η i = some b') := by
    intro i b' hb'
    simp only [Ctx.repl] at hb'
    by_cases e : i = id
    · subst e; rw [Heap.set_same] at hb'; cases hb'; exact .inl ⟨rfl, rfl⟩
    · rw [Heap.set_other _ _ e] at hb'; exact .inr ⟨e, hb'⟩
  have hlt : ∀ {i b'}, C.η i = some b' → b'.nilp = false → (C.ρ i).1 < C.w.heap.size := by
    intro i b' hb' hn'
    obtain ⟨c, t', h1, _⟩ := hg.blk hb' hn'
    exact (Array.getElem?_eq_some_iff.1 h1).1
  have hne : ∀ {i b'}, i ≠ id → C.η i = some b' → b'.nilp = false → (C.ρ i).1 ≠ r.1 := by
    intro i b' hi hb' hn' e
    rcases h.where_ with ⟨b0, h1, h2, h3⟩ | h1
    · exact hi (hg.inj ⟨b', hb', hn'⟩ ⟨b0, h1, h2⟩ (e.trans h3.symm))
    · have := hlt hb' hn'; omega
  refine ⟨?_, ?_, ?_, ?_, ?_, ?_⟩
  · intro i b' hb'
    rcases hlive hb' with ⟨rfl, rfl⟩ | ⟨_, hb'⟩
    · exact .inr rfl
    · exact .inl (hg.used hb')
  · intro i b' hb' hn'
    rcases hlive hb' with ⟨rfl, rfl⟩ | ⟨_, hb'⟩
    · rw [h.nn] at hn'; cases hn'
    · exact hg.nils hb' hn'
  · intro i b' hb' hn'
    rcases hlive hb' with ⟨e, rfl⟩ | ⟨e, hb'⟩
    · obtain ⟨c, t, g1, g2, g3, g4⟩ := h.cells
      have e1 : (C.repl id r z b' w).ρ i = r := by simp [Ctx.repl, e]
      have e2 : (C.repl id r z b' w).sz i = z := by simp [Ctx.repl, e]
      rw [e1, e2]
      exact ⟨c, t, g1, g2, g3, fun j hj hj' => (g4 j hj hj').mono hg he⟩
    · obtain ⟨c, t', h1, h2, h3, h4⟩ := hg.blk hb' hn'
      have e1 : (C.repl id r z b w).ρ i = C.ρ i := by simp [Ctx.repl, e]
      have e2 : (C.repl id r z b w).sz i = C.sz i := by simp [Ctx.repl, e]
      rw [e1, e2]
      exact ⟨c, t', (h.keep _ (hlt hb' hn') (hne e hb' hn')).trans h1, h2, h3, fun j hj hj' => (h4 j hj hj').mono hg he⟩
  · rintro i i' ⟨b1, hb1, hn1⟩ ⟨b2, hb2, hn2⟩ hh
    rcases hlive hb1 with ⟨h1, _⟩ | ⟨e1, hb3⟩ <;> rcases hlive hb2 with ⟨h2, _⟩ | ⟨e2, hb4⟩
    · exact h1.trans h2.symm
    · simp only [Ctx.repl, h1, if_true, e2, if_false] at hh
      exact absurd hh.symm (hne e2 hb4 hn2)
    · simp only [Ctx.repl, h2, if_true, e1, if_false] at hh
      exact absurd hh (hne e1 hb3 hn1)
    · simp only [Ctx.repl, e1, e2, if_false] at hh
      exact hg.inj ⟨b1, hb3, hn1⟩ ⟨b2, hb4, hn2⟩ hh
  · intro k hk
    have := hg.tlt (k := k) hk
    have := h.size
    show k < w.heap.size
    omega
  · rintro k ⟨i, ⟨b', hb', hn'⟩, hk⟩ hT
    rcases hlive hb' with ⟨e, _⟩ | ⟨e, hb'⟩
    · simp only [Ctx.repl, e, if_true] at hk
      rcases h.where_ with ⟨b0, h1, h2, h3⟩ | h1
      · exact hg.apart ⟨id, ⟨b0, h1, h2⟩, h3.trans hk⟩ hT
      · have := hg.tlt (k := k) hT; omega
    · simp only [Ctx.repl, e, if_false] at hk
      exact hg.apart ⟨i, ⟨b', hb', hn'⟩, hk⟩ hT
end

/-! ### What is appended -/

/-- The cells of a slice that is read: m elements, the cells 'news'. -/
def Src (η : Heap) (fp : List Nat) (a : AV) (m : Nat) (news : List AV) : Prop :=
  ∀ C : Ctx, Good C → (∀ id ∈ fp, C.η id = η id) → ∀ x, VR C a x → (m = 0 ∧ news = [] ∧ ∃ ad c, x = .slice ad 0 c) ∨
    ∃ (ad : Addr) (c : Nat) (vals : List Value), x = .slice (some ad) m c ∧ vals.length = news.length ∧ (∀ (j : Nat) (u : Value), vals[j]? = some u → C.w.cell? (ad.add j) = some u) ∧ ∀ j (h : j < news.length) (h' : j < vals.length), VR C news[j] vals[j]

theorem flatten_get {n : Nat} : ∀ (xs : List (List AV)) (_ : ∀ k (h : k < xs.length), xs[k].length = n) (i : Nat), i < xs.length * n → ∃ (h : i / n < xs.length) (h' : i % n < xs[i / n].length) (h'' : i < xs.flatten.length), xs.flatten[i] = xs[i / n][i % n]
  | [], _, i, h => by simp at h
  | x :: r, hl, i, hi => by
    have h0 : x.length = n := hl 0 (by simp)
    have hpos : 0 < n := by
      rcases Nat.eq_zero_or_pos n with e | e
      · subst e; simp at hi
      · exact e
    by_cases hlt : i < n
    · have e1 : i / n = 0 := Nat.div_eq_of_lt hlt
      have e2 : i % n = i := Nat.mod_eq_of_lt hlt
      refine ⟨by rw [e1]; simp, by simp only [e1, e2]; simp; omega, by simp; omega, ?_⟩
      simp only [e1, e2, List.getElem_cons_zero, List.flatten_cons]
      rw [List.getElem_append_left (by omega)]
    · have hge : n ≤ i := by omega
      obtain ⟨g1, g2, g3, g4⟩ := flatten_get r (fun k hk => by have := hl (k + 1) (by simpa using hk); simpa using this) (i - n) (by simp [Nat.add_mul] at hi; omega)
      have e1 : i / n = (i - n) / n + 1 := by rw [Nat.div_eq_sub_div hpos hge]
      have e2 : i % n = (i - n) % n := Nat.mod_eq_sub_mod hge
      refine ⟨by rw [e1]; simp; exact g1, by simp only [e1, e2, List.getElem_cons_succ]; exact g2, by simp at g3 ⊢; omega, ?_⟩
      simp only [e1, e2, List.getElem_cons_succ, List.flatten_cons]
      rw [List.getElem_append_right (by omega), ← g4]
      congr 1
      omega

theorem flatten_length {n : Nat} : ∀ (xs : List (List AV)) (_ : ∀ k (h : k < xs.length), xs[k].length = n), xs.flatten.length = xs.length * n
  | [], _ => by simp
  | x :: r, hl => by
    have h0 : x.length = n := hl 0 (by simp)
    have := flatten_length r (fun k hk => by have := hl (k + 1) (by simpa using hk); simpa using this)
    simp only [List.flatten_cons, List.length_append, List.length_cons, Nat.add_mul, this, h0]
    omega

theorem Src.tree {η : Heap} {n : Nat} {xs : List (List AV)} : Src η [] (.tree n xs) xs.length xs.flatten := by
  intro C hg _ x hx
  have h := hx.tree_inv
  cases h with
  | tree0 h => exact .inl ⟨rfl, rfl, _, _, rfl⟩
  | tree cell hT h1 h2 h3 h4 h5 h6 =>
    rename_i b off cap
    right
    have hfl := flatten_length xs h4
    refine ⟨⟨b, off, none⟩, cap, (List.range (xs.length * n)).map fun i => cell (i / n) (i % n), rfl, by simp [hfl], fun j u hj => ?_, fun j hj hj' => ?_⟩
    · simp only [List.getElem?_map] at hj
      cases hr : (List.range (xs.length * n))[j]? with
      | none => rw [hr] at hj; cases hj
      | some q =>
        rw [hr] at hj
        obtain ⟨hlt, hq⟩ := List.getElem?_eq_some_iff.1 hr
        simp only [List.getElem_range] at hq
        subst hq
        simp only [Option.map_some, Option.some.injEq] at hj
        subst hj
        have hlt' : j < xs.length * n := by simpa using hlt
        obtain ⟨g1, g2, _, _⟩ := flatten_get xs h4 j hlt'
        rw [h4 _ g1] at g2
        rw [Addr.add_mid]
        have := h5 (j / n) (j % n) g1 g2
        rw [show off + j / n * n + j % n = off + j by have := Nat.div_add_mod j n; rw [Nat.mul_comm] at this; omega] at this
        exact this
    · simp only [List.length_map, List.length_range] at hj'
      obtain ⟨g1, g2, g3, g4⟩ := flatten_get xs h4 j hj'
      rw [g4]
      simp only [List.getElem_map, List.getElem_range]
      exact .imm (h6 _ g1 _ g2)

theorem Src.sl {η : Heap} {id ver off len : Nat} {b : Blk} {news : List AV} (hb : η id = some b) (hv : b.ver = ver) (hn : b.nilp = false) (hne : Nat.beq len 0 = false) (hc : takeFrom off news.length b.cs = some news) : Src η [id] (.sl id ver off len) len news := by
  intro C hg hη x hx
  have hb' : C.η id = some b := (hη id (by simp)).trans hb
  have hne' : len ≠ 0 := fun e => by rw [e] at hne; cases hne
  obtain ⟨ad, cap, rfl, h1, h2, h3, h4⟩ := hx.sl_inv hb' hv hn
  rcases h4 with ⟨h4, _⟩ | ⟨rfl, h4⟩
  · exact absurd h4 hne'
  obtain ⟨g1, g2⟩ := takeFrom_eq _ _ _ _ hc
  right
  obtain ⟨f, hf⟩ := choose_cells (n := news.length) (p := fun j y => C.w.cell? ⟨(C.ρ id).1, (C.ρ id).2 + off + j, none⟩ = some y ∧ VR C (news.getD j .unk) y) (fun j hj => by
    obtain ⟨y, hy, hvy⟩ := hg.cell hb' hn (j := off + j) (by omega)
    refine ⟨y, by rw [Nat.add_assoc]; exact hy, ?_⟩
    have e : news.getD j .unk = news[j] := by simp [List.getD, hj]
    have e2 : news[j] = b.cs[off + j]'(by omega) := by
      have : news[j]? = b.cs[off + j]? := by rw [g2, List.getElem?_take_of_lt (by omega), List.getElem?_drop]
      rw [List.getElem?_eq_getElem hj, List.getElem?_eq_getElem (by omega)] at this
      exact Option.some.inj this
    rw [e, e2]; exact hvy)
  refine ⟨_, cap, (List.range news.length).map f, rfl, by simp, fun j u hj => ?_, fun j hj hj' => ?_⟩
  · obtain ⟨hlt, he⟩ := List.getElem?_eq_some_iff.1 hj
    simp only [List.getElem_map, List.getElem_range] at he
    subst he
    rw [Addr.add_mid]
    exact (hf j (by simpa using hlt)).1
  · simp only [List.getElem_map, List.getElem_range]
    have := (hf j hj).2
    simpa [List.getD, hj] using this

section
variable {P : Program} {τ : Nat → AV} {η : Heap} {d : Option Tmp} {ty : TypeId} {pos : String} {af : Array Edge} {g : Option (Nat × Bool)}

theorem exec_append {a : Act} {s x : Operand} {t1 t2 : TypeId} (w : World) {v : Value} {w' : World} (h : (Builtin.append_ #[t1, t2] ty #[a.eval s, a.eval x]).run P w = .ok v w') :
    (execOp a.eval ⟨d, .call { callee := .builtin .append, args := #[s, x], argTypes := #[t1, t2] }, ty, pos, af, g⟩).run P w = .ok (.value v) w' := by
  simp only [execOp, resolve, invoke, builtin, Sem.run_bind, Sem.run_pure, Result.andThen_ok, List.map_toArray, List.map_cons, List.map_nil, h]

theorem run_append_zero {t e : TypeId} {i : TypeInfo} (ht : P.underlying t = some (.slice e)) (hi : P.info? e = some i) (w : World) (a ad : Option Addr) (n cap c : Nat) (hle : n ≤ cap) :
    (Builtin.append_ #[t, t] ty #[.slice a n cap, .slice ad 0 c]).run P w = .ok (.slice a n cap) w := by
  have h1 : ∀ x : Option Addr, (Builtin.firstCells i.size 0 (.slice x 0 c)).run P w = .ok #[] w := by
    intro x; cases x <;> simp [Builtin.firstCells, loadCells, loadCellsFrom]
  cases a with
  | none => simp [Builtin.append_, run_underlying ht, sizeOf, typeInfo, hi, Builtin.lenOf, hle, h1]
  | some b => simp [Builtin.append_, run_underlying ht, sizeOf, typeInfo, hi, Builtin.lenOf, hle, h1, storeCells]

theorem run_append_mid {t e : TypeId} {i : TypeInfo} (ht : P.underlying t = some (.slice e)) (hi : P.info? e = some i) (w : World) (gb o n cap : Nat) (cur : Array Value) (t' : TypeId) (hgb : w.heap[gb]? = some (.cells cur t' (0, 0)))
    (a : Addr) (m c : Nat) (news : List Value) (hl : news.length = m * i.size) (hnews : ∀ (j : Nat) (u : Value), news[j]? = some u → w.cell? (a.add j) = some u) (h1 : ∀ u ∈ news, u.oneCell' = true)
    (hroom : n + m ≤ cap) (hfit : o + n * i.size + news.length ≤ cur.size) :
    (Builtin.append_ #[t, t] ty #[.slice (some ⟨gb, o, none⟩) n cap, .slice (some a) m c]).run P w = .ok (.slice (some ⟨gb, o, none⟩) (n + m) cap) (w.setCells gb (o + n * i.size) news) := by
  have hf := run_firstCells_some (P := P) w i.size m a m c news hl hnews
  have hst := run_storeCells_cells (P := P) gb (o + n * i.size) news 0 w (fun j hj => by
    have : o + n * i.size + 0 + j < cur.size := by omega
    simp [World.cell?, hgb]; omega) (fun j _ => by simp [World.frozen?, hgb]) h1
  simp only [Nat.add_zero] at hst
  simp [Builtin.append_, run_underlying ht, sizeOf, typeInfo, hi, Builtin.lenOf, hroom, hf, Addr.add_mid, hst]

/-- append to a slice of the call's own. -/
theorem LOp.append {t e sz by_ : Nat} {s x : Operand} {z : Value} {fp : List Nat} {id ver len m : Nat} {b : Blk} {news : List AV} (ht : P.underlying t = some (.slice e)) (hs : sizeInfo P e = some sz) (hz : zeroOf P e = some z) (hby : (P.info? e).map (·.bytes) = some by_) (hzs : z.cells.size = sz)
    (hx : aev τ s = .sl id ver 0 len) (hb : η id = some b) (hv : b.ver = ver) (hn : b.nilp = false) (hez : b.esz = sz) (hlen : len * sz ≤ b.cs.length) (hsrc : Src η fp (aev τ x) m news) (hnl : news.length = m * sz) (h1 : news.all AV.one = true)
    (hmax : (len + m) * by_ ≤ 140737488355328) (hmax2 : len + m ≤ 140737488355328) :
    LOp P ⟨d, .call { callee := .builtin .append, args := #[s, x], argTypes := #[t, t] }, ty, pos, af, g⟩ τ η (id :: fp) [(id, some ⟨ver + 1, b.cs.take (len * sz) ++ news, sz, false⟩)] (.sl id (ver + 1) 0 (len + m)) := by
  intro C a hg hxs hfp _ K Q hK
  unfold sizeInfo at hs
  unfold zeroOf at hz
  cases hi : P.info? e with
  | none => rw [hi] at hz; cases hz
  | some inf =>
    rw [hi] at hz hs hby
    simp only [Option.bind_some] at hz
    simp only [Option.map_some, Option.some.injEq] at hs hby
    subst hs; subst hby
    have hb' : C.η id = some b := (hfp id (by simp)).trans hb
    have e1 := hxs s (by simp [Op.operands, Call.operands])
    rw [hx] at e1
    obtain ⟨ad, cap, e2, c1, c2, c3, c4⟩ := e1.sl_inv hb' hv hn
    have e3 := hsrc C hg (fun i hi => hfp i (by simp [hi])) _ (hxs x (by simp [Op.operands, Call.operands]))
    obtain ⟨cs, t', g1, g2, g3, g4⟩ := hg.blk hb' hn
    have hU : C.U id := hg.used hb'
    have hfin : ∀ (r : Nat × Nat) (zz : Nat) (w' : World) (v : Value), (Builtin.append_ #[t, t] ty #[a.eval s, a.eval x]).run P C.w = .ok v w' → ReplOk C id r zz ⟨ver + 1, b.cs.take (len * inf.size) ++ news, inf.size, false⟩ w' →
        VR (C.repl id r zz ⟨ver + 1, b.cs.take (len * inf.size) ++ news, inf.size, false⟩ w') (.sl id (ver + 1) 0 (len + m)) v → (⟨d, .call { callee := .builtin .append, args := #[s, x], argTypes := #[t, t] }, ty, pos, af, g⟩ : Oper).wp P a C.w K Q := by
      intro r zz w' v hr hok hvr
      unfold Oper.wp
      rw [exec_append C.w hr]
      exact hK v (C.repl id r zz _ w') rfl (fun i => by simp [Ctx.repl]) (Ctx.repl_good hg hok) (Ctx.repl_ev hg hok) hvr
    have htl : (b.cs.take (len * inf.size)).length = len * inf.size := by simp; omega
    -- nothing is appended, or the slice has room
    have hroomcase : ∀ (vals : List Value) (w' : World), vals.length = news.length → (∀ j (h : j < news.length) (h' : j < vals.length), VR C news[j] vals[j]) → w' = C.w.setCells (C.ρ id).1 ((C.ρ id).2 + len * inf.size) vals → (C.ρ id).2 + len * inf.size + news.length ≤ cs.size →
        ReplOk C id (C.ρ id) (C.sz id) ⟨ver + 1, b.cs.take (len * inf.size) ++ news, inf.size, false⟩ w' := by
      intro vals w' hvl hvv hw hfit
      subst hw
      obtain ⟨r1, r2, r3, r4⟩ := setCells_rest vals C.w (C.ρ id).1 ((C.ρ id).2 + len * inf.size)
      refine ⟨r1, r2, r3, by rw [r4]; exact Nat.le_refl _, fun k _ hk => setCells_other _ _ _ _ _ hk, .inl ⟨b, hb', hn, rfl⟩, fun _ => ⟨b, hb', by simp [hv]⟩, rfl, setR cs ((C.ρ id).2 + len * inf.size) vals, t', setCells_heap _ _ _ _ _ _ g1, by rw [setR_size]; exact g2, by rw [setR_size]; simp [htl]; omega, ?_⟩
      intro j hj hj'
      have hjl : j < len * inf.size + news.length := by simpa [htl] using hj
      have hjc : (C.ρ id).2 + j < cs.size := by rw [setR_size] at hj'; exact hj'
      by_cases hlt : j < len * inf.size
      · have e4 : (b.cs.take (len * inf.size) ++ news)[j] = b.cs[j]'(by omega) := by
          rw [List.getElem_append_left (by omega)]; simp
        have e5 : (setR cs ((C.ρ id).2 + len * inf.size) vals)[(C.ρ id).2 + j]'hj' = cs[(C.ρ id).2 + j] := by
          have := setR_out vals cs ((C.ρ id).2 + len * inf.size) ((C.ρ id).2 + j) (by omega)
          rw [Array.getElem?_eq_getElem hj', Array.getElem?_eq_getElem hjc] at this
          exact Option.some.inj this
        simp only [e4, e5]
        exact g4 j (by omega) hjc
      · obtain ⟨q, rfl⟩ : ∃ q, j = len * inf.size + q := ⟨j - len * inf.size, by omega⟩
        have hq : q < news.length := by omega
        have e4 : (b.cs.take (len * inf.size) ++ news)[len * inf.size + q] = news[q] := by
          have : (b.cs.take (len * inf.size) ++ news)[len * inf.size + q]? = news[q]? := by
            rw [List.getElem?_append_right (by omega)]
            congr 1
            omega
          rw [List.getElem?_eq_getElem hj, List.getElem?_eq_getElem hq] at this
          exact Option.some.inj this
        have e5 : (setR cs ((C.ρ id).2 + len * inf.size) vals)[(C.ρ id).2 + (len * inf.size + q)]'hj' = vals[q]'(by omega) := by
          have := setR_in vals cs ((C.ρ id).2 + len * inf.size) q (by omega) (by omega)
          rw [Nat.add_assoc, Array.getElem?_eq_getElem hj', List.getElem?_eq_getElem (by omega)] at this
          exact Option.some.inj this
        simp only [e4, e5]
        exact hvv q hq (by omega)
    rcases e3 with ⟨rfl, rfl, ad2, c', hx2⟩ | ⟨ad2, c', vals, hx2, v1, v2, v3⟩
    · -- nothing
      have hr := run_append_zero (P := P) (ty := ty) ht hi C.w (some ad) ad2 len cap c' c1
      rw [← e2, ← hx2] at hr
      have hok := hroomcase [] C.w rfl (fun j h => by simp at h) rfl (by simp; omega)
      refine hfin _ _ _ _ (by rw [e2] at hr ⊢; exact hr) hok ?_
      have hset : (C.repl id (C.ρ id) (C.sz id) ⟨ver + 1, b.cs.take (len * inf.size) ++ [], inf.size, false⟩ C.w).η id = some ⟨ver + 1, b.cs.take (len * inf.size) ++ [], inf.size, false⟩ := Heap.set_same _ _ _
      rcases c4 with ⟨h0, h0'⟩ | ⟨rfl, c4⟩
      · subst h0; subst h0'
        exact VR.slz hset rfl rfl
      · have := VR.sl (C := C.repl id (C.ρ id) (C.sz id) ⟨ver + 1, b.cs.take (len * inf.size) ++ [], inf.size, false⟩ C.w) (id := id) (ver := ver + 1) (off := 0) (len := len) (cap := cap) hset rfl rfl c1 c2 c3 (by simp only [Ctx.repl, if_true]; rw [← hez]; exact c4)
        simpa [Ctx.repl] using this
    · have hvone : ∀ u ∈ vals, u.oneCell' = true := by
        intro u hu
        obtain ⟨j, hj, rfl⟩ := List.getElem_of_mem hu
        exact (v3 j (by omega) hj).one (List.all_eq_true.1 h1 _ (List.getElem_mem _))
      have hvl : vals.length = m * inf.size := by omega
      have htot : (vals.length : Nat) = news.length := v1
      by_cases hroom : len + m ≤ cap
      · by_cases hdeg : len = 0 ∧ cap = 0
        · -- nothing after all
          obtain ⟨rfl, rfl⟩ := hdeg
          have hm0 : m = 0 := by omega
          subst hm0
          have hn0 : news = [] := List.eq_nil_of_length_eq_zero (by omega)
          subst hn0
          have hr := run_append_zero (P := P) (ty := ty) ht hi C.w (some ad) (some ad2) 0 0 c' (Nat.le_refl _)
          rw [← e2, ← hx2] at hr
          have hok := hroomcase [] C.w rfl (fun j h => by simp at h) rfl (by simp; omega)
          refine hfin _ _ _ _ (by rw [e2] at hr ⊢; exact hr) hok ?_
          exact VR.slz (b := ⟨ver + 1, b.cs.take (0 * inf.size) ++ [], inf.size, false⟩) (Heap.set_same _ _ _) rfl rfl
        · rcases c4 with h | ⟨rfl, c4⟩
          · exact absurd h hdeg
          have hmul : (len + m) * inf.size ≤ cap * inf.size := Nat.mul_le_mul_right _ hroom
          rw [Nat.add_mul] at hmul
          have hfit : (C.ρ id).2 + len * inf.size + news.length ≤ cs.size := by rw [hez] at c4; omega
          have hr := run_append_mid (P := P) (ty := ty) ht hi C.w (C.ρ id).1 ((C.ρ id).2 + 0) len cap cs t' g1 ad2 m c' vals hvl v2 hvone hroom (by omega)
          rw [← e2, ← hx2] at hr
          have hok := hroomcase vals _ v1 v3 rfl hfit
          refine hfin _ _ _ _ (by rw [Nat.add_zero] at hr; exact hr) hok ?_
          have := VR.sl (C := C.repl id (C.ρ id) (C.sz id) ⟨ver + 1, b.cs.take (len * inf.size) ++ news, inf.size, false⟩ (C.w.setCells (C.ρ id).1 ((C.ρ id).2 + len * inf.size) vals)) (id := id) (ver := ver + 1) (off := 0) (len := len + m) (cap := cap) (b := ⟨ver + 1, b.cs.take (len * inf.size) ++ news, inf.size, false⟩) (Heap.set_same _ _ _) rfl rfl hroom c2 hmax2
            (by simp only [Ctx.repl, if_true]; rw [← hez]; exact c4)
          simpa [Ctx.repl] using this
      · -- a new row
        obtain ⟨f, hf⟩ := choose_cells (n := len * inf.size) (p := fun j y => C.w.cell? ⟨(C.ρ id).1, (C.ρ id).2 + j, none⟩ = some y ∧ ∀ h : j < b.cs.length, VR C b.cs[j] y) (fun j hj => by
          obtain ⟨y, hy, hvy⟩ := hg.cell hb' hn (j := j) (by omega)
          exact ⟨y, hy, fun _ => hvy⟩)
        have holds : ∀ (j : Nat) (u : Value), ((List.range (len * inf.size)).map f)[j]? = some u → C.w.cell? (ad.add j) = some u := by
          intro j u hj
          obtain ⟨hlt, he⟩ := List.getElem?_eq_some_iff.1 hj
          simp only [List.getElem_map, List.getElem_range] at he
          subst he
          have hlt' : j < len * inf.size := by simpa using hlt
          rcases c4 with ⟨h0, _⟩ | ⟨rfl, _⟩
          · subst h0; simp at hlt'
          · rw [Addr.add_mid, Nat.add_zero]
            exact (hf j hlt').1
        have hlt : cap < len + m := by omega
        have hr := run_append_grow (P := P) C.w t ty e inf z ht hi hz ad len cap ((List.range (len * inf.size)).map f) (by simp) holds ad2 m c' vals hvl v2 hlt (by omega) (growslice_fits hlt hmax)
        rw [← e2, ← hx2] at hr
        have hge := grownCap_ge C.w (len + m) cap e
        have hmx : len + m ≤ maxLen := by unfold maxLen; omega
        have hcm : grownCap C.w (len + m) cap e ≤ maxLen := grownCap_le_maxLen C.w (len + m) cap e hmx
        generalize hcell : (((List.range (len * inf.size)).map f).toArray ++ vals.toArray ++ Builtin.zeroCells z.cells (grownCap C.w (len + m) cap e - (len + m))) = nc at hr
        have hncs : nc.size = grownCap C.w (len + m) cap e * inf.size := by
          rw [← hcell]
          simp only [Array.size_append, List.size_toArray, List.length_map, List.length_range, size_zeroCells, hzs, hvl, ← Nat.add_mul]
          congr 1
          omega
        have hget : ∀ j (h : j < (b.cs.take (len * inf.size) ++ news).length) (h' : j < nc.size), VR C (b.cs.take (len * inf.size) ++ news)[j] nc[j] := by
          intro j hj hj'
          have hjl : j < len * inf.size + news.length := by simpa [htl] using hj
          have hnj : nc[j]? = (((List.range (len * inf.size)).map f) ++ vals)[j]? := by
            rw [← hcell, Array.getElem?_append_left (by simp; omega)]
            simp
          rw [Array.getElem?_eq_getElem hj'] at hnj
          by_cases hlt : j < len * inf.size
          · have e4 : (b.cs.take (len * inf.size) ++ news)[j] = b.cs[j]'(by omega) := by
              rw [List.getElem_append_left (by omega)]; simp
            rw [List.getElem?_append_left (by simpa using hlt)] at hnj
            simp only [List.getElem?_map, List.getElem?_range hlt, Option.map_some, Option.some.injEq] at hnj
            rw [e4, hnj]
            exact (hf j hlt).2 (by omega)
          · obtain ⟨q, rfl⟩ : ∃ q, j = len * inf.size + q := ⟨j - len * inf.size, by omega⟩
            have hq : q < news.length := by omega
            have e4 : (b.cs.take (len * inf.size) ++ news)[len * inf.size + q] = news[q] := by
              have : (b.cs.take (len * inf.size) ++ news)[len * inf.size + q]? = news[q]? := by
                rw [List.getElem?_append_right (by omega)]
                congr 1
                omega
              rw [List.getElem?_eq_getElem hj, List.getElem?_eq_getElem hq] at this
              exact Option.some.inj this
            rw [List.getElem?_append_right (by simp)] at hnj
            simp only [List.length_map, List.length_range, Nat.add_sub_cancel_left] at hnj
            rw [List.getElem?_eq_getElem (by omega)] at hnj
            rw [e4, Option.some.inj hnj]
            exact v3 q hq (by omega)
        have hwh : (C.w.drew.alloc (.cells nc e)).heap[C.w.heap.size]? = some (.cells nc e (0, 0)) := heap_alloc_new C.w.drew _
        have hok : ReplOk C id (C.w.heap.size, 0) nc.size ⟨ver + 1, b.cs.take (len * inf.size) ++ news, inf.size, false⟩ (C.w.drew.alloc (.cells nc e)) := by
          refine ⟨rfl, rfl, rfl, by simp, fun k hk _ => Below.heap_alloc C.w.drew _ k hk, .inr (Nat.le_refl _), fun _ => ⟨b, hb', by simp [hv]⟩, rfl, nc, e, hwh, rfl, ?_, fun j h h' => ?_⟩
          · rw [hncs]
            have : (len + m) * inf.size ≤ grownCap C.w (len + m) cap e * inf.size := Nat.mul_le_mul_right _ hge
            rw [Nat.add_mul] at this
            simp [htl]; omega
          · have := hget j h (by simpa using h')
            simpa using this
        refine hfin _ _ _ _ hr hok ?_
        have := VR.sl (C := C.repl id (C.w.heap.size, 0) nc.size ⟨ver + 1, b.cs.take (len * inf.size) ++ news, inf.size, false⟩ (C.w.drew.alloc (.cells nc e))) (id := id) (ver := ver + 1) (off := 0) (len := len + m) (cap := grownCap C.w (len + m) cap e) (b := ⟨ver + 1, b.cs.take (len * inf.size) ++ news, inf.size, false⟩) (Heap.set_same _ _ _) rfl rfl hge hcm hmax2
          (by simp [Ctx.repl, hncs])
        simpa [Ctx.repl] using this
end
end Go.Proofs.Ytcbpakbhklbdnaa
