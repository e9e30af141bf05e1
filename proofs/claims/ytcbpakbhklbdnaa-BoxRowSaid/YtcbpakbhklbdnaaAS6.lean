/- What an operation does, said of plain values: structs and slices out of parts; places in slices; parts of values; lengths. -/
import Derived.Test.YtcbpakbhklbdnaaAS5
import Derived.Laws.Tables
namespace Go.Proofs.Ytcbpakbhklbdnaa
set_option linter.unusedVariables false
open Go.RowKit

section
variable {P : Program} {τ : Nat → AV} {η : Heap} {d : Option Tmp} {ty : TypeId} {pos : String} {af : Array Edge} {g : Option (Nat × Bool)}

def partsA (τ : Nat → AV) (parts : Array (Nat × Operand)) : List (Nat × AV) := parts.toList.map fun p => (p.1, aev τ p.2)

theorem parts_rel {C : Ctx} {a : Act} {parts : Array (Nat × Operand)} (h : ∀ p ∈ parts.toList, VR C (aev τ p.2) (a.eval p.2)) :
    (partsA τ parts).map (·.1) = (parts.toList.map fun p => (p.1, a.eval p.2)).map (·.1) ∧ ∀ i (h : i < (partsA τ parts).length) (h' : i < (parts.toList.map fun p => (p.1, a.eval p.2)).length), VR C (partsA τ parts)[i].2 (parts.toList.map fun p => (p.1, a.eval p.2))[i].2 := by
  refine ⟨by simp [partsA, Function.comp_def], fun i hi hi' => ?_⟩
  simp only [partsA, List.getElem_map]
  exact h _ (List.getElem_mem _)

theorem LOp.build {t : Nat} {parts : Array (Nat × Operand)} {z : Value} {pl : List (Nat × Nat)} {out : List AV} (hz : zeroOf P t = some z) (hp : placesOf P t = some pl) (ho : fillA pl (AV.v z).cells (partsA τ parts) = some out) :
    LOp P ⟨d, .build t parts, ty, pos, af, g⟩ τ η [] [] (.agg out) :=
  .look [] fun C a hg hxs _ => by
    obtain ⟨e1, e2⟩ := parts_rel (τ := τ) (C := C) (a := a) (parts := parts) (fun p hp => hxs p.2 (by simp [Op.operands]; exact ⟨_, by simpa using hp⟩))
    obtain ⟨z1, z2⟩ := (VR.v C z).cells rfl
    have hb : ∃ es, P.built t (parts.map fun (i, x) => (i, a.eval x)).toList = some es ∧ out.length = es.size ∧ ∀ i (h : i < out.length) (h' : i < es.size), VR C out[i] es[i] := by
      unfold placesOf at hp
      unfold zeroOf at hz
      unfold Program.built
      cases hi : P.info? t with
      | none => rw [hi] at hz; cases hz
      | some inf =>
        rw [hi] at hz
        simp only [Option.bind_some] at hz
        cases hu : P.underlying t with
        | none => rw [hu] at hp; cases hp
        | some dd =>
          rw [hu] at hp
          cases dd <;> try (simp at hp; done)
          case struct fs =>
            simp only at hp ⊢
            rw [hz, hp]
            simp only
            obtain ⟨es, g1, g2, g3⟩ := fillA_spec (C := C) (pl := pl) (place := fun x => pl.toArray[x]?) (fun i q h => by simpa using h) _ (parts.toList.map fun p => (p.1, a.eval p.2)) _ z.cells out e1 e2 z1 z2 ho
            exact ⟨es, by simpa [Array.toList_map] using g1, g2, g3⟩
          case array n e =>
            simp only at hp ⊢
            cases hie : P.info? e with
            | none => rw [hie] at hp; cases hp
            | some ie =>
              rw [hie] at hp
              simp only [Option.map_some, Option.some.injEq] at hp
              rw [hz]
              simp only
              obtain ⟨es, g1, g2, g3⟩ := fillA_spec (C := C) (pl := pl) (place := fun i => some (i * ie.size, ie.size)) (fun i q h => by
                subst hp
                simp only [List.getElem?_map] at h
                cases hr : (List.range n)[i]? with
                | none => rw [hr] at h; cases h
                | some k =>
                  rw [hr] at h
                  simp only [Option.map_some, Option.some.injEq] at h
                  obtain ⟨_, rfl⟩ := List.getElem?_eq_some_iff.1 hr
                  simp only [List.getElem_range] at h
                  rw [h]) _ (parts.toList.map fun p => (p.1, a.eval p.2)) _ z.cells out e1 e2 z1 z2 ho
              exact ⟨es, by simpa [Array.toList_map] using g1, g2, g3⟩
    obtain ⟨es, g1, g2, g3⟩ := hb
    refine ⟨.agg es, ?_, .agg g2 g3⟩
    simp only [execOp, Sem.run_bind, run_build C.w t _ es g1, Result.andThen_ok, Sem.run_pure]

def zerosA (z : Value) (n : Nat) : List AV := (List.range n).map fun i => .v (z.cells[i % z.cells.size]!)
def slotsOf (len s : Nat) : List (Nat × Nat) := (List.range len).map fun k => (k * s, s)

theorem fill_size : ∀ (xs : List (Nat × Value)) (ds fs : Array Value) (pl : Nat → Option (Nat × Nat)), Instr.fill pl ds xs = some fs → fs.size = ds.size
  | [], ds, fs, pl, h => by simp only [Instr.fill, Option.some.injEq] at h; rw [h]
  | (i, v) :: r, ds, fs, pl, h => by
    simp only [Instr.fill] at h
    cases hp : pl i with
    | none => rw [hp] at h; cases h
    | some q =>
      obtain ⟨off, size⟩ := q
      rw [hp] at h
      simp only at h
      split at h
      · cases h
      · have := fill_size r _ _ _ h
        rw [this, ← Array.foldl_toList, Array.toList_zipIdx]
        have h5 := foldl_setR v.cells.toList ds off 0
        exact (congrArg Array.size h5).trans (setR_size _ _ _)
theorem LOp.buildSlice (u : Nat) {t e len s : Nat} {parts : Array (Nat × Operand)} {z : Value} {out : List AV} (he : P.underlying t = some (.slice e)) (hs : sizeInfo P e = some s) (hz : zeroOf P e = some z) (hl : Nat.ble (len * s) 16777216 = true) (hl2 : Nat.ble len 16777216 = true) (hne : Nat.beq (len * s) 0 = false)
    (ho : fillA (slotsOf len s) (zerosA z (len * s)) (partsA τ parts) = some out) : LOp P ⟨d, .buildSlice t len parts, ty, pos, af, g⟩ τ η [] [(u, some ⟨0, out, s, false⟩)] (.sl u 0 0 len) := by
  intro C a hg hxs _ hnew K Q hK
  have hu : ¬ C.U u := hnew (u, some ⟨0, out, s, false⟩) (by simp) (by simp)
  obtain ⟨e1, e2⟩ := parts_rel (τ := τ) (C := C) (a := a) (parts := parts) (fun p hp => hxs p.2 (by simp [Op.operands]; exact ⟨_, by simpa using hp⟩))
  have hl' := Nat.le_of_ble_eq_true hl
  have hl2' := Nat.le_of_ble_eq_true hl2
  unfold sizeInfo at hs
  unfold zeroOf at hz
  cases hi : P.info? e with
  | none => rw [hi] at hz; cases hz
  | some inf =>
    rw [hi] at hz hs
    simp only [Option.bind_some] at hz
    simp only [Option.map_some, Option.some.injEq] at hs
    subst hs
    let base : Array Value := (Array.range (len * inf.size)).map fun i => z.cells[i % z.cells.size]!
    have z1 : (zerosA z (len * inf.size)).length = base.size := by simp [zerosA, base]
    have z2 : ∀ i (h : i < (zerosA z (len * inf.size)).length) (h' : i < base.size), VR C (zerosA z (len * inf.size))[i] base[i] := fun i h h' => by
      simp only [zerosA, List.getElem_map, List.getElem_range, base, Array.getElem_map, Array.getElem_range]; exact VR.v C _
    obtain ⟨es, g1, g2, g3⟩ := fillA_spec (C := C) (pl := slotsOf len inf.size) (place := fun i => some (i * inf.size, inf.size)) (fun i q h => by
      simp only [slotsOf, List.getElem?_map] at h
      cases hr : (List.range len)[i]? with
      | none => rw [hr] at h; cases h
      | some k =>
        rw [hr] at h
        simp only [Option.map_some, Option.some.injEq] at h
        obtain ⟨_, rfl⟩ := List.getElem?_eq_some_iff.1 hr
        simp only [List.getElem_range] at h
        rw [h]) _ (parts.toList.map fun p => (p.1, a.eval p.2)) _ base out e1 e2 z1 z2 ho
    have gsz : es.size = len * inf.size := by
      rw [fill_size _ _ _ _ g1]; simp [base]
    have hparts : (parts.map fun (i, x) => (i, a.eval x)).toList = parts.toList.map fun p => (p.1, a.eval p.2) := by simp [Array.toList_map]
    have hrun : (execOp a.eval ⟨d, .buildSlice t len parts, ty, pos, af, g⟩).run P C.w = .ok (.value (.slice (some ⟨C.w.heap.size, 0, none⟩) len len)) (C.w.alloc (.cells es e)) := by
      have h0 : ¬ (len * inf.size = 0) := fun e => by rw [e] at hne; cases hne
      simp only [execOp, Instr.buildSlice, Sem.run_bind, run_underlying he, Result.andThen_ok, sizeOf, typeInfo, run_program, hi, Sem.run_pure]
      rw [if_neg (by omega)]
      simp only [h0, if_false, zeroValue, typeInfo, Sem.run_bind, run_program, hi, Sem.run_pure, Result.andThen_ok, hz]
      have : Instr.fill (fun i => some (i * inf.size, inf.size)) ((Array.range (len * inf.size)).map fun i => z.cells[i % z.cells.size]!) (parts.map fun (i, x) => (i, a.eval x)).toList = some es := by rw [hparts]; exact g1
      simp only [this]
      rfl
    unfold Oper.wp
    rw [hrun]
    refine hK _ (C.alloc u es e ⟨0, out, inf.size, false⟩) rfl (fun i => by simp [Ctx.alloc]) (Ctx.alloc_good hg hu rfl (Nat.le_of_eq g2) g3) (Ctx.alloc_ev hg hu rfl) ?_
    have h3 : (C.alloc u es e ⟨0, out, inf.size, false⟩).ρ u = (C.w.heap.size, 0) := by simp [Ctx.alloc]
    have h4 : (C.alloc u es e ⟨0, out, inf.size, false⟩).sz u = es.size := by simp [Ctx.alloc]
    have := VR.sl (C := C.alloc u es e ⟨0, out, inf.size, false⟩) (id := u) (ver := 0) (off := 0) (len := len) (cap := len) (b := ⟨0, out, inf.size, false⟩) (Heap.set_same _ _ _) rfl rfl (Nat.le_refl _) (by unfold maxLen; omega) (by omega)
      (by rw [h3, h4, gsz]; simp)
    rw [h3] at this
    exact this

theorem LOp.buildSlice0 (u : Nat) {t e s : Nat} (he : P.underlying t = some (.slice e)) (hs : sizeInfo P e = some s) : LOp P ⟨d, .buildSlice t 0 #[], ty, pos, af, g⟩ τ η [] [(u, some ⟨0, [], s, false⟩)] (.sl u 0 0 0) := by
  intro C a hg hxs _ hnew K Q hK
  have hu : ¬ C.U u := hnew (u, some ⟨0, [], s, false⟩) (by simp) (by simp)
  unfold sizeInfo at hs
  cases hi : P.info? e with
  | none => rw [hi] at hs; cases hs
  | some inf =>
    have hrun : (execOp a.eval ⟨d, .buildSlice t 0 #[], ty, pos, af, g⟩).run P C.w = .ok (.value (.slice (some ⟨C.w.heap.size, 0, none⟩) 0 0)) (C.w.alloc (.cells #[] e)) := by
      simp [execOp, Instr.buildSlice, run_underlying he, sizeOf, typeInfo, hi, Instr.fill, newRow]
      congr 2
      exact Array.eq_empty_of_size_eq_zero (by simp)
    unfold Oper.wp
    rw [hrun]
    refine hK _ (C.alloc u #[] e ⟨0, [], s, false⟩) rfl (fun i => by simp [Ctx.alloc]) (Ctx.alloc_good hg hu rfl (Nat.le_refl _) (fun j h => by simp at h)) (Ctx.alloc_ev hg hu rfl) ?_
    exact VR.slz (C := C.alloc u #[] e ⟨0, [], s, false⟩) (id := u) (ver := 0) (off := 0) (b := ⟨0, [], s, false⟩) (Heap.set_same _ _ _) rfl rfl

/-! ### Places in slices -/

theorem run_indexAt {t e s : Nat} {k : IntKind} {j len cap b o : Nat} {w : World} (he : P.underlying t = some (.slice e)) (hs : sizeInfo P e = some s) (hj : j < len) :
    (Instr.indexAt t (.slice (some ⟨b, o, none⟩) len cap) (.int k (Int.ofNat j))).run P w = .ok (.pointer (some ⟨b, o + j * s, none⟩)) w := by
  unfold sizeInfo at hs
  cases hi : P.info? e with
  | none => rw [hi] at hs; cases hs
  | some inf =>
    rw [hi] at hs
    simp only [Option.map_some, Option.some.injEq] at hs
    subst hs
    have h0 : (0 : Int) ≤ Int.ofNat j ∧ Int.ofNat j < (len : Int) := ⟨Int.natCast_nonneg j, by show (j : Int) < len; omega⟩
    simp [Instr.indexAt, asIntOf, run_underlying he, hj, sizeOf, typeInfo, hi, Addr.add_mid]

theorem LOp.indexT {α : Type} {t e n : Nat} {x i : Operand} {k : IntKind} {f : α → List AV} {l : List α} {j : Nat} (he : P.underlying t = some (.slice e)) (hs : sizeInfo P e = some n) (hx : aev τ x = .tree n (l.map f)) (hi : aev τ i = .v (.int k (Int.ofNat j))) (hj : j < l.length) :
    LOp P ⟨d, .indexAddr t x i, ty, pos, af, g⟩ τ η [] [] (.tp (f l[j]) 0) :=
  .look [] fun C a hg hxs _ => by
    have h1 := hxs x (by simp [Op.operands])
    have h2 := hxs i (by simp [Op.operands])
    rw [hx] at h1
    rw [hi] at h2
    have h3 := h2.v_inv
    have h4 := h1.tree_inv
    generalize hxe : a.eval x = xv at h4
    generalize hxs' : l.map f = xs at h4
    have hlen : xs.length = l.length := by rw [← hxs']; simp
    cases h4 with
    | tree0 h => simp at hlen; omega
    | tree cell hT c1 c2 c3 c4 c5 c6 =>
      rename_i b off cap
      have hj' : j < xs.length := by omega
      have hget : xs[j] = f l[j] := by subst hxs'; simp
      refine ⟨.pointer (some ⟨b, off + j * n, none⟩), ?_, ?_⟩
      · simp only [execOp, hxe, h3, Sem.run_bind, run_indexAt he hs hj', Result.andThen_ok, Sem.run_pure]
      · rw [← hget]
        have := TR.tp (T := C.T) (w := C.w) (cs := xs[j]) (b := b) (off := off + j * n) (o := 0) (fun q => cell j q) hT (fun q hq => c5 j q hj' (by rw [← c4 j hj']; exact hq)) (fun q hq => c6 j hj' q hq)
        rw [Nat.add_zero] at this
        exact .imm this

theorem LOp.indexS {t e n : Nat} {x i : Operand} {k : IntKind} {id ver off len j : Nat} {b : Blk} (he : P.underlying t = some (.slice e)) (hs : sizeInfo P e = some n) (hx : aev τ x = .sl id ver off len) (hi : aev τ i = .v (.int k (Int.ofNat j))) (hj : j < len)
    (hb : η id = some b) (hv : b.ver = ver) (hn : b.nilp = false) (hz : b.esz = n) : LOp P ⟨d, .indexAddr t x i, ty, pos, af, g⟩ τ η [id] [] (.ptr id ver (off + j * n)) :=
  .look [id] fun C a hg hxs hfp => by
    have hb' : C.η id = some b := (hfp id (by simp)).trans hb
    have h1 := hxs x (by simp [Op.operands])
    have h2 := hxs i (by simp [Op.operands])
    rw [hx] at h1
    rw [hi] at h2
    have h3 := h2.v_inv
    obtain ⟨ad, cap, e1, e2, e3, e4, e5⟩ := h1.sl_inv hb' hv hn
    rcases e5 with ⟨e5, _⟩ | ⟨rfl, e5⟩
    · omega
    refine ⟨.pointer (some ⟨(C.ρ id).1, (C.ρ id).2 + (off + j * n), none⟩), ?_, .ptr hb' hv hn⟩
    simp only [execOp, e1, h3, Sem.run_bind, run_indexAt he hs hj, Result.andThen_ok, Sem.run_pure, Nat.add_assoc]

/-! ### Lengths -/

theorem LOp.lenT {α : Type} {t e n : Nat} {x : Operand} {f : α → List AV} {l : List α} {ats : Array TypeId} (ha : ats[0]? = some t) (he : P.underlying t = some (.slice e)) (hx : aev τ x = .tree n (l.map f)) :
    LOp P ⟨d, .call { callee := .builtin .len, args := #[x], argTypes := ats }, ty, pos, af, g⟩ τ η [] [] (.v (.int .i64 (l.length : Int))) :=
  .look [] fun C a hg hxs _ => by
    have h1 := hxs x (by simp [Op.operands, Call.operands])
    rw [hx] at h1
    have h4 := h1.tree_inv
    generalize hxe : a.eval x = xv at h4
    generalize hxs' : l.map f = xs at h4
    have hlen : xs.length = l.length := by rw [← hxs']; simp
    refine ⟨_, ?_, VR.v C _⟩
    cases h4 with
    | tree0 h => simp at hlen; simp [execOp, hxe, resolve, invoke, builtin, Builtin.len_, ha, run_underlying he, goInt, ← hlen]
    | tree cell hT c1 c2 c3 c4 c5 c6 => simp [execOp, hxe, resolve, invoke, builtin, Builtin.len_, ha, run_underlying he, goInt, hlen]
theorem LOp.lenS {t e : Nat} {x : Operand} {id ver off len : Nat} {b : Blk} {ats : Array TypeId} (ha : ats[0]? = some t) (he : P.underlying t = some (.slice e)) (hx : aev τ x = .sl id ver off len) (hb : η id = some b) (hv : b.ver = ver) :
    LOp P ⟨d, .call { callee := .builtin .len, args := #[x], argTypes := ats }, ty, pos, af, g⟩ τ η [id] [] (.v (.int .i64 (len : Int))) :=
  .look [id] fun C a hg hxs hfp => by
    have hb' : C.η id = some b := (hfp id (by simp)).trans hb
    have h1 := hxs x (by simp [Op.operands, Call.operands])
    rw [hx] at h1
    refine ⟨_, ?_, VR.v C _⟩
    cases hn : b.nilp with
    | false =>
      obtain ⟨ad, cap, e1, _⟩ := h1.sl_inv hb' hv hn
      simp [execOp, e1, resolve, invoke, builtin, Builtin.len_, ha, run_underlying he, goInt]
    | true =>
      generalize hxe : a.eval x = xv at h1
      cases h1 with
      | imm h => cases h
      | sl hb2 _ hn2 => rw [hb'] at hb2; cases hb2; rw [hn] at hn2; cases hn2
      | slz hb2 _ hn2 => rw [hb'] at hb2; cases hb2; rw [hn] at hn2; cases hn2
      | slnil => simp [execOp, hxe, resolve, invoke, builtin, Builtin.len_, ha, run_underlying he, goInt]
      | stales _ _ hs => have := hs b hb'; omega
end
end Go.Proofs.Ytcbpakbhklbdnaa
