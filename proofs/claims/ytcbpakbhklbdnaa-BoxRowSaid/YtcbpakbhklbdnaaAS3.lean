/- What an operation does, said of plain values: addresses, reading, writing, new blocks. -/
import Derived.Test.YtcbpakbhklbdnaaAS2
namespace Go.Proofs.Ytcbpakbhklbdnaa
set_option linter.unusedVariables false
open Go.RowKit

/-! ### Reading a value back -/

theorem VR.ptr_inv {C : Ctx} {id ver off : Nat} {b : Blk} {x : Value} (h : VR C (.ptr id ver off) x) (hb : C.η id = some b) (hv : b.ver = ver) : x = .pointer (some ⟨(C.ρ id).1, (C.ρ id).2 + off, none⟩) := by
  cases h with
  | imm h => cases h
  | ptr _ _ _ => rfl
  | stalep _ _ hs => have := hs b hb; omega
theorem VR.sl_inv {C : Ctx} {id ver off len : Nat} {b : Blk} {x : Value} (h : VR C (.sl id ver off len) x) (hb : C.η id = some b) (hv : b.ver = ver) (hn : b.nilp = false) :
    ∃ a cap, x = .slice (some a) len cap ∧ len ≤ cap ∧ cap ≤ maxLen ∧ len ≤ 140737488355328 ∧ (len = 0 ∧ cap = 0 ∨ a = ⟨(C.ρ id).1, (C.ρ id).2 + off, none⟩ ∧ (C.ρ id).2 + off + cap * b.esz ≤ C.sz id) := by
  cases h with
  | imm h => cases h
  | sl hb' _ hn' h1 h2 h3 h4 => rw [hb] at hb'; cases hb'; exact ⟨_, _, rfl, h1, h2, h3, .inr ⟨rfl, h4⟩⟩
  | slz => exact ⟨_, 0, rfl, Nat.le_refl _, Nat.zero_le _, Nat.zero_le _, .inl ⟨rfl, rfl⟩⟩
  | slnil hb' _ hn' => rw [hb] at hb'; cases hb'; rw [hn] at hn'; cases hn'
  | stales _ _ hs => have := hs b hb; omega
theorem VR.tree_inv {C : Ctx} {n : Nat} {xs : List (List AV)} {x : Value} (h : VR C (.tree n xs) x) : TR C.T C.w (.tree n xs) x := by
  cases h with
  | imm h => exact h
theorem VR.tp_inv {C : Ctx} {cs : List AV} {off : Nat} {x : Value} (h : VR C (.tp cs off) x) : TR C.T C.w (.tp cs off) x := by
  cases h with
  | imm h => exact h
theorem VR.agg_inv {C : Ctx} {cs : List AV} {x : Value} (h : VR C (.agg cs) x) : ∃ vs, x = .agg vs ∧ cs.length = vs.size ∧ ∀ i (h : i < cs.length) (h' : i < vs.size), VR C cs[i] vs[i] := by
  cases h with
  | imm h => cases h with
    | agg hl hi => exact ⟨_, rfl, hl, fun i h h' => .imm (hi i h h')⟩
  | agg hl hi => exact ⟨_, rfl, hl, hi⟩
theorem VR.tup_inv {C : Ctx} {cs : List AV} {x : Value} (h : VR C (.tup cs) x) : ∃ vs, x = .tuple vs ∧ cs.length = vs.size ∧ ∀ i (h : i < cs.length) (h' : i < vs.size), VR C cs[i] vs[i] := by
  cases h with
  | imm h => cases h with
    | tup hl hi => exact ⟨_, rfl, hl, fun i h h' => .imm (hi i h h')⟩
  | tup hl hi => exact ⟨_, rfl, hl, hi⟩
theorem VR.clo_inv {C : Ctx} {f : FuncId} {cs : List AV} {x : Value} (h : VR C (.clo f cs) x) : ∃ vs, x = .func (.func f) #[] vs ∧ cs.length = vs.size ∧ ∀ i (h : i < cs.length) (h' : i < vs.size), VR C cs[i] vs[i] := by
  cases h with
  | imm h => cases h with
    | clo hl hi => exact ⟨_, rfl, hl, fun i h h' => .imm (hi i h h')⟩
  | clo hl hi => exact ⟨_, rfl, hl, hi⟩

/-- The cells of a value. -/
def AV.cells : AV → List AV
  | .agg cs => cs
  | .v (.agg cs) => cs.toList.map .v
  | a => [a]
def AV.known : AV → Bool
  | .unk => false
  | _ => true
def AV.one : AV → Bool
  | .v x => x.oneCell'
  | .agg _ | .tup _ | .unk => false
  | _ => true
theorem VR.one {C : Ctx} {a : AV} {x : Value} (h : VR C a x) (h1 : a.one = true) : x.oneCell' = true := by
  cases h with
  | imm h => cases h <;> first | rfl | exact h1 | cases h1
  | stalep h => exact h
  | stales h => exact h
  | agg => cases h1
  | tup => cases h1
  | _ => rfl
theorem VR.cells {C : Ctx} {a : AV} {x : Value} (h : VR C a x) (hk : a.known = true) : a.cells.length = x.cells.size ∧ ∀ i (h : i < a.cells.length) (h' : i < x.cells.size), VR C a.cells[i] x.cells[i] := by
  have one : ∀ {a : AV} {x : Value}, VR C a x → a.cells = [a] → x.cells = #[x] → a.cells.length = x.cells.size ∧ ∀ i (h : i < a.cells.length) (h' : i < x.cells.size), VR C a.cells[i] x.cells[i] := by
    intro a x h e1 e2
    refine ⟨by rw [e1, e2]; rfl, fun i hi hi' => ?_⟩
    have : i = 0 := by rw [e1] at hi; simp at hi; omega
    subst this
    simp only [e1, e2]
    exact h
  have h0 := h
  cases h with
  | imm h => cases h with
    | v x =>
      cases x with
      | agg vs => exact ⟨by simp [AV.cells, Value.cells], fun i hi hi' => by simp [AV.cells, Value.cells]; exact VR.v C _⟩
      | _ => exact one h0 rfl rfl
    | unk => cases hk
    | agg hl hi => exact ⟨hl, fun i h h' => .imm (hi i h h')⟩
    | _ => exact one h0 rfl rfl
  | agg hl hi => exact ⟨hl, hi⟩
  | stalep h => exact one h0 rfl (by cases x <;> first | rfl | cases h)
  | stales h => exact one h0 rfl (by cases x <;> first | rfl | cases h)
  | _ => exact one h0 rfl rfl

/-! ### Addresses -/

/-- Where a field lies, and how many cells it has. -/
def fieldInfo (P : Program) (t i : Nat) : Option (Nat × Nat) := match P.underlying t with
  | some (.struct fs) => (fs[i]?).bind fun f => (P.info? f.type).map fun inf => (f.offset, inf.size)
  | _ => none

theorem run_fieldAt' {P : Program} {t i off sz : Nat} (h : fieldInfo P t i = some (off, sz)) (hz : sz ≠ 0) (b o : Nat) (w : World) :
    (Instr.fieldAt t (.pointer (some ⟨b, o, none⟩)) i).run P w = .ok (.pointer (some ⟨b, o + off, none⟩)) w := by
  unfold fieldInfo at h
  cases hu : P.underlying t with
  | none => rw [hu] at h; cases h
  | some d =>
    rw [hu] at h
    cases d with
    | struct fs =>
      simp only at h
      cases hf : fs[i]? with
      | none => rw [hf] at h; cases h
      | some f =>
        rw [hf] at h
        simp only [Option.bind_some] at h
        cases hi : P.info? f.type with
        | none => rw [hi] at h; cases h
        | some inf =>
          rw [hi] at h
          simp only [Option.map_some, Option.some.injEq, Prod.mk.injEq] at h
          obtain ⟨rfl, rfl⟩ := h
          simp [Instr.fieldAt, run_underlying hu, hf, Instr.sureAddr, fieldPlace, sizeOf, typeInfo, hi, hz, Addr.add_mid]
    | _ => cases h

section
variable {P : Program} {τ : Nat → AV} {η : Heap} {d : Option Tmp} {ty : TypeId} {pos : String} {af : Array Edge} {g : Option (Nat × Bool)}

theorem LOp.fieldAddr {t i off sz : Nat} {x : Operand} {id ver o : Nat} {b : Blk} (hf : fieldInfo P t i = some (off, sz)) (hz : Nat.beq sz 0 = false) (hx : aev τ x = .ptr id ver o) (hb : η id = some b) (hv : b.ver = ver) (hn : b.nilp = false) :
    LOp P ⟨d, .fieldAddr t x i, ty, pos, af, g⟩ τ η [id] [] (.ptr id ver (o + off)) :=
  .look [id] fun C a hg hxs hfp => by
    have hb' : C.η id = some b := (hfp id (by simp)).trans hb
    have h1 := hxs x (by simp [Op.operands])
    rw [hx] at h1
    have h2 := h1.ptr_inv hb' hv
    refine ⟨.pointer (some ⟨(C.ρ id).1, (C.ρ id).2 + (o + off), none⟩), ?_, .ptr hb' hv hn⟩
    have hz' : sz ≠ 0 := fun e => by rw [e] at hz; cases hz
    simp [execOp, h2, run_fieldAt' hf hz', Nat.add_assoc]
theorem LOp.fieldAddrT {t i off sz : Nat} {x : Operand} {cs : List AV} {o : Nat} (hf : fieldInfo P t i = some (off, sz)) (hz : Nat.beq sz 0 = false) (hx : aev τ x = .tp cs o) :
    LOp P ⟨d, .fieldAddr t x i, ty, pos, af, g⟩ τ η [] [] (.tp cs (o + off)) :=
  .look [] fun C a hg hxs hfp => by
    have h1 := hxs x (by simp [Op.operands])
    rw [hx] at h1
    have hz' : sz ≠ 0 := fun e => by rw [e] at hz; cases hz
    have h2 := h1.tp_inv
    generalize hxe : a.eval x = xv at h2
    cases h2 with
    | tp cell hT hc hr =>
      rename_i bb base
      refine ⟨.pointer (some ⟨bb, base + (o + off), none⟩), ?_, .imm (.tp cell hT hc hr)⟩
      simp [execOp, hxe, run_fieldAt' hf hz', Nat.add_assoc]

/-! ### Reading -/

/-- How a type is read: none: one cell; some n: n cells. -/
def rowOf (P : Program) (t : Nat) : Option (Option Nat) := match P.underlying t, P.info? t with
  | some (.struct _), some i => some (some i.size)
  | some (.array _ _), some i => some (some i.size)
  | some (.struct _), none => none
  | some (.array _ _), none => none
  | some _, _ => some none
  | none, _ => none

theorem run_loadAt1 {t : Nat} (h : rowOf P t = some none) {b o : Nat} {w : World} {x : Value} (hc : w.cell? ⟨b, o, none⟩ = some x) :
    (Instr.loadAt t (.pointer (some ⟨b, o, none⟩))).run P w = .ok x w := by
  unfold rowOf at h
  cases hu : P.underlying t with
  | none => rw [hu] at h; cases hi : P.info? t <;> rw [hi] at h <;> cases h
  | some dd =>
    rw [hu] at h
    cases dd <;> first
      | (simp [Instr.loadAt, Instr.sureAddr, loadVar, isAgg, run_underlying hu, run_load, hc]; done)
      | (cases hi : P.info? t <;> rw [hi] at h <;> simp at h)
theorem run_loadAtN {t n : Nat} (h : rowOf P t = some (some n)) {b o : Nat} {w : World} {cs : List Value} (hl : cs.length = n) (hc : ∀ j v, cs[j]? = some v → w.cell? ⟨b, o + j, none⟩ = some v) :
    (Instr.loadAt t (.pointer (some ⟨b, o, none⟩))).run P w = .ok (.agg cs.toArray) w := by
  unfold rowOf at h
  cases hu : P.underlying t with
  | none => rw [hu] at h; cases hi : P.info? t <;> rw [hi] at h <;> cases h
  | some dd =>
    rw [hu] at h
    cases dd <;> first
      | (cases hi : P.info? t with
         | none => rw [hi] at h; cases h
         | some inf =>
           rw [hi] at h
           simp only [Option.some.injEq] at h
           exact run_loadAt_mid w b o t cs _ hc hu rfl (by rw [hi]; simp; omega))
      | (cases hi : P.info? t <;> rw [hi] at h <;> simp at h)

theorem Good.cell {C : Ctx} (hg : Good C) {id : Nat} {b : Blk} (hb : C.η id = some b) (hn : b.nilp = false) {j : Nat} (hj : j < b.cs.length) :
    ∃ x, C.w.cell? ⟨(C.ρ id).1, (C.ρ id).2 + j, none⟩ = some x ∧ VR C b.cs[j] x := by
  obtain ⟨cells, t, h1, h2, h3, h4⟩ := hg.blk hb hn
  have hlt : (C.ρ id).2 + j < cells.size := by omega
  exact ⟨cells[(C.ρ id).2 + j], by simp [World.cell?, h1, hlt], h4 j hj hlt⟩

theorem choose_cells {n : Nat} {p : Nat → Value → Prop} (h : ∀ j, j < n → ∃ x, p j x) : ∃ f : Nat → Value, ∀ j, j < n → p j (f j) :=
  ⟨fun j => if hj : j < n then Classical.choose (h j hj) else undef, fun j hj => by simp only [hj, dif_pos]; exact Classical.choose_spec (h j hj)⟩

theorem LOp.load1 {t : Nat} {x : Operand} {id ver o : Nat} {b : Blk} {v : AV} (ht : rowOf P t = some none) (hx : aev τ x = .ptr id ver o) (hb : η id = some b) (hv : b.ver = ver) (hn : b.nilp = false) (hc : b.cs[o]? = some v) :
    LOp P ⟨d, .load t x, ty, pos, af, g⟩ τ η [id] [] v :=
  .look [id] fun C a hg hxs hfp => by
    have hb' : C.η id = some b := (hfp id (by simp)).trans hb
    have h1 := hxs x (by simp [Op.operands])
    rw [hx] at h1
    have h2 := h1.ptr_inv hb' hv
    obtain ⟨hlt, hc'⟩ := List.getElem?_eq_some_iff.1 hc
    obtain ⟨y, hy, hvy⟩ := hg.cell hb' hn hlt
    rw [hc'] at hvy
    refine ⟨y, ?_, hvy⟩
    simp [execOp, h2, run_loadAt1 ht hy]
theorem LOp.loadN {t n : Nat} {x : Operand} {id ver o : Nat} {b : Blk} (ht : rowOf P t = some (some n)) (hx : aev τ x = .ptr id ver o) (hb : η id = some b) (hv : b.ver = ver) (hn : b.nilp = false) (hc : o + n ≤ b.cs.length) :
    LOp P ⟨d, .load t x, ty, pos, af, g⟩ τ η [id] [] (.agg ((b.cs.drop o).take n)) :=
  .look [id] fun C a hg hxs hfp => by
    have hb' : C.η id = some b := (hfp id (by simp)).trans hb
    have h1 := hxs x (by simp [Op.operands])
    rw [hx] at h1
    have h2 := h1.ptr_inv hb' hv
    obtain ⟨f, hf⟩ := choose_cells (n := n) (p := fun j y => C.w.cell? ⟨(C.ρ id).1, (C.ρ id).2 + o + j, none⟩ = some y ∧ VR C (b.cs.getD (o + j) .unk) y) (fun j hj => by
      obtain ⟨y, hy, hvy⟩ := hg.cell hb' hn (j := o + j) (by omega)
      refine ⟨y, by rw [Nat.add_assoc]; exact hy, ?_⟩
      have : b.cs.getD (o + j) .unk = b.cs[o + j]'(by omega) := by simp [List.getD, show o + j < b.cs.length by omega]
      rw [this]; exact hvy)
    have hlen : ((List.range n).map f).length = n := by simp
    refine ⟨.agg ((List.range n).map f).toArray, ?_, .agg (by simp; omega) (fun i hi hi' => ?_)⟩
    · simp only [execOp, h2, Sem.run_bind, run_loadAtN ht hlen (fun j v hj => by
        obtain ⟨hlt, he⟩ := List.getElem?_eq_some_iff.1 hj
        simp only [List.getElem_map, List.getElem_range] at he
        subst he
        exact (hf j (by simpa using hlt)).1), Result.andThen_ok, Sem.run_pure]
    · have hin : i < n := by simp at hi'; exact hi'
      simp only [List.getElem_toArray, List.getElem_map, List.getElem_range, List.getElem_take, List.getElem_drop]
      have := (hf i hin).2
      simpa [List.getD, show o + i < b.cs.length by omega] using this
theorem LOp.loadT1 {t : Nat} {x : Operand} {cs : List AV} {o : Nat} {v : AV} (ht : rowOf P t = some none) (hx : aev τ x = .tp cs o) (hc : cs[o]? = some v) :
    LOp P ⟨d, .load t x, ty, pos, af, g⟩ τ η [] [] v :=
  .look [] fun C a hg hxs hfp => by
    have h1 := hxs x (by simp [Op.operands])
    rw [hx] at h1
    have h2 := h1.tp_inv
    generalize hxe : a.eval x = xv at h2
    obtain ⟨hlt, hc'⟩ := List.getElem?_eq_some_iff.1 hc
    cases h2 with
    | tp cell hT hcl hr =>
      refine ⟨cell o, ?_, ?_⟩
      · simp [execOp, hxe, run_loadAt1 ht (hcl o hlt)]
      · have := hr o hlt
        rw [hc'] at this
        exact .imm this
theorem LOp.loadTN {t n : Nat} {x : Operand} {cs : List AV} {o : Nat} (ht : rowOf P t = some (some n)) (hx : aev τ x = .tp cs o) (hc : o + n ≤ cs.length) :
    LOp P ⟨d, .load t x, ty, pos, af, g⟩ τ η [] [] (.agg ((cs.drop o).take n)) :=
  .look [] fun C a hg hxs hfp => by
    have h1 := hxs x (by simp [Op.operands])
    rw [hx] at h1
    have h2 := h1.tp_inv
    generalize hxe : a.eval x = xv at h2
    cases h2 with
    | tp cell hT hcl hr =>
      have hlen : ((List.range n).map fun j => cell (o + j)).length = n := by simp
      refine ⟨.agg ((List.range n).map fun j => cell (o + j)).toArray, ?_, .agg (by simp; omega) (fun i hi hi' => ?_)⟩
      · simp only [execOp, hxe, Sem.run_bind, run_loadAtN ht hlen (fun j v hj => by
          obtain ⟨hlt, he⟩ := List.getElem?_eq_some_iff.1 hj
          simp only [List.getElem_map, List.getElem_range] at he
          subst he
          rw [Nat.add_assoc]
          exact hcl (o + j) (by simp at hlt; omega)), Result.andThen_ok, Sem.run_pure]
      · have hin : i < n := by simp at hi'; exact hi'
        simp only [List.getElem_toArray, List.getElem_map, List.getElem_range, List.getElem_take, List.getElem_drop]
        exact .imm (hr (o + i) (by omega))
end
end Go.Proofs.Ytcbpakbhklbdnaa
