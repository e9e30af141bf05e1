/- What an operation does, said of plain values: the operations that write or make memory; places in slices; parts of values. -/
import Derived.Test.YtcbpakbhklbdnaaAS4
namespace Go.Proofs.Ytcbpakbhklbdnaa
set_option linter.unusedVariables false
open Go.RowKit

def sizeInfo (P : Program) (t : Nat) : Option Nat := (P.info? t).map (·.size)
def zeroOf (P : Program) (t : Nat) : Option Value := (P.info? t).bind (·.zero)

theorem run_storeAt' {P : Program} {t n b o : Nat} {w : World} {x : Value} (hs : sizeInfo P t = some n) (hn : x.cells.size = n) (h1 : ∀ v ∈ x.cells.toList, v.oneCell' = true)
    (hc : ∀ j, j < n → (w.cell? ⟨b, o + j, none⟩).isSome = true) (hf : ∀ j, j < n → w.frozen? ⟨b, o + j, none⟩ = false) :
    (Instr.storeAt t (.pointer (some ⟨b, o, none⟩)) x).run P w = .ok () (w.setCells b o x.cells.toList) := by
  unfold sizeInfo at hs
  cases hi : P.info? t with
  | none => rw [hi] at hs; cases hs
  | some inf =>
    rw [hi] at hs
    simp only [Option.map_some, Option.some.injEq] at hs
    have := run_storeCells_cells (P := P) b o x.cells.toList 0 w (fun j hj => by simpa using hc j (by simp at hj; omega)) (fun j hj => by simpa using hf j (by simp at hj; omega)) h1
    simp only [Nat.add_zero] at this
    simp [Instr.storeAt, Instr.sureAddr, storeVar, sizeOf, typeInfo, hi, hs, hn, this]

section
variable {P : Program} {τ : Nat → AV} {η : Heap} {d : Option Tmp} {ty : TypeId} {pos : String} {af : Array Edge} {g : Option (Nat × Bool)}

theorem LOp.store {t n : Nat} {x y : Operand} {id ver o : Nat} {b : Blk} (hs : sizeInfo P t = some n) (hx : aev τ x = .ptr id ver o) (hb : η id = some b) (hv : b.ver = ver) (hn : b.nilp = false)
    (hk : (aev τ y).known = true) (hl : (aev τ y).cells.length = n) (h1 : (aev τ y).cells.all AV.one = true) (hc : o + n ≤ b.cs.length) :
    LOp P ⟨d, .store t x y, ty, pos, af, g⟩ τ η [id] [(id, some { b with cs := setRange b.cs o (aev τ y).cells })] (.v undef) := by
  intro C a hg hxs hfp hnew K Q hK
  have hb' : C.η id = some b := (hfp id (by simp)).trans hb
  have e1 := hxs x (by simp [Op.operands])
  rw [hx] at e1
  have e2 := e1.ptr_inv hb' hv
  obtain ⟨e3, e4⟩ := (hxs y (by simp [Op.operands])).cells hk
  generalize hyv : a.eval y = yv at e3 e4
  obtain ⟨c, t', g1, g2, g3, g4⟩ := hg.blk hb' hn
  have hcell : ∀ j, j < n → (C.w.cell? ⟨(C.ρ id).1, (C.ρ id).2 + o + j, none⟩).isSome = true := by
    intro j hj
    have : (C.ρ id).2 + o + j < c.size := by omega
    simp [World.cell?, g1, this]
  have hone : ∀ v ∈ yv.cells.toList, v.oneCell' = true := by
    intro v hm
    obtain ⟨i, hi, rfl⟩ := List.getElem_of_mem hm
    have hi' : i < yv.cells.size := by simpa using hi
    have := (e4 i (by omega) hi').one (List.all_eq_true.1 h1 _ (List.getElem_mem _))
    simpa using this
  unfold Oper.wp
  simp only [execOp, e2, hyv, Sem.run_bind, run_storeAt' hs (by omega) hone hcell (fun j _ => by simp [World.frozen?, g1]), Result.andThen_ok, Sem.run_pure]
  have hlen : yv.cells.toList.length = (aev τ y).cells.length := by simp; omega
  have := hK undef (C.store id b o (aev τ y).cells yv.cells.toList) rfl (fun i => by simp [Ctx.store]; rintro rfl; exact hg.used hb') (Ctx.store_good hg hb' hn (by omega) hlen (fun i h h' => by have := e4 i h (by simpa using h'); simpa using this))
    (Ctx.store_ev hg hb' hn) (VR.v _ _)
  exact this

theorem run_newVar' (t : TypeId) (x : Value) (w : World) : (newVar t x).run P w = .ok ⟨w.heap.size, 0, none⟩ (w.alloc (.cells x.cells t)) := by
  rfl

/-- A new variable that holds x. -/
theorem LOp.new_of {o : Oper} (u : Nat) {v : AV} {t : Nat} (hk : v.known = true)
    (h : ∀ (C : Ctx) (a : Act), Good C → (∀ x ∈ o.op.operands, VR C (aev τ x) (a.eval x)) → ∃ x, VR C v x ∧ (execOp a.eval o).run P C.w = .ok (.value (.pointer (some ⟨C.w.heap.size, 0, none⟩))) (C.w.alloc (.cells x.cells t))) :
    LOp P o τ η [] [(u, some ⟨0, v.cells, 0, false⟩)] (.ptr u 0 0) := by
  intro C a hg hxs _ hnew K Q hK
  have hu : ¬ C.U u := hnew (u, some ⟨0, v.cells, 0, false⟩) (by simp) (by simp)
  obtain ⟨x, hv, hr⟩ := h C a hg hxs
  obtain ⟨e1, e2⟩ := hv.cells hk
  unfold Oper.wp
  rw [hr]
  refine hK _ (C.alloc u x.cells t ⟨0, v.cells, 0, false⟩) rfl (fun i => by simp [Ctx.alloc]) (Ctx.alloc_good hg hu rfl (Nat.le_of_eq e1) e2) (Ctx.alloc_ev hg hu rfl) ?_
  have h3 : (C.alloc u x.cells t ⟨0, v.cells, 0, false⟩).ρ u = (C.w.heap.size, 0) := by simp [Ctx.alloc]
  have := VR.ptr (C := C.alloc u x.cells t ⟨0, v.cells, 0, false⟩) (id := u) (ver := 0) (off := 0) (b := ⟨0, v.cells, 0, false⟩) (Heap.set_same _ _ _) rfl rfl
  rw [h3] at this
  exact this

theorem LOp.box (u : Nat) {t : Nat} {x : Operand} (hk : (aev τ x).known = true) : LOp P ⟨d, .box t x, ty, pos, af, g⟩ τ η [] [(u, some ⟨0, (aev τ x).cells, 0, false⟩)] (.ptr u 0 0) :=
  .new_of (t := t) u hk fun C a hg hxs => ⟨a.eval x, hxs x (by simp [Op.operands]), by simp [execOp, Instr.box, run_newVar']⟩
theorem LOp.alloc (u : Nat) {t : Nat} {z : Value} (hz : zeroOf P t = some z) : LOp P ⟨d, .alloc t, ty, pos, af, g⟩ τ η [] [(u, some ⟨0, (AV.v z).cells, 0, false⟩)] (.ptr u 0 0) :=
  .new_of (t := t) u rfl fun C a hg hxs => ⟨z, VR.v C z, by
    unfold zeroOf at hz
    cases hi : P.info? t with
    | none => rw [hi] at hz; cases hz
    | some inf =>
      rw [hi] at hz
      simp only [Option.bind_some] at hz
      simp [execOp, Instr.alloc, zeroValue, typeInfo, hi, hz, run_newVar']⟩

/-! ### Values out of parts -/

/-- Where the parts of a type lie. -/
def placesOf (P : Program) (t : Nat) : Option (List (Nat × Nat)) := match P.underlying t with
  | some (.struct fs) => fs.toList.mapM fun f => (P.info? f.type).map fun i => (f.offset, i.size)
  | some (.array n e) => (P.info? e).map fun i => (List.range n).map fun k => (k * i.size, i.size)
  | _ => none

def fillA (pl : List (Nat × Nat)) : List AV → List (Nat × AV) → Option (List AV)
  | cells, [] => some cells
  | cells, (i, v) :: r => match pl[i]? with
    | none => none
    | some (off, size) => bif v.known && Nat.beq v.cells.length size && Nat.ble (off + size) cells.length then fillA pl (setRange cells off v.cells) r else none

theorem foldl_setR : ∀ (xs : List Value) (cs : Array Value) (o k : Nat), (xs.zipIdx k).foldl (fun cs (p : Value × Nat) => cs.setIfInBounds (o + p.2) p.1) cs = setR cs (o + k) xs
  | [], _, _, _ => rfl
  | v :: r, cs, o, k => by
    simp only [List.zipIdx_cons, List.foldl_cons]
    rw [foldl_setR r _ o (k + 1)]
    rfl

/-- Some cells in the place of others. -/
theorem VR.setR {C : Ctx} {cs vs : List AV} {ds : Array Value} {xs : List Value} {o : Nat} (h1 : cs.length = ds.size) (h2 : ∀ i (h : i < cs.length) (h' : i < ds.size), VR C cs[i] ds[i])
    (h3 : vs.length = xs.length) (h4 : ∀ i (h : i < vs.length) (h' : i < xs.length), VR C vs[i] xs[i]) (ho : o + vs.length ≤ cs.length) :
    (setRange cs o vs).length = (setR ds o xs).size ∧ ∀ i (h : i < (setRange cs o vs).length) (h' : i < (Go.Proofs.Ytcbpakbhklbdnaa.setR ds o xs).size), VR C (setRange cs o vs)[i] (Go.Proofs.Ytcbpakbhklbdnaa.setR ds o xs)[i] := by
  refine ⟨by rw [setRange_length ho, setR_size]; exact h1, fun i h h' => ?_⟩
  have hi : i < cs.length := by rw [setRange_length ho] at h; exact h
  by_cases hin : o ≤ i ∧ i < o + vs.length
  · obtain ⟨k, rfl⟩ : ∃ k, i = o + k := ⟨i - o, by omega⟩
    have hk : k < vs.length := by omega
    have e1 : (setRange cs o vs)[o + k]? = vs[k]? := by
      simp only [setRange]
      rw [List.getElem?_append_left (by simp; omega), List.getElem?_append_right (by simp; omega)]
      congr 1
      simp; omega
    have e2 := setR_in xs ds o k (by omega) (by omega)
    rw [List.getElem?_eq_getElem h, List.getElem?_eq_getElem hk] at e1
    rw [Array.getElem?_eq_getElem h', List.getElem?_eq_getElem (by omega)] at e2
    rw [Option.some.inj e1, Option.some.inj e2]
    exact h4 k hk (by omega)
  · have e1 : (setRange cs o vs)[i]? = cs[i]? := by
      simp only [setRange]
      by_cases hjo : i < o
      · rw [List.getElem?_append_left (by simp; omega), List.getElem?_append_left (by simp; omega), List.getElem?_take_of_lt hjo]
      · rw [List.getElem?_append_right (by simp; omega), List.getElem?_drop]
        congr 1
        simp; omega
    have e2 := setR_out xs ds o i (by omega)
    rw [List.getElem?_eq_getElem h, List.getElem?_eq_getElem hi] at e1
    rw [Array.getElem?_eq_getElem h', Array.getElem?_eq_getElem (by omega)] at e2
    rw [Option.some.inj e1, Option.some.inj e2]
    exact h2 i hi (by omega)

theorem fillA_spec {C : Ctx} {pl : List (Nat × Nat)} {place : Nat → Option (Nat × Nat)} (hp : ∀ i q, pl[i]? = some q → place i = some q) : ∀ (ps : List (Nat × AV)) (xs : List (Nat × Value)) (cs : List AV) (ds : Array Value) (out : List AV),
    ps.map (·.1) = xs.map (·.1) → (∀ i (h : i < ps.length) (h' : i < xs.length), VR C ps[i].2 xs[i].2) → cs.length = ds.size → (∀ i (h : i < cs.length) (h' : i < ds.size), VR C cs[i] ds[i]) → fillA pl cs ps = some out →
    ∃ es, Instr.fill place ds xs = some es ∧ out.length = es.size ∧ ∀ i (h : i < out.length) (h' : i < es.size), VR C out[i] es[i]
  | [], [], cs, ds, out, _, _, h1, h2, h => by
    simp only [fillA, Option.some.injEq] at h
    subst h
    exact ⟨ds, rfl, h1, h2⟩
  | [], x :: r, _, _, _, h, _, _, _, _ => by simp at h
  | p :: r, [], _, _, _, h, _, _, _, _ => by simp at h
  | (i, v) :: r, (j, x) :: r', cs, ds, out, hm, hv, h1, h2, h => by
    simp only [List.map_cons, List.cons.injEq] at hm
    obtain ⟨rfl, hm⟩ := hm
    simp only [fillA] at h
    cases hpl : pl[i]? with
    | none => rw [hpl] at h; cases h
    | some q =>
      obtain ⟨off, size⟩ := q
      rw [hpl] at h
      simp only at h
      cases hc : (v.known && Nat.beq v.cells.length size && Nat.ble (off + size) cs.length) with
      | false => rw [hc] at h; cases h
      | true =>
        rw [hc] at h
        simp only [cond_true] at h
        simp only [Bool.and_eq_true] at hc
        obtain ⟨⟨hk, hl⟩, hle⟩ := hc
        have hl' := Nat.eq_of_beq_eq_true hl
        have hle' := Nat.le_of_ble_eq_true hle
        obtain ⟨e1, e2⟩ := (hv 0 (by simp) (by simp)).cells hk
        simp only [List.getElem_cons_zero] at e1 e2
        obtain ⟨f1, f2⟩ := VR.setR (o := off) h1 h2 (xs := x.cells.toList) (vs := v.cells) (by simp; omega) (fun i h h' => by have := e2 i h (by simpa using h'); simpa using this) (by omega)
        obtain ⟨es, g1, g2, g3⟩ := fillA_spec hp r r' _ _ out hm (fun i h h' => by have := hv (i + 1) (by simpa using h) (by simpa using h'); simpa using this) f1 f2 h
        refine ⟨es, ?_, g2, g3⟩
        simp only [Instr.fill, hp i _ hpl]
        rw [if_neg (by simp; omega)]
        have h5 := foldl_setR x.cells.toList ds off 0
        simp only [Nat.add_zero] at h5
        rw [← g1]
        congr 1
        rw [← h5, ← Array.foldl_toList]
        simp only [Array.toList_zipIdx]
end
end Go.Proofs.Ytcbpakbhklbdnaa
