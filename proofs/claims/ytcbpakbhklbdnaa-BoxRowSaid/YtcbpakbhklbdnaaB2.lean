/- Rows of values and boxes as plain data; how the given arguments read as such. -/
import Derived.Test.YtcbpakbhklbdnaaB1
import Derived.Test.YtcbpakbhklbdnaaOpen
import Derived.Lib.SmallJoins
namespace Go.Proofs.Ytcbpakbhklbdnaa
open Go.ChangeShapes Go.WideShapes Go.ChangeAt Go.RowKit Go.Joins
set_option linter.unusedVariables false

structure PVal where
  kind : Int
  int : Int
  text : ByteArray
def PVal.cells (s : PVal) : List Value := [.int .i64 s.kind, .int .i64 s.int, .string s.text]
structure PVal.Wf (s : PVal) : Prop where
  k1 : -9223372036854775808 ≤ s.kind
  k2 : s.kind ≤ 9223372036854775807
  i1 : -9223372036854775808 ≤ s.int
  i2 : s.int ≤ 9223372036854775807
  t : s.text.size ≤ 140737488355328
def valRep : Rep PVal := .flatW 3 PVal.cells PVal.Wf (fun _ => rfl)

theorem SliceRep.val {S : Nat → Prop} {w : World} {vs : List PVal} {a : Option Addr} {n cap : Nat} (h : SliceRep valRep S w vs (.slice a n cap)) (k : Nat) (hk : k < vs.length) :
    ∃ b off, a = some ⟨b, off, none⟩ ∧ S b ∧ vs[k].Wf ∧ w.cell? ⟨b, off + k * 3, none⟩ = some (.int .i64 vs[k].kind) ∧ w.cell? ⟨b, off + k * 3 + 1, none⟩ = some (.int .i64 vs[k].int) ∧ w.cell? ⟨b, off + k * 3 + 2, none⟩ = some (.string vs[k].text) := by
  obtain ⟨b, off, l, ha, hb, ⟨hl, hw⟩, hc⟩ := h.at k hk
  subst hl
  exact ⟨b, off, ha, hb, hw, hc 0 (by simp [PVal.cells]), hc 1 (by simp [PVal.cells]), hc 2 (by simp [PVal.cells])⟩

theorem list3 {α : Type} {l : List α} (h : l.length = 3) : ∃ a b c, l = [a, b, c] := by
  match l, h with
  | [a, b, c], _ => exact ⟨a, b, c, rfl⟩
theorem list6 {α : Type} {l : List α} (h : l.length = 6) : ∃ a b c d e f, l = [a, b, c, d, e, f] := by
  match l, h with
  | [a, b, c, d, e, f], _ => exact ⟨a, b, c, d, e, f, rfl⟩

theorem opens_val : Opens Try.prog valRep 47 := by
  intro H enc W fuel cs d ps h hw
  obtain ⟨n, hlen, hf⟩ := open_struct Try.underlying47 h hw
  obtain ⟨c0, c1, c2, rfl⟩ := list3 (hlen.trans (by kernel_rfl))
  obtain ⟨_, _, t0, _⟩ := hf 0 _ rfl
  obtain ⟨_, _, t1, _⟩ := hf 1 _ rfl
  obtain ⟨_, _, t2, w2⟩ := hf 2 _ rfl
  obtain ⟨k, e0, f0⟩ := open_int' Try.underlying3 t0
  obtain ⟨i, e1, f1⟩ := open_int' Try.underlying2 t1
  obtain ⟨s, e2, f2⟩ := open_string' Try.underlying9 t2 w2
  have e0' : c0 = .int .i64 k := (List.cons.inj (show [c0] = _ from e0)).1
  have e1' : c1 = .int .i64 i := (List.cons.inj (show [c1] = _ from e1)).1
  have e2' : c2 = .string s := (List.cons.inj (show [c2] = _ from e2)).1
  subst e0' e1' e2'
  exact ⟨⟨k, i, s⟩, rfl, ⟨(wf_i64 f0).1, (wf_i64 f0).2, (wf_i64 f1).1, (wf_i64 f1).2, by simp only; omega⟩⟩

theorem opens_side : Opens Try.prog sideRep 51 := by
  intro H enc W fuel cs d ps h hw
  obtain ⟨n, hlen, hf⟩ := open_struct Try.underlying51 h hw
  obtain ⟨c0, c1, c2, c3, c4, c5, rfl⟩ := list6 (hlen.trans (by kernel_rfl))
  obtain ⟨_, _, t0, _⟩ := hf 0 _ rfl
  obtain ⟨_, _, t1, _⟩ := hf 1 _ rfl
  obtain ⟨_, _, t2, _⟩ := hf 2 _ rfl
  obtain ⟨_, _, t3, _⟩ := hf 3 _ rfl
  obtain ⟨_, _, t4, w4⟩ := hf 4 _ rfl
  obtain ⟨_, _, t5, w5⟩ := hf 5 _ rfl
  obtain ⟨x0, e0⟩ := open_bool' Try.underlying4 t0
  obtain ⟨x1, e1⟩ := open_bool' Try.underlying4 t1
  obtain ⟨x2, e2, f2⟩ := open_int' Try.underlying2 t2
  obtain ⟨x3, e3, f3⟩ := open_int' Try.underlying2 t3
  obtain ⟨x4, e4, f4⟩ := open_string' Try.underlying9 t4 w4
  obtain ⟨x5, e5, f5⟩ := open_string' Try.underlying9 t5 w5
  have e0' : c0 = _ := (List.cons.inj (show [c0] = _ from e0)).1
  have e1' : c1 = _ := (List.cons.inj (show [c1] = _ from e1)).1
  have e2' : c2 = _ := (List.cons.inj (show [c2] = _ from e2)).1
  have e3' : c3 = _ := (List.cons.inj (show [c3] = _ from e3)).1
  have e4' : c4 = _ := (List.cons.inj (show [c4] = _ from e4)).1
  have e5' : c5 = _ := (List.cons.inj (show [c5] = _ from e5)).1
  subst e0' e1' e2' e3' e4' e5'
  exact ⟨⟨x0, x1, x2, x3, x4, x5⟩, rfl, ⟨(wf_i64 f2).1, (wf_i64 f2).2, (wf_i64 f3).1, (wf_i64 f3).2, by simp only; omega, by simp only; omega⟩⟩

theorem open_t26 {H : Type} {enc : TypeId × Value → H} {W : World} {v : Value} {d : DataW H} {ps : List MemPlace} (hv : Value.okWide Try.prog W .any W.heap.size 26 v ∨ True)
    (hc : v.cells = #[v]) (h : DataW.Trod enc Try.prog W 0 (fun _ => true) true 26 v d ps) (hw : ∀ n ∈ d.weights Try.prog 26, n ≤ 140737488351232) : ∃ vs, SliceRep valRep (Lt W.heap.size) W vs v :=
  Opens.value (opens_val.slice Try.underlying26 (by kernel_rfl) (by decide) (Nat.le_of_ble_eq_true (by kernel_rfl))) hc h hw

theorem open_t24 {r : Reach} {b0 : Nat} {H : Type} {enc : TypeId × Value → H} {W : World} {v : Value} {d : DataW H} {ps : List MemPlace} (hv : Value.okWide Try.prog W r b0 24 v)
    (h : DataW.Trod enc Try.prog W 0 (fun _ => true) true 24 v d ps) (hw : ∀ n ∈ d.weights Try.prog 24, n ≤ 140737488351232) :
    ∃ t sv ss, v = .agg #[.int .i64 t, sv] ∧ -9223372036854775808 ≤ t ∧ t ≤ 9223372036854775807 ∧ SliceRep sideRep (Lt W.heap.size) W ss sv := by
  obtain ⟨cs, rfl, hsz⟩ := okWide_struct Try.underlying24 hv
  obtain ⟨l⟩ := cs
  obtain ⟨fuel, hf0⟩ := h
  obtain ⟨n, hlen, hf⟩ := open_struct Try.underlying24 hf0 hw
  match l, hsz.trans (show Try.prog.cellsOf 24 = 2 by kernel_rfl) with
  | [c0, c1], _ =>
    obtain ⟨_, _, t0, _⟩ := hf 0 _ rfl
    obtain ⟨_, _, t1, w1⟩ := hf 1 _ rfl
    obtain ⟨x0, e0, f0⟩ := open_int' Try.underlying3 t0
    obtain ⟨x1, sv, e1, f1⟩ := (opens_side.slice Try.underlying22 (by kernel_rfl) (by decide) (Nat.le_of_ble_eq_true (by kernel_rfl))) enc W _ _ _ _ t1 w1
    have e0' : c0 = _ := (List.cons.inj (show [c0] = _ from e0)).1
    have e1' : c1 = _ := (List.cons.inj (show [c1] = _ from e1)).1
    subst e0' e1'
    exact ⟨x0, c1, x1, rfl, (wf_i64 f0).1, (wf_i64 f0).2, f1⟩
end Go.Proofs.Ytcbpakbhklbdnaa
