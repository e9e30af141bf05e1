/- From the form's own reading of an argument ('DataW.trod', each string, slice and map within the form's reach) to a reading 'Rep': integers, strings, bools, slices, structs. -/
import Derived.Test.YtcbpakbhklbdnaaBase
import Derived.Deep.Slices
import Derived.Deep.Fields
import Derived.ChangeSame
import Derived.ChangeArms
import Derived.SizedLaws
import Derived.OpenShut
namespace Go.Proofs.Ytcbpakbhklbdnaa
open Go.RowKit Go.ChangeShapes Go.WideShapes Go.Deep
set_option linter.unusedVariables false

/-- Whatever type t's cells read as, within the reach, they read as some 'a'. -/
def Opens {α : Type} (P : Program) (R : Rep α) (t : TypeId) : Prop :=
  ∀ {H : Type} (enc : TypeId × Value → H) (W : World) (fuel : Nat) (cs : List Value) (d : DataW H) (ps : List MemPlace),
    DataW.trod enc P W 0 (fun _ => true) true fuel t cs = some (d, ps) → (∀ n ∈ d.weights P t, n ≤ 140737488351232) → ∃ a, R.rep (Lt W.heap.size) W a cs

theorem weightsAll_mem {H : Type} {P : Program} {e : TypeId} : ∀ {ds : List (DataW H)} {d : DataW H}, d ∈ ds → ∀ n ∈ d.weights P e, n ∈ DataW.weightsAll P e ds
  | x :: r, d, h, n, hn => by
    simp only [DataW.weightsAll, List.mem_append]
    rcases List.mem_cons.1 h with rfl | h
    · exact .inl hn
    · exact .inr (weightsAll_mem h n hn)

theorem Opens.slice {α : Type} {P : Program} {R : Rep α} {t e : TypeId} (hR : Opens P R e) (ht : P.underlying t = some (.slice e)) (hn : P.cellsOf e = R.n) (hpos : 1 ≤ R.n) (hb : 1 ≤ P.bytesOf e) : Opens P R.slice t := by
  intro H enc W fuel cs d ps h hw
  rcases open_slice ht h with ⟨rfl, _⟩ | ⟨a, len, cap, m, n, D, Pl, rfl, _, hl, hm, hmm, hx, hi⟩
  · exact ⟨[], _, rfl, SliceRep.nil _ _ _⟩
  · simp only [if_true] at hmm
    subst hmm
    simp only [Prod.mk.injEq] at hx
    obtain ⟨rfl, _⟩ := hx
    simp only [DataW.weights, ht, List.length_map, List.length_range, List.mem_cons, List.mem_append] at hw
    have hcap : (len + (m - len)) * P.bytesOf e ≤ 140737488351232 := hw _ (.inl rfl)
    have hlen : len ≤ 140737488355328 := by
      have : len * 1 ≤ (len + (m - len)) * P.bytesOf e := Nat.mul_le_mul (by omega) hb
      omega
    have hex : ∀ i, i < len → ∃ (y : α × List Value), R.rep (Lt W.heap.size) W y.1 y.2 ∧ W.cells? 0 (a.add (i * P.cellsOf e)) (P.cellsOf e) = some y.2 := by
      intro i hil
      obtain ⟨cs', hc, ht'⟩ := hi i (by omega)
      obtain ⟨y, hy⟩ := hR enc W n cs' (D i) (Pl i) ht' (fun q hq => hw q (.inr (.inl (weightsAll_mem (List.mem_map.2 ⟨i, by simpa using hil, rfl⟩) q hq))))
      exact ⟨(y, cs'), hy, hc⟩
    by_cases h0 : len = 0
    · subst h0
      exact ⟨[], _, rfl, some a, m, rfl, Nat.zero_le _, hm, Nat.zero_le _, .inl rfl⟩
    · obtain ⟨y0, hy0⟩ := hex 0 (by omega)
      have : Inhabited (α × List Value) := ⟨y0⟩
      obtain ⟨f, hf⟩ := choose_lt hex
      obtain ⟨b, off, spot⟩ := a
      have hc0 := World.cells?_some hy0.2
      have hcell0 := hc0.2.2 0 (by rw [hn]; exact hpos)
      have hsome : ∃ v0, W.cell? ((⟨b, off, spot⟩ : Addr).add (0 * P.cellsOf e)) = some v0 := by
        have hlen0 : 0 < y0.2.length := by rw [hc0.2.1, hn]; exact hpos
        refine ⟨y0.2[0], ?_⟩
        have := hcell0
        rw [List.getElem?_eq_getElem hlen0] at this
        simpa [Addr.add] using this
      obtain ⟨v0, hv0⟩ := hsome
      have hspot : spot = none := by simpa [Addr.add] using World.cell?_spot hv0
      subst hspot
      have hblk : b < W.heap.size := by
        have := World.block_lt_of_cell? W _ hv0
        simpa [Addr.add] using this
      refine ⟨(List.range len).map fun i => (f i).1, _, rfl, some ⟨b, off, none⟩, m, by simp, by simp; omega, hm, by simpa using hlen, .inr ⟨b, off, rfl, hblk, fun k hk => ?_⟩⟩
      have hk' : k < len := by simpa using hk
      refine ⟨(f k).2, by simpa using (hf k hk').1, fun j hj => ?_⟩
      have hck := World.cells?_some (hf k hk').2
      rw [hck.2.1] at hj
      have := hck.2.2 j hj
      rw [add_add] at this
      rw [hn] at this
      rw [← this]
      have e1 : (⟨b, off, none⟩ : Addr).add (k * R.n + j) = ⟨b, off + k * R.n + j, none⟩ := by
        by_cases hz : k * R.n + j = 0
        · have h1 : k * R.n = 0 := by omega
          have h2 : j = 0 := by omega
          rw [h1, h2]; simp [Addr.add]
        · unfold Addr.add
          rw [if_neg hz]
          simp [Nat.add_assoc]
      rw [e1]

/-- A struct, field by field. -/
theorem open_struct {P : Program} {t : TypeId} {fs : Array Field} (ht : P.underlying t = some (.struct fs)) {H : Type} {enc : TypeId × Value → H} {W : World} {fuel : Nat} {cs : List Value} {d : DataW H} {ps : List MemPlace}
    (h : DataW.trod enc P W 0 (fun _ => true) true fuel t cs = some (d, ps)) (hw : ∀ n ∈ d.weights P t, n ≤ 140737488351232) :
    ∃ n, cs.length = P.cellsOf t ∧ ∀ (i : Nat) (f : Field), fs[i]? = some f →
      ∃ (d' : DataW H) (ps' : List MemPlace), DataW.trod enc P W 0 (fun _ => true) true n f.type ((cs.drop f.offset).take (P.cellsOf f.type)) = some (d', ps') ∧ ∀ q ∈ d'.weights P f.type, q ≤ 140737488351232 := by
  obtain ⟨xs, n, _, hx, hlen, hxl, hf⟩ := DataW.trod_struct ht h
  simp only [Prod.mk.injEq] at hx
  obtain ⟨rfl, _⟩ := hx
  refine ⟨n, hlen, fun i f hi => ?_⟩
  have hil : i < fs.size := (Array.getElem?_eq_some_iff.1 hi).1
  have hx' : xs[i]? = some (xs[i]'(by omega)) := List.getElem?_eq_getElem (by omega)
  have h1 := hf i f hi
  rw [hx'] at h1
  refine ⟨_, _, h1, fun q hq => hw q ?_⟩
  simp only [DataW.weights, ht]
  refine DataW.weights_mem_each (j := i) (t := f.type) (d := (xs[i]'(by omega)).1) ?_ ?_ q hq
  · simp only [List.getElem?_map, Array.getElem?_toList, hi, Option.map_some]
  · simp only [List.getElem?_map, hx', Option.map_some]

theorem open_int' {P : Program} {t : TypeId} {k : IntKind} (ht : P.underlying t = some (.int k)) {H : Type} {enc : TypeId × Value → H} {W : World} {fuel : Nat} {cs : List Value} {d : DataW H} {ps : List MemPlace}
    (h : DataW.trod enc P W 0 (fun _ => true) true fuel t cs = some (d, ps)) : ∃ n, cs = [.int k n] ∧ (Lit.int k n).wf = true := by
  obtain ⟨n, h1, _, h2⟩ := DataW.trod_int ht h
  exact ⟨n, h1, h2⟩
theorem open_bool' {P : Program} {t : TypeId} (ht : P.underlying t = some .bool) {H : Type} {enc : TypeId × Value → H} {W : World} {fuel : Nat} {cs : List Value} {d : DataW H} {ps : List MemPlace}
    (h : DataW.trod enc P W 0 (fun _ => true) true fuel t cs = some (d, ps)) : ∃ b, cs = [.bool b] := by
  obtain ⟨n, h1, _⟩ := DataW.trod_bool ht h
  exact ⟨n, h1⟩
theorem open_string' {P : Program} {t : TypeId} (ht : P.underlying t = some .string) {H : Type} {enc : TypeId × Value → H} {W : World} {fuel : Nat} {cs : List Value} {d : DataW H} {ps : List MemPlace}
    (h : DataW.trod enc P W 0 (fun _ => true) true fuel t cs = some (d, ps)) (hw : ∀ n ∈ d.weights P t, n ≤ 140737488351232) : ∃ s, cs = [.string s] ∧ s.size ≤ 140737488351232 := by
  obtain ⟨s, h1, h2, _⟩ := DataW.trod_string ht h
  simp only [Prod.mk.injEq] at h2
  obtain ⟨rfl, _⟩ := h2
  refine ⟨s, h1, ?_⟩
  have := hw s.data.toList.length (by simp [DataW.weights])
  simpa using this

theorem wf_i64 {n : Int} (h : (Lit.int .i64 n).wf = true) : -9223372036854775808 ≤ n ∧ n ≤ 9223372036854775807 := bounds_i64 h

/-- A parameter that is a slice. -/
theorem Opens.value {α : Type} {P : Program} {R : Rep α} {t : TypeId} (hR : Opens P R.slice t) {H : Type} {enc : TypeId × Value → H} {W : World} {v : Value} {d : DataW H} {ps : List MemPlace}
    (hv : v.cells = #[v]) (h : DataW.Trod enc P W 0 (fun _ => true) true t v d ps) (hw : ∀ n ∈ d.weights P t, n ≤ 140737488351232) : ∃ as, SliceRep R (Lt W.heap.size) W as v := by
  obtain ⟨fuel, hf⟩ := h
  rw [hv] at hf
  obtain ⟨as, v', e, hs⟩ := hR enc W fuel _ d ps hf hw
  simp only [List.cons.injEq, and_true] at e
  subst e
  exact ⟨as, hs⟩
end Go.Proofs.Ytcbpakbhklbdnaa
