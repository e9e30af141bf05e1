/- Walks: the hull of two boxes (the program's): the plain part. -/
import Derived.Test.YtcbpakbhklbdnaaB9
import Derived.Deep.RegionLawGrows
import Derived.Deep.DeepCutAuto
import Derived.BigRegion
import Derived.Lib.MinMax
import Derived.WalkSmall
namespace Go.Proofs.Ytcbpakbhklbdnaa
open Go.ChangeShapes Go.WideShapes Go.ChangeAt Go.RowKit
set_option linter.unusedVariables false
attribute [local go_sem] Lib.run_max_strs Lib.run_min_strs

def sideHull (x y : PSide) : PSide :=
  if y.other = false then { x with null := x.null || y.null }
  else if x.other = false then ⟨x.null || y.null, true, y.low, y.high, y.frm, y.to⟩
  else ⟨x.null || y.null, true, min x.low y.low, max x.high y.high, Lib.minS x.frm y.frm, Lib.maxS x.to y.to⟩

/-- The cells of a slice, one after the other. -/
theorem SliceRep.flat {S : Nat → Prop} {w : World} {ss : List PSide} {a : Option Addr} {n cap : Nat} (h : SliceRep sideRep S w ss (.slice a n cap)) (hne : ss ≠ []) :
    ∃ b off, a = some ⟨b, off, none⟩ ∧ S b ∧ (ss.flatMap PSide.cells).length = ss.length * 6 ∧ ∀ j u, (ss.flatMap PSide.cells)[j]? = some u → w.cell? ((⟨b, off, none⟩ : Addr).add j) = some u := by
  obtain ⟨a', cap', e, h1, h2, h2', h3⟩ := h
  simp only [Value.slice.injEq] at e
  obtain ⟨rfl, rfl, rfl⟩ := e
  rcases h3 with rfl | ⟨b, off, rfl, hb, h4⟩
  · exact absurd rfl hne
  · have hl : ∀ l ∈ ss.map PSide.cells, l.length = 6 := by
      intro l hl
      obtain ⟨s, _, rfl⟩ := List.mem_map.1 hl
      rfl
    have hfl := flatten_len _ hl
    have hfm : ss.flatMap PSide.cells = (ss.map PSide.cells).flatten := by rw [List.flatMap]
    refine ⟨b, off, rfl, hb, by rw [hfm, hfl]; simp, fun j u hj => ?_⟩
    have hjl : j < ss.length * 6 := by
      have := (List.getElem?_eq_some_iff.1 hj).1
      rw [hfm, hfl] at this; simpa using this
    have hk : j / 6 < ss.length := by omega
    obtain ⟨l, ⟨hl', _⟩, hc⟩ := h4 (j / 6) hk
    subst hl'
    have h6 := flatten_at (ss.map PSide.cells) hl (j / 6) (by simpa using hk) (j % 6) (Nat.mod_lt _ (by omega))
    rw [Nat.div_add_mod' j 6, ← hfm, hj] at h6
    have hc' := hc (j % 6) (Nat.mod_lt _ (by omega))
    simp only [List.getElem_map] at h6
    rw [← h6] at hc'
    have e1 : (⟨b, off, none⟩ : Addr).add j = ⟨b, off + j, none⟩ := by cases j <;> simp [Addr.add]
    rw [e1]
    rw [show sideRep.n = 6 from rfl] at hc'
    rw [show off + j / 6 * 6 + j % 6 = off + j by omega] at hc'
    exact hc'

theorem cells_below {w wx : World} {l : List Value} {ad : Addr} (h : ∀ j u, l[j]? = some u → w.cell? (ad.add j) = some u) (hb : Below w.heap.size w wx) : ∀ j u, l[j]? = some u → wx.cell? (ad.add j) = some u :=
  fun j u hj => (hb.cell (World.block_lt_of_cell? w _ (h j u hj))).trans (h j u hj)
theorem cells_one {ss : List PSide} : ∀ u ∈ ss.flatMap PSide.cells, u.oneCell' = true := by
  intro u hu
  obtain ⟨s, _, hs⟩ := List.mem_flatMap.1 hu
  simp [PSide.cells] at hs
  rcases hs with rfl | rfl | rfl | rfl | rfl | rfl <;> rfl

/-- Behind the copy: the new box's block p, its sides' block g. -/
def Copied (w w0 wx : World) (t : Int) (n : Nat) (l : List Value) (p g c : Nat) (cur : Array Value) : Prop :=
  Below (w.heap.size + 3) w0 wx ∧ w.heap.size + 3 ≤ p ∧ w.heap.size + 3 ≤ g ∧ p ≠ g ∧ wx.heap[p]? = some (.cells #[.int .i64 t, .slice (some ⟨g, 0, none⟩) n c] 33 (0, 0)) ∧
    wx.heap[g]? = some (.cells cur 53 (0, 0)) ∧ cur.toList.take (n * 6) = l ∧ cur.size = c * 6 ∧ n ≤ c ∧ c ≤ 9223372036854775807

theorem Copied.drew {w w0 wx : World} {t : Int} {n : Nat} {l : List Value} {p g c : Nat} {cur : Array Value} (h : Copied w w0 wx t n l p g c cur) : Copied w w0 wx.drew t n l p g c cur :=
  ⟨h.1.drew, h.2⟩
theorem copiedA {w w0 w' : World} {t : Int} {n : Nat} {l : List Value} {g c : Nat} {cur : Array Value} (hB : Below (w.heap.size + 3) w0 w') (h0 : w.heap.size + 3 ≤ w0.heap.size) (hg : w0.heap.size ≤ g) (hk : w'.heap[g]? = some (.cells cur 53 (0, 0)))
    (hs : cur.size = c * 6) (hx : cur.toList.take (n * 6) = l) (hnc : n ≤ c) (hcm : c ≤ maxLen) :
    Copied w w0 (w'.alloc (.cells #[.int .i64 t, .slice (some ⟨g, 0, none⟩) n c] 33)) t n l w'.heap.size g c cur := by
  have hz := hB.size
  have hlt := lt_blk hk
  refine ⟨hB.alloc (by omega) _, by omega, by omega, by omega, ?_, ?_, hx, hs, hnc, by unfold maxLen at hcm; omega⟩
  · exact heap_alloc_new w' _
  · show (w'.alloc _).heap[g]? = _
    rw [Below.heap_alloc _ _ _ hlt]; exact hk
theorem copiedB {w w0 w' : World} {t : Int} {n : Nat} {l : List Value} {g c : Nat} {cur : Array Value} (hB : Below (w.heap.size + 3) w0 w') (h0 : w.heap.size + 3 ≤ w0.heap.size) (hg : w0.heap.size + 1 ≤ g) (hk : w'.heap[g]? = some (.cells cur 53 (0, 0)))
    (hp : w'.heap[w0.heap.size]? = some (.cells #[.int .i64 0, .slice none 0 0] 33 (0, 0))) (hs : cur.size = c * 6) (hx : cur.toList.take (n * 6) = l) (hnc : n ≤ c) (hcm : c ≤ maxLen) :
    Copied w w0 ((w'.setCell ⟨w0.heap.size, 0, none⟩ (.int .i64 t)).setCell ⟨w0.heap.size, 1, none⟩ (.slice (some ⟨g, 0, none⟩) n c)) t n l w0.heap.size g c cur := by
  have hz := hB.size
  have e1 : (w'.setCell ⟨w0.heap.size, 0, none⟩ (.int .i64 t)).heap[w0.heap.size]? = some (.cells #[.int .i64 t, .slice none 0 0] 33 (0, 0)) := by
    rw [heap_setCell_same _ _ _ _ _ _ hp]; rfl
  refine ⟨(hB.setCell (by simp; omega) _).setCell (by simp; omega) _, by omega, by omega, by omega, ?_, ?_, hx, hs, hnc, by unfold maxLen at hcm; omega⟩
  · show ((w'.setCell _ _).setCell _ _).heap[_]? = _
    rw [heap_setCell_same _ _ _ _ _ _ e1]; rfl
  · show ((w'.setCell _ _).setCell _ _).heap[_]? = _
    rw [heap_setCell_other _ _ _ _ (by simp; omega), heap_setCell_other _ _ _ _ (by simp; omega)]; exact hk


def dflt : PSide := ⟨false, false, 0, 0, ⟨#[]⟩, ⟨#[]⟩⟩
/-- The i-th side after k rounds. -/
def hullAt (ss ts : List PSide) (k i : Nat) : PSide := if i < k then sideHull (ss.getD i dflt) (ts.getD i dflt) else ss.getD i dflt
/-- The block holds the sides as they stand after k rounds. -/
def Hulled (ss ts : List PSide) (n k : Nat) (cur : Array Value) : Prop := ∀ i, i < n → ∀ j, j < 6 → cur[i * 6 + j]? = (hullAt ss ts k i).cells[j]?

theorem hulled_start {ss ts : List PSide} {n : Nat} {cur : Array Value} (hn : ss.length = n) (h : cur.toList.take (n * 6) = ss.flatMap PSide.cells) : Hulled ss ts n 0 cur := by
  intro i hi j hj
  have hl : ∀ l ∈ ss.map PSide.cells, l.length = 6 := by
    intro l hl
    obtain ⟨s, _, rfl⟩ := List.mem_map.1 hl
    rfl
  have hi' : i < ss.length := by omega
  have h6 := flatten_at (ss.map PSide.cells) hl i (by simpa using hi') j hj
  rw [show (ss.map PSide.cells).flatten = ss.flatMap PSide.cells by rw [List.flatMap], ← h, List.getElem?_take_of_lt (by omega)] at h6
  simp only [List.getElem_map] at h6
  rw [show hullAt ss ts 0 i = ss[i] by simp [hullAt, List.getD, hi']]
  rw [← h6]; simp

theorem hulled_next {ss ts : List PSide} {n k : Nat} {cur cur2 : Array Value} (h : Hulled ss ts n k cur) (hk : k < n)
    (h1 : ∀ q, q < k * 6 ∨ k * 6 + 6 ≤ q → cur2[q]? = cur[q]?) (h2 : ∀ j, j < 6 → cur2[k * 6 + j]? = (sideHull (ss.getD k dflt) (ts.getD k dflt)).cells[j]?) : Hulled ss ts n (k + 1) cur2 := by
  intro i hi j hj
  by_cases e : i = k
  · subst e
    rw [h2 j hj]; simp [hullAt]
  · rw [h1 _ (by omega), h i hi j hj]
    have : hullAt ss ts (k + 1) i = hullAt ss ts k i := by
      unfold hullAt
      by_cases h3 : i < k
      · rw [if_pos h3, if_pos (by omega)]
      · rw [if_neg h3, if_neg (by omega)]
    rw [this]

theorem hulled_flat {ss ts : List PSide} {n k : Nat} {cur : Array Value} (h : Hulled ss ts n k cur) (hs : n * 6 ≤ cur.size) : cur.toList.take (n * 6) = ((List.range n).map (hullAt ss ts k)).flatMap PSide.cells := by
  have hl : ∀ l ∈ ((List.range n).map (hullAt ss ts k)).map PSide.cells, l.length = 6 := by
    intro l hl
    obtain ⟨s, _, rfl⟩ := List.mem_map.1 hl
    rfl
  have hfl := flatten_len _ hl
  apply List.ext_getElem?
  intro q
  by_cases hq : q < n * 6
  · rw [List.getElem?_take_of_lt hq]
    have h6 := flatten_at _ hl (q / 6) (by simp; omega) (q % 6) (Nat.mod_lt _ (by omega))
    rw [Nat.div_add_mod' q 6] at h6
    rw [List.flatMap, h6]
    have := h (q / 6) (by omega) (q % 6) (Nat.mod_lt _ (by omega))
    rw [Nat.div_add_mod' q 6] at this
    simp only [Array.getElem?_toList, List.getElem_map, List.getElem_range]
    exact this
  · rw [List.getElem?_eq_none (by simp; omega), List.getElem?_eq_none (by rw [List.flatMap, hfl]; simp; omega)]

/-- Several cells of one block written, one after the other. -/
def SetAll (w : World) (g : Nat) : List (Nat × Value) → World
  | [] => w
  | p :: r => SetAll (w.setCell ⟨g, p.1, none⟩ p.2) g r
def updAll (c : Array Value) : List (Nat × Value) → Array Value
  | [] => c
  | p :: r => updAll (c.setIfInBounds p.1 p.2) r
theorem updAll_size : ∀ (l : List (Nat × Value)) (c : Array Value), (updAll c l).size = c.size
  | [], _ => rfl
  | p :: r, c => by rw [updAll, updAll_size r]; simp
theorem updAll_out {lo hi : Nat} : ∀ (l : List (Nat × Value)) (c : Array Value) (_ : ∀ p ∈ l, lo ≤ p.1 ∧ p.1 < hi) (q : Nat), q < lo ∨ hi ≤ q → (updAll c l)[q]? = c[q]?
  | [], _, _, _, _ => rfl
  | p :: r, c, h, q, hq => by
    rw [updAll, updAll_out r _ (fun p' hp => h p' (by simp [hp])) q hq, Array.getElem?_setIfInBounds]
    have := h p (by simp)
    rw [if_neg (by omega)]
theorem SetAll_same {g : Nat} {t : TypeId} : ∀ (l : List (Nat × Value)) (w : World) (c : Array Value), w.heap[g]? = some (.cells c t (0, 0)) → (SetAll w g l).heap[g]? = some (.cells (updAll c l) t (0, 0))
  | [], _, _, h => h
  | p :: r, w, c, h => SetAll_same r _ _ (heap_setCell_same _ _ _ _ _ _ h)
theorem SetAll_other {g q : Nat} (hq : q ≠ g) : ∀ (l : List (Nat × Value)) (w : World), (SetAll w g l).heap[q]? = w.heap[q]?
  | [], _ => rfl
  | p :: r, w => by rw [SetAll, SetAll_other hq r, heap_setCell_other _ _ _ _ hq]
theorem SetAll_below {B g : Nat} {a : World} (hg : B ≤ g) : ∀ (l : List (Nat × Value)) (w : World), Below B a w → Below B a (SetAll w g l) ∧ (SetAll w g l).heap.size = w.heap.size
  | [], _, h => ⟨h, rfl⟩
  | p :: r, w, h => by
    obtain ⟨h1, h2⟩ := SetAll_below hg r (w.setCell ⟨g, p.1, none⟩ p.2) (h.setCell hg _)
    exact ⟨h1, by rw [SetAll, h2]; simp⟩

/-- What a round of Hull's loop keeps. -/
def HullInv (w wc wr : World) (t : Int) (n c p g : Nat) (ss ts : List PSide) (k : Nat) : Prop :=
  Below w.heap.size w wr ∧ wc.heap.size ≤ wr.heap.size ∧ wr.heap[p]? = some (.cells #[.int .i64 t, .slice (some ⟨g, 0, none⟩) n c] 33 (0, 0)) ∧
    wr.heap[w.heap.size + 1 + 1]? = some (.cells #[.int .i64 0, .slice none 0 0] 33 (0, 0)) ∧ ∃ cur', wr.heap[g]? = some (.cells cur' 53 (0, 0)) ∧ cur'.size = c * 6 ∧ Hulled ss ts n k cur'

theorem HullInv.drew {w wc wr : World} {t : Int} {n c p g : Nat} {ss ts : List PSide} {k : Nat} (h : HullInv w wc wr t n c p g ss ts k) : HullInv w wc wr.drew t n c p g ss ts k := ⟨h.1.drew, h.2⟩

theorem HullInv.next {w wc wr : World} {t : Int} {n c p g : Nat} {ss ts : List PSide} {k : Nat} (h : HullInv w wc wr t n c p g ss ts k) (l : List (Nat × Value)) (o : Obj) (hkn : k < n) (hks : k < ss.length) (hkt : k < ts.length)
    (hg : w.heap.size + 3 ≤ g) (hpg : p ≠ g) (hnc : n ≤ c) (hl : ∀ q ∈ l, k * 6 ≤ q.1 ∧ q.1 < k * 6 + 6)
    (hu : ∀ cur' : Array Value, cur'.size = c * 6 → (∀ j, j < 6 → cur'[k * 6 + j]? = ss[k].cells[j]?) → ∀ j, j < 6 → (updAll cur' l)[k * 6 + j]? = (sideHull ss[k] ts[k]).cells[j]?) :
    HullInv w wc ((SetAll wr g l).alloc o) t n c p g ss ts (k + 1) := by
  obtain ⟨hb, hsz, hkp, hk2, cur', hkg, hcs, hhu⟩ := h
  obtain ⟨b1, b2⟩ := SetAll_below (B := w.heap.size) (g := g) (by omega) l wr hb
  have hlp := lt_blk hkp
  have hlg := lt_blk hkg
  have hl2 := lt_blk hk2
  refine ⟨b1.alloc (by omega) _, by simp; omega, ?_, ?_, updAll cur' l, ?_, by rw [updAll_size]; exact hcs, ?_⟩
  · rw [Below.heap_alloc _ _ _ (by omega), SetAll_other hpg]; exact hkp
  · rw [Below.heap_alloc _ _ _ (by omega), SetAll_other (by omega)]; exact hk2
  · rw [Below.heap_alloc _ _ _ (by omega)]; exact SetAll_same l wr cur' hkg
  · refine hulled_next hhu hkn (updAll_out l cur' hl) ?_
    have g1 : ss.getD k dflt = ss[k] := by simp [List.getD, hks]
    have g2 : ts.getD k dflt = ts[k] := by simp [List.getD, hkt]
    rw [g1, g2]
    refine hu cur' hcs (fun j hj => ?_)
    rw [hhu k hkn j hj]
    have e1 : hullAt ss ts k k = ss[k] := by simp [hullAt, List.getD, hks]
    rw [e1]

theorem updAll_append : ∀ (l m : List (Nat × Value)) (c : Array Value), updAll (updAll c l) m = updAll c (l ++ m)
  | [], _, _ => rfl
  | p :: r, m, c => updAll_append r m _

theorem HullInv.next2 {w wc wr : World} {t : Int} {n c p g : Nat} {ss ts : List PSide} {k : Nat} (h : HullInv w wc wr t n c p g ss ts k) (l m : List (Nat × Value)) (o : Obj) (hkn : k < n) (hks : k < ss.length) (hkt : k < ts.length)
    (hg : w.heap.size + 3 ≤ g) (hpg : p ≠ g) (hnc : n ≤ c) (hl : ∀ q ∈ l ++ m, k * 6 ≤ q.1 ∧ q.1 < k * 6 + 6)
    (hu : ∀ cur' : Array Value, cur'.size = c * 6 → (∀ j, j < 6 → cur'[k * 6 + j]? = ss[k].cells[j]?) → ∀ j, j < 6 → (updAll cur' (l ++ m))[k * 6 + j]? = (sideHull ss[k] ts[k]).cells[j]?) :
    HullInv w wc (SetAll ((SetAll wr g l).alloc o) g m) t n c p g ss ts (k + 1) := by
  obtain ⟨hb, hsz, hkp, hk2, cur', hkg, hcs, hhu⟩ := h
  obtain ⟨b1, b2⟩ := SetAll_below (B := w.heap.size) (g := g) (by omega) l wr hb
  have hlp := lt_blk hkp
  have hlg := lt_blk hkg
  have hl2 := lt_blk hk2
  obtain ⟨b3, b4⟩ := SetAll_below (B := w.heap.size) (g := g) (by omega) m ((SetAll wr g l).alloc o) (b1.alloc (by omega) _)
  refine ⟨b3, by rw [b4]; simp; omega, ?_, ?_, updAll cur' (l ++ m), ?_, by rw [updAll_size]; exact hcs, ?_⟩
  · rw [SetAll_other hpg, Below.heap_alloc _ _ _ (by omega), SetAll_other hpg]; exact hkp
  · rw [SetAll_other (by omega), Below.heap_alloc _ _ _ (by omega), SetAll_other (by omega)]; exact hk2
  · rw [← updAll_append]
    refine SetAll_same m _ _ ?_
    rw [Below.heap_alloc _ _ _ (by omega)]; exact SetAll_same l wr cur' hkg
  · refine hulled_next hhu hkn (updAll_out (l ++ m) cur' hl) ?_
    have g1 : ss.getD k dflt = ss[k] := by simp [List.getD, hks]
    have g2 : ts.getD k dflt = ts[k] := by simp [List.getD, hkt]
    rw [g1, g2]
    refine hu cur' hcs (fun j hj => ?_)
    rw [hhu k hkn j hj]
    have e1 : hullAt ss ts k k = ss[k] := by simp [hullAt, List.getD, hks]
    rw [e1]

theorem upd1 (x y : PSide) (k c n : Nat) (hkn : k < n) (hnc : n ≤ c) (hy : y.other = false) (cur' : Array Value) (hs : cur'.size = c * 6) (h : ∀ j, j < 6 → cur'[k * 6 + j]? = x.cells[j]?) :
    ∀ j, j < 6 → (updAll cur' [(k * 6, .bool (x.null || y.null))])[k * 6 + j]? = (sideHull x y).cells[j]? := by
  intro j hj
  have e : sideHull x y = { x with null := x.null || y.null } := by simp [sideHull, hy]
  rw [e]
  match j, hj with
  | 0, _ => simp [updAll, PSide.cells, Array.getElem?_setIfInBounds]; omega
  | 1, hj => simp [updAll, PSide.cells]; have := h 1 hj; simpa [PSide.cells] using this
  | 2, hj => simp [updAll, PSide.cells]; have := h 2 hj; simpa [PSide.cells] using this
  | 3, hj => simp [updAll, PSide.cells]; have := h 3 hj; simpa [PSide.cells] using this
  | 4, hj => simp [updAll, PSide.cells]; have := h 4 hj; simpa [PSide.cells] using this
  | 5, hj => simp [updAll, PSide.cells]; have := h 5 hj; simpa [PSide.cells] using this

theorem upd6 (x y : PSide) (k c n : Nat) (hkn : k < n) (hnc : n ≤ c) (hy : y.other = true) (hx : x.other = false) (cur' : Array Value) (hs : cur'.size = c * 6) (h : ∀ j, j < 6 → cur'[k * 6 + j]? = x.cells[j]?) :
    ∀ j, j < 6 → (updAll cur' [(k * 6, .bool (x.null || y.null)), (k * 6 + 1, .bool true), (k * 6 + 2, .int .i64 y.low), (k * 6 + 3, .int .i64 y.high), (k * 6 + 4, .string y.frm), (k * 6 + 5, .string y.to)])[k * 6 + j]? = (sideHull x y).cells[j]? := by
  intro j hj
  have e : sideHull x y = ⟨x.null || y.null, true, y.low, y.high, y.frm, y.to⟩ := by simp [sideHull, hy, hx]
  rw [e]
  match j, hj with
  | 0, _ => simp [updAll, PSide.cells, Array.getElem?_setIfInBounds]; omega
  | 1, _ => simp [updAll, PSide.cells, Array.getElem?_setIfInBounds]; omega
  | 2, _ => simp [updAll, PSide.cells, Array.getElem?_setIfInBounds]; omega
  | 3, _ => simp [updAll, PSide.cells, Array.getElem?_setIfInBounds]; omega
  | 4, _ => simp [updAll, PSide.cells, Array.getElem?_setIfInBounds]; omega
  | 5, _ => simp [updAll, PSide.cells, Array.getElem?_setIfInBounds]; omega

theorem upd5 (x y : PSide) (k c n : Nat) (hkn : k < n) (hnc : n ≤ c) (hy : y.other = true) (hx : x.other = true) (cur' : Array Value) (hs : cur'.size = c * 6) (h : ∀ j, j < 6 → cur'[k * 6 + j]? = x.cells[j]?) :
    ∀ j, j < 6 → (updAll cur' [(k * 6, .bool (x.null || y.null)), (k * 6 + 2, .int .i64 (min x.low y.low)), (k * 6 + 3, .int .i64 (max x.high y.high)), (k * 6 + 4, .string (Lib.minS x.frm y.frm)), (k * 6 + 5, .string (Lib.maxS x.to y.to))])[k * 6 + j]? = (sideHull x y).cells[j]? := by
  intro j hj
  have e : sideHull x y = ⟨x.null || y.null, true, min x.low y.low, max x.high y.high, Lib.minS x.frm y.frm, Lib.maxS x.to y.to⟩ := by simp [sideHull, hy, hx]
  rw [e]
  match j, hj with
  | 0, _ => simp [updAll, PSide.cells, Array.getElem?_setIfInBounds]; omega
  | 1, hj => simp [updAll, PSide.cells]; have := h 1 hj; simpa [PSide.cells, hx] using this
  | 2, _ => simp [updAll, PSide.cells, Array.getElem?_setIfInBounds]; omega
  | 3, _ => simp [updAll, PSide.cells, Array.getElem?_setIfInBounds]; omega
  | 4, _ => simp [updAll, PSide.cells, Array.getElem?_setIfInBounds]; omega
  | 5, _ => simp [updAll, PSide.cells, Array.getElem?_setIfInBounds]; omega

theorem SliceRep.sideWf {S : Nat → Prop} {w : World} {ss : List PSide} {v : Value} (h : SliceRep sideRep S w ss v) : ∀ s ∈ ss, s.Wf := by
  intro s hs
  obtain ⟨k, hk, rfl⟩ := List.getElem_of_mem hs
  obtain ⟨a, cap, rfl, _⟩ := h
  obtain ⟨_, _, _, _, hw, _⟩ := SliceRep.side ⟨a, cap, rfl, by assumption⟩ k hk
  exact hw
theorem minS_size' (a b : ByteArray) : (Lib.minS a b).size ≤ max a.size b.size := by unfold Lib.minS; split <;> omega
theorem maxS_size' (a b : ByteArray) : (Lib.maxS a b).size ≤ max a.size b.size := by unfold Lib.maxS; split <;> omega
theorem sideHull_wf {s t : PSide} (h : s.Wf) (h' : t.Wf) : (sideHull s t).Wf := by
  obtain ⟨l1, l2, h1, h2, f, t'⟩ := h
  obtain ⟨l1', l2', h1', h2', f', t''⟩ := h'
  have a := minS_size' s.frm t.frm
  have b := maxS_size' s.to t.to
  unfold sideHull
  split
  · constructor <;> simp only <;> omega
  · split
    · constructor <;> simp only <;> omega
    · constructor <;> simp only <;> omega

theorem hull_slice {S : Nat → Prop} {w : World} {ss ts : List PSide} {n k c g : Nat} {cur : Array Value} (hg : w.heap[g]? = some (.cells cur 53 (0, 0))) (hh : Hulled ss ts n k cur) (hn : ss.length = n) (hk : ts.length = k) (hkn : k ≤ n) (hnc : n ≤ c) (hcm : c ≤ 9223372036854775807) (hsm : n ≤ 140737488355328)
    (hs : ∀ s ∈ ss, s.Wf) (ht : ∀ s ∈ ts, s.Wf) (hS : S g) : SliceRep sideRep S w ((List.range n).map (hullAt ss ts k)) (.slice (some ⟨g, 0, none⟩) n c) := by
  have hl : ((List.range n).map (hullAt ss ts k)).length = n := by simp
  refine ⟨some ⟨g, 0, none⟩, c, by rw [hl], by rw [hl]; exact hnc, by unfold maxLen; omega, by rw [hl]; exact hsm, ?_⟩
  right
  refine ⟨g, 0, rfl, hS, fun i hi => ?_⟩
  have hin : i < n := by rw [hl] at hi; exact hi
  refine ⟨(hullAt ss ts k i).cells, ⟨by simp, ?_⟩, fun j hj => ?_⟩
  · simp only [List.getElem_map, List.getElem_range]
    unfold hullAt
    have g1 : ss.getD i dflt = ss[i]'(by omega) := by simp [List.getD, show i < ss.length by omega]
    split
    · rename_i hik
      have g2 : ts.getD i dflt = ts[i]'(by omega) := by simp [List.getD, show i < ts.length by omega]
      rw [g1, g2]
      exact sideHull_wf (hs _ (List.getElem_mem _)) (ht _ (List.getElem_mem _))
    · rw [g1]; exact hs _ (List.getElem_mem _)
  · have hj6 : j < 6 := hj
    rw [cell_blk hg, show 0 + i * sideRep.n + j = i * 6 + j by show 0 + i * 6 + j = _; omega]
    exact hh i hin j hj6
end Go.Proofs.Ytcbpakbhklbdnaa
