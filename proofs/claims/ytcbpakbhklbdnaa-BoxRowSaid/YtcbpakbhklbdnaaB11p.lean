/- Walks: the hull of two boxes (the reference's): the plain part. -/
import Derived.Test.YtcbpakbhklbdnaaB9
import Derived.Lib.MinMax
import Derived.BigRegion
import Derived.StillTailTactics
import Derived.WalkSmall
namespace Go.Proofs.Ytcbpakbhklbdnaa
open Go.ChangeShapes Go.WideShapes Go.ChangeAt Go.RowKit
set_option linter.unusedVariables false

/-- The side that the reference's Hull makes. -/
def rsideHull (s t : PSide) : PSide :=
  if s.other && t.other then ⟨s.null || t.null, s.other || t.other, min s.low t.low, max s.high t.high, Lib.minS s.frm t.frm, Lib.maxS s.to t.to⟩
  else if s.other then ⟨s.null || t.null, s.other || t.other, s.low, s.high, s.frm, s.to⟩ else ⟨s.null || t.null, s.other || t.other, t.low, t.high, t.frm, t.to⟩
theorem minS_size (a b : ByteArray) : (Lib.minS a b).size ≤ max a.size b.size := by unfold Lib.minS; split <;> omega
theorem maxS_size (a b : ByteArray) : (Lib.maxS a b).size ≤ max a.size b.size := by unfold Lib.maxS; split <;> omega
theorem rsideHull_wf {s t : PSide} (h : s.Wf) (h' : t.Wf) : (rsideHull s t).Wf := by
  obtain ⟨l1, l2, h1, h2, f, t'⟩ := h
  obtain ⟨l1', l2', h1', h2', f', t''⟩ := h'
  have a := minS_size s.frm t.frm
  have b := maxS_size s.to t.to
  unfold rsideHull
  split
  · constructor <;> simp only <;> omega
  · split
    · constructor <;> simp only <;> omega
    · constructor <;> simp only <;> omega
theorem zip_take_snoc (ss ts : List PSide) (k : Nat) (h : k < ss.length) (h' : k < ts.length) :
    List.zipWith rsideHull (ss.take (k + 1)) (ts.take (k + 1)) = List.zipWith rsideHull (ss.take k) (ts.take k) ++ [rsideHull ss[k] ts[k]] := by
  rw [List.take_succ_eq_append_getElem h, List.take_succ_eq_append_getElem h', List.zipWith_append (by simp; omega)]
  rfl

theorem own_set {w : World} {base : Nat} {e : TypeId} {size : Nat} {v : Value} {n : Nat} {xs : List Value} (h : w.ownsRow base e size v n xs) {b : Nat} (hb : ∀ q, v.ownBlock = some q → q < b) (i : Nat) (u : Value) : (w.setCell ⟨b, i, none⟩ u).ownsRow base e size v n xs := by
  refine ⟨h.1, ?_⟩
  rcases h.2 with h0 | ⟨g, cap, cur, rfl, hg, hcur, r⟩
  · exact .inl h0
  · have := hb g rfl
    exact .inr ⟨g, cap, cur, rfl, hg, by rw [heap_setCell_other _ _ _ _ (by simp; omega)]; exact hcur, r⟩
theorem own_drew {w : World} {base : Nat} {e : TypeId} {size : Nat} {v : Value} {n : Nat} {xs : List Value} (h : w.ownsRow base e size v n xs) : w.drew.ownsRow base e size v n xs := h

/-- What a round of the loop keeps: the local box's block, the slice in it. -/
def RowInv4 (w wr : World) (T : TypeId) (E : TypeId) (B1 B2 : Nat) (t : Int) (ss : List PSide) (va : Option Addr) (n vc : Nat) : Prop :=
  wr.heap[B1]? = some (.cells #[.int .i64 0, .slice none 0 0] T (0, 0)) ∧ wr.heap[B2]? = some (.cells #[.int .i64 t, .slice va n vc] T (0, 0)) ∧
    Below w.heap.size w wr ∧ Owns sideRep (fun _ => False) wr (w.heap.size + 4) E ss (.slice va n vc)

theorem RowInv4.next {w wr wx w1 : World} {T E : TypeId} {t : Int} {ss : List PSide} {va : Option Addr} {n vc : Nat} {s : PSide} {v' : Value} {ls : List (List Value)}
    (h : RowInv4 w wr T E (w.heap.size + 1 + 1) (w.heap.size + 1 + 1 + 1) t ss va n vc) (hll : ls.length = n) (hls : ss.length = n) (hr : ∀ k (hk : k < ss.length) (hk' : k < ls.length), sideRep.rep (fun _ => False) wr ss[k] ls[k]) (hs : s.Wf)
    (hown : wr.ownsRow (w.heap.size + 4) E 6 (.slice va n vc) n ls.flatten) (hbx : Below wr.heap.size wr wx) (hgrow : wx.grownBy w1 (Value.slice va n vc).ownBlock) (hown' : w1.ownsRow (w.heap.size + 4) E 6 v' (n + 1) (ls.flatten ++ s.cells)) :
    ∃ va' vc', v' = .slice va' (n + 1) vc' ∧ w1.heap[w.heap.size + 1 + 1]? = some (.cells #[.int .i64 0, .slice none 0 0] T (0, 0)) ∧ w1.heap[w.heap.size + 1 + 1 + 1]? = some (.cells #[.int .i64 t, .slice va n vc] T (0, 0)) ∧
      RowInv4 w (w1.setCell ⟨w.heap.size + 1 + 1 + 1, 1, none⟩ (.slice va' (n + 1) vc')) T E (w.heap.size + 1 + 1) (w.heap.size + 1 + 1 + 1) t (ss ++ [s]) va' (n + 1) vc' := by
  subst hls
  obtain ⟨h1, h2, hb, hO⟩ := h
  obtain ⟨hp, hkeep, hsz, hb'⟩ := Owns.step (R := sideRep) (S := fun _ => False) (S' := fun _ => False) (B := w.heap.size) (w := w) (x := s) hll hr ⟨rfl, hs⟩ (fun _ h => h) hbx hown hgrow (fun _ h => h.elim) hown' (by omega) (by have := lt_blk h1; omega) hb
  have hne : ∀ q, q < w.heap.size + 4 → (Value.slice va ss.length vc).ownBlock ≠ some q := fun q hq e => by have := (hO.lt q e).1; omega
  obtain ⟨va', vc', rfl⟩ := hp.len
  have hl : (ss ++ [s]).length = ss.length + 1 := by simp
  rw [hl] at hp ⊢
  have e1 := (hkeep (w.heap.size + 1 + 1) (lt_blk h1) (hne _ (by omega))).trans h1
  have e2 := (hkeep (w.heap.size + 1 + 1 + 1) (lt_blk h2) (hne _ (by omega))).trans h2
  refine ⟨va', vc', rfl, e1, e2, ?_, ?_, hb'.setCell (by simp; omega) _, ?_⟩
  · rw [heap_setCell_other _ _ _ _ (by simp)]; exact e1
  · rw [heap_setCell_same _ _ _ _ _ _ e2]; rfl
  · refine hp.ext (fun _ h => h.elim) (fun q hq => ?_)
    have := (hp.lt q hq).1
    rw [heap_setCell_other _ _ _ _ (by simp; omega)]

end Go.Proofs.Ytcbpakbhklbdnaa
