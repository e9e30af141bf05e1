/- From the form's data to plain values. -/
import Derived.Test.YtcbpakbhklbdnaaB17
namespace Go.Proofs.Ytcbpakbhklbdnaa
set_option linter.unusedVariables false
theorem rep_wf {S : Nat → Prop} {w : World} {l : List PSide} {v : Value} (h : SliceRep sideRep S w l v) : ∀ s ∈ l, s.Wf := by
  intro s hs
  obtain ⟨k, hk, rfl⟩ := List.getElem_of_mem hs
  obtain ⟨a, n, cap, rfl, _⟩ := h.opn
  obtain ⟨_, _, _, _, hw, _⟩ := SliceRep.side h k hk
  exact hw
theorem rep_wfv {S : Nat → Prop} {w : World} {l : List PVal} {v : Value} (h : SliceRep valRep S w l v) : ∀ s ∈ l, s.Wf := by
  intro s hs
  obtain ⟨k, hk, rfl⟩ := List.getElem_of_mem hs
  obtain ⟨a, n, cap, rfl, _⟩ := h.opn
  obtain ⟨_, _, _, _, hw, _⟩ := SliceRep.val h k hk
  exact hw
theorem box_of {S : Nat → Prop} {w : World} {t : Int} {l : List PSide} {v : Value} (h : SliceRep sideRep S w l v) : TR S w (bxA t l) (.agg #[.int .i64 t, v]) := by
  refine .agg rfl (fun i hi hi' => ?_)
  match i, hi with
  | 0, _ => exact .v _
  | 1, _ => exact TR.of_SliceRep (fun _ => rfl) h
theorem row_of {S : Nat → Prop} {w : World} {l : List PVal} {v : Value} (h : SliceRep valRep S w l v) : TR S w (rwA l) v := TR.of_SliceRep (fun _ => rfl) h
theorem trs2 {T : Nat → Prop} {w : World} {a b : AV} {x y : Value} (h1 : TR T w a x) (h2 : TR T w b y) : TRs T w [a, b] #[x, y] := by
  refine ⟨rfl, fun i hi hi' => ?_⟩
  match i, hi with
  | 0, _ => exact h1
  | 1, _ => exact h2
theorem trs3 {T : Nat → Prop} {w : World} {a b c : AV} {x y z : Value} (h1 : TR T w a x) (h2 : TR T w b y) (h3 : TR T w c z) : TRs T w [a, b, c] #[x, y, z] := by
  refine ⟨rfl, fun i hi hi' => ?_⟩
  match i, hi with
  | 0, _ => exact h1
  | 1, _ => exact h2
  | 2, _ => exact h3
theorem row_cells {r : Reach} {b0 : Nat} {W : World} {v : Value} (hv : Value.okWide Try.prog W r b0 26 v) : v.cells = #[v] := by
  obtain ⟨a, n, c, rfl⟩ := WideShapes.okWide_slice Try.underlying26 hv
  rfl
end Go.Proofs.Ytcbpakbhklbdnaa
