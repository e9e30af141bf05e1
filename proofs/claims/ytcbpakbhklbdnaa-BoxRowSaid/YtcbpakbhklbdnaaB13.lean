/- The contracts of the functions over boxes, said of plain values. -/
import Derived.Test.YtcbpakbhklbdnaaB12
import Derived.Test.YtcbpakbhklbdnaaB10
import Derived.Test.YtcbpakbhklbdnaaB11
import Derived.Test.YtcbpakbhklbdnaaB9r
import Derived.Test.YtcbpakbhklbdnaaAS15
namespace Go.Proofs.Ytcbpakbhklbdnaa
set_option linter.unusedVariables false
open Go.RowKit

def sA (s : PSide) : List AV := [.v (.bool s.null), .v (.bool s.other), .v (.int .i64 s.low), .v (.int .i64 s.high), .v (.string s.frm), .v (.string s.to)]
def vA (v : PVal) : List AV := [.v (.int .i64 v.kind), .v (.int .i64 v.int), .v (.string v.text)]

theorem SliceRep.of_TR {α : Type} {n : Nat} {cells : α → List Value} {W : α → Prop} {hl : ∀ a, (cells a).length = n} {f : α → List AV} (hf : ∀ a, f a = (cells a).map .v) {T : Nat → Prop} {w : World} {l : List α} {v : Value} (h : TR T w (.tree n (l.map f)) v) (hT : ∀ b, T b → b < w.heap.size) (hW : ∀ a ∈ l, W a) :
    SliceRep (Rep.flatW n cells W hl) (Lt w.heap.size) w l v := by
  generalize hxs : l.map f = xs at h
  have hlen : xs.length = l.length := by rw [← hxs]; simp
  cases h with
  | tree0 h =>
    have : l = [] := List.eq_nil_of_length_eq_zero (by simpa using hlen.symm)
    subst this
    exact ⟨_, _, rfl, Nat.zero_le _, h, Nat.zero_le _, .inl rfl⟩
  | tree cell hb h1 h2 h3 h4 h5 h6 =>
    rename_i b off cap
    refine ⟨some ⟨b, off, none⟩, cap, by rw [hlen], by omega, h2, by omega, .inr ⟨b, off, rfl, hT b hb, fun k hk => ?_⟩⟩
    have hk' : k < xs.length := by omega
    have hx : xs[k] = (cells l[k]).map .v := by subst hxs; simp [hf]
    refine ⟨cells l[k], ⟨rfl, hW _ (List.getElem_mem _)⟩, fun j hj => ?_⟩
    have hjn : j < n := by rw [hl] at hj; exact hj
    have hjx : j < xs[k].length := by rw [h4 k hk']; exact hjn
    have e1 := h6 k hk' j hjx
    have e2 : xs[k][j] = .v ((cells l[k])[j]) := by
      have : xs[k][j]? = some (.v ((cells l[k])[j])) := by rw [hx]; simp [hj]
      rw [List.getElem?_eq_getElem hjx] at this
      exact Option.some.inj this
    rw [e2] at e1
    have e3 := e1.v_inv
    show w.cell? ⟨b, off + k * n + j, none⟩ = _
    rw [h5 k j hk' hjn, e3, List.getElem?_eq_getElem hj]

theorem TR.of_SliceRep {α : Type} {n : Nat} {cells : α → List Value} {W : α → Prop} {hl : ∀ a, (cells a).length = n} {f : α → List AV} (hf : ∀ a, f a = (cells a).map .v) {S : Nat → Prop} {w : World} {l : List α} {v : Value} (h : SliceRep (Rep.flatW n cells W hl) S w l v) : TR S w (.tree n (l.map f)) v := by
  obtain ⟨a, cap, rfl, h1, h2, h3, h4⟩ := h
  rcases h4 with rfl | ⟨b, off, rfl, hb, h4⟩
  · exact .tree0 h2
  · have hlen : (l.map f).length = l.length := by simp
    have := TR.tree (T := S) (w := w) (n := n) (xs := l.map f) (b := b) (off := off) (cap := cap) (fun k j => if h : k < l.length then (cells l[k]).getD j undef else undef) hb (by rw [hlen]; exact h1) h2 (by rw [hlen]; exact h3)
      (fun k hk => by simp [hf, hl]) (fun k j hk hj => ?_) (fun k hk j hj => ?_)
    · rw [hlen] at this; exact this
    · have hk' : k < l.length := by simpa using hk
      obtain ⟨lc, ⟨hlc, _⟩, hc⟩ := h4 k hk'
      subst hlc
      have hj' : j < (cells l[k]).length := by rw [hl]; exact hj
      have := hc j hj'
      have e : (Rep.flatW n cells W hl).n = n := rfl
      rw [e] at this
      rw [this]
      simp [hk', List.getD, hj']
    · have hk' : k < l.length := by simpa using hk
      have hj' : j < (cells l[k]).length := by simpa [hf] using hj
      have e1 : (l.map f)[k][j] = .v ((cells l[k])[j]) := by
        have : (l.map f)[k][j]? = some (.v ((cells l[k])[j])) := by simp [hf, hj']
        rw [List.getElem?_eq_getElem hj] at this
        exact Option.some.inj this
      rw [e1]
      simp only [hk', dif_pos, List.getD, List.getElem?_eq_getElem hj', Option.getD_some]
      exact .v _

theorem side_TR {T : Nat → Prop} {w : World} {ss : List PSide} {v : Value} (h : TR T w (.tree 6 (ss.map sA)) v) (hT : ∀ b, T b → b < w.heap.size) (hW : ∀ s ∈ ss, s.Wf) : SliceRep sideRep (Lt w.heap.size) w ss v :=
  SliceRep.of_TR (fun _ => rfl) h hT hW
theorem val_TR {T : Nat → Prop} {w : World} {vs : List PVal} {v : Value} (h : TR T w (.tree 3 (vs.map vA)) v) (hT : ∀ b, T b → b < w.heap.size) (hW : ∀ s ∈ vs, s.Wf) : SliceRep valRep (Lt w.heap.size) w vs v :=
  SliceRep.of_TR (fun _ => rfl) h hT hW

/-- A box as plain data: its table and its sides. -/
def bxA (t : Int) (ss : List PSide) : AV := .agg [.v (.int .i64 t), .tree 6 (ss.map sA)]
def rwA (vs : List PVal) : AV := .tree 3 (vs.map vA)

theorem box_TR {T : Nat → Prop} {w : World} {t : Int} {ss : List PSide} {x : Value} (h : TR T w (bxA t ss) x) (hT : ∀ b, T b → b < w.heap.size) (hW : ∀ s ∈ ss, s.Wf) : ∃ sv, x = .agg #[.int .i64 t, sv] ∧ SliceRep sideRep (Lt w.heap.size) w ss sv := by
  cases h with
  | agg hl hi =>
    rename_i vs
    obtain ⟨l⟩ := vs
    match l, hl with
    | [x0, x1], _ =>
      have e0 := hi 0 (by simp) (by simp)
      have e1 := hi 1 (by simp) (by simp)
      simp only [List.getElem_cons_zero, List.getElem_cons_succ, List.getElem_toArray] at e0 e1
      exact ⟨x1, by rw [e0.v_inv], side_TR e1 hT hW⟩

theorem args1 {T : Nat → Prop} {w : World} {a : AV} {vals : Array Value} (h : TRs T w [a] vals) : ∃ x, vals = #[x] ∧ TR T w a x := by
  obtain ⟨h1, h2⟩ := h
  obtain ⟨l⟩ := vals
  match l, h1 with
  | [x], _ => exact ⟨x, rfl, h2 0 (by simp) (by simp)⟩
theorem args2 {T : Nat → Prop} {w : World} {a b : AV} {vals : Array Value} (h : TRs T w [a, b] vals) : ∃ x y, vals = #[x, y] ∧ TR T w a x ∧ TR T w b y := by
  obtain ⟨h1, h2⟩ := h
  obtain ⟨l⟩ := vals
  match l, h1 with
  | [x, y], _ => exact ⟨x, y, rfl, h2 0 (by simp) (by simp), h2 1 (by simp) (by simp)⟩

theorem gives_v {T : Nat → Prop} {w w' : World} {y : Value} {e : Ending} (hT : ∀ b, T b → b < w.heap.size) (h : e = .returned y ∧ Below w.heap.size w w') : Gives T w (.v y) e w' :=
  ⟨y, T, h.1, .v y, fun _ h => h, fun _ h => .inl h, fun b hb => Nat.lt_of_lt_of_le (hT b hb) h.2.size, h.2⟩
theorem gives_box {T : Nat → Prop} {w w' : World} {t : Int} {ss : List PSide} {e : Ending} (hT : ∀ b, T b → b < w.heap.size)
    (h : (∃ v', e = .returned (.agg #[.int .i64 t, v']) ∧ SliceRep sideRep (Btw w.heap.size w'.heap.size) w' ss v') ∧ Below w.heap.size w w') : Gives T w (bxA t ss) e w' := by
  obtain ⟨⟨v', he, hs⟩, hb⟩ := h
  refine ⟨_, fun b => T b ∨ Btw w.heap.size w'.heap.size b, he, ?_, fun _ h => .inl h, fun b h => h.imp id (fun h => h.1), fun b h => h.elim (fun h => Nat.lt_of_lt_of_le (hT b h) hb.size) (fun h => h.2), hb⟩
  refine .agg rfl (fun i hi hi' => ?_)
  match i, hi with
  | 0, _ => exact .v _
  | 1, _ => exact (TR.of_SliceRep (fun _ => rfl) hs).mono (fun b h => .inr h) (fun _ _ => rfl)

section
variable {ss ts : List PSide} {vs us : List PVal} {t t2 : Int}

theorem right_p (hs : ∀ s ∈ ss, s.Wf) : PCall Try.prog 9 [bxA t ss] (.v (.bool (rightB ss))) := by
  intro T w vals h hT
  obtain ⟨x, rfl, hx⟩ := args1 h
  obtain ⟨sv, rfl, hsv⟩ := box_TR hx hT hs
  exact (right_any t ss sv w hsv).mono fun e w' h => gives_v hT h
theorem validR_p (hv : ∀ s ∈ vs, s.Wf) : PCall Try.prog 10 [rwA vs] (.v (.bool (validR vs))) := by
  intro T w vals h hT
  obtain ⟨x, rfl, hx⟩ := args1 h
  exact (validR_any vs x w (val_TR hx hT hv)).mono fun e w' h => gives_v hT h
theorem contains_p (hs : ∀ s ∈ ss, s.Wf) (hv : ∀ s ∈ vs, s.Wf) : PCall Try.prog 11 [bxA t ss, rwA vs] (.v (.bool (containsB ss vs))) := by
  intro T w vals h hT
  obtain ⟨x, y, rfl, hx, hy⟩ := args2 h
  obtain ⟨sv, rfl, hsv⟩ := box_TR hx hT hs
  exact (contains_any t ss sv vs y w hsv (val_TR hy hT hv)).mono fun e w' h => gives_v hT h
theorem rcontains_p (hs : ∀ s ∈ ss, s.Wf) (hv : ∀ s ∈ vs, s.Wf) : PCall Try.prog 13 [bxA t ss, rwA vs] (.v (.bool (containsB ss vs))) := by
  intro T w vals h hT
  obtain ⟨x, y, rfl, hx, hy⟩ := args2 h
  obtain ⟨sv, rfl, hsv⟩ := box_TR hx hT hs
  exact (rcontains_any t ss sv vs y w hsv (val_TR hy hT hv)).mono fun e w' h => gives_v hT h
theorem own_p (hs : ∀ s ∈ ss, s.Wf) (hn : ss.length ≤ 10000) : PCall Try.prog 12 [bxA t ss] (bxA t ss) := by
  intro T w vals h hT
  obtain ⟨x, rfl, hx⟩ := args1 h
  obtain ⟨sv, rfl, hsv⟩ := box_TR hx hT hs
  exact (own_any t ss sv w hsv hn).mono fun e w' h => gives_box hT h
theorem back_p (hs : ∀ s ∈ ss, s.Wf) (hn : ss.length ≤ 10000) : PCall Try.prog 19 [bxA t ss] (bxA t ss) := by
  intro T w vals h hT
  obtain ⟨x, rfl, hx⟩ := args1 h
  obtain ⟨sv, rfl, hsv⟩ := box_TR hx hT hs
  exact (back_any t ss sv w hsv hn).mono fun e w' h => gives_box hT h
theorem meet_p (hs : ∀ s ∈ ss, s.Wf) (ht : ∀ s ∈ ts, s.Wf) : PCall Try.prog 14 [bxA t ss, bxA t2 ts] (.v (.bool (meetB t ss t2 ts))) := by
  intro T w vals h hT
  obtain ⟨x, y, rfl, hx, hy⟩ := args2 h
  obtain ⟨sv, rfl, hsv⟩ := box_TR hx hT hs
  obtain ⟨tv, rfl, htv⟩ := box_TR hy hT ht
  exact (meet_any t t2 ss ts sv tv w hsv htv).mono fun e w' h => gives_v hT h
theorem rmeet_p (hs : ∀ s ∈ ss, s.Wf) (ht : ∀ s ∈ ts, s.Wf) : PCall Try.prog 15 [bxA t ss, bxA t2 ts] (.v (.bool (meetB t ss t2 ts))) := by
  intro T w vals h hT
  obtain ⟨x, y, rfl, hx, hy⟩ := args2 h
  obtain ⟨sv, rfl, hsv⟩ := box_TR hx hT hs
  obtain ⟨tv, rfl, htv⟩ := box_TR hy hT ht
  exact (rmeet_any t t2 ss ts sv tv w hsv htv).mono fun e w' h => gives_v hT h
theorem same_p (hs : ∀ s ∈ ss, s.Wf) (ht : ∀ s ∈ ts, s.Wf) : PCall Try.prog 18 [bxA t ss, bxA t2 ts] (.v (.bool (sameB t ss t2 ts))) := by
  intro T w vals h hT
  obtain ⟨x, y, rfl, hx, hy⟩ := args2 h
  obtain ⟨sv, rfl, hsv⟩ := box_TR hx hT hs
  obtain ⟨tv, rfl, htv⟩ := box_TR hy hT ht
  exact (same_any t t2 ss ts sv tv w hsv htv).mono fun e w' h => gives_v hT h
theorem typed_p (hs : ∀ s ∈ ss, s.Wf) (hv : ∀ s ∈ vs, s.Wf) : PCall Try.prog 16 [bxA t ss, rwA vs] (.v (.bool (typedB ss vs))) := by
  intro T w vals h hT
  obtain ⟨x, y, rfl, hx, hy⟩ := args2 h
  obtain ⟨sv, rfl, hsv⟩ := box_TR hx hT hs
  exact (typed_any t ss vs sv y w hsv (val_TR hy hT hv)).mono fun e w' h => gives_v hT h
theorem fits_p (hv : ∀ s ∈ vs, s.Wf) (hu : ∀ s ∈ us, s.Wf) (hl : vs.length = us.length) : PCall Try.prog 23 [rwA vs, rwA us] (.v (.bool (allZip valFits vs us))) := by
  intro T w vals h hT
  obtain ⟨x, y, rfl, hx, hy⟩ := args2 h
  exact (fits_loop vs us x y w (val_TR hx hT hv) (val_TR hy hT hu) hl).mono fun e w' h => gives_v hT h
theorem hullc_p (hs : ∀ s ∈ ss, s.Wf) (ht : ∀ s ∈ ts, s.Wf) (hne : ss ≠ []) (hle : ts.length ≤ ss.length) (hsm : ss.length ≤ 10000) : PCall Try.prog 17 [bxA t ss, bxA t2 ts] (bxA t ((List.range ss.length).map (hullAt ss ts ts.length))) := by
  intro T w vals h hT
  obtain ⟨x, y, rfl, hx, hy⟩ := args2 h
  obtain ⟨sv, rfl, hsv⟩ := box_TR hx hT hs
  obtain ⟨tv, rfl, htv⟩ := box_TR hy hT ht
  exact (hull_core t t2 ss ts sv tv w hsv htv hne hle hsm).mono fun e w' h => gives_box hT h
theorem rhulll_p (hs : ∀ s ∈ ss, s.Wf) (ht : ∀ s ∈ ts, s.Wf) (hl : ss.length = ts.length) (hne : ss.length ≠ 0) (hsm : ss.length ≤ 10000) : PCall Try.prog 20 [bxA t ss, bxA t2 ts] (bxA t (List.zipWith rsideHull ss ts)) := by
  intro T w vals h hT
  obtain ⟨x, y, rfl, hx, hy⟩ := args2 h
  obtain ⟨sv, rfl, hsv⟩ := box_TR hx hT hs
  obtain ⟨tv, rfl, htv⟩ := box_TR hy hT ht
  exact (rhull_loop t t2 ss ts sv tv w hsv htv hl hne hsm).mono fun e w' h => gives_box hT h
theorem row_p (hv : ∀ s ∈ vs, s.Wf) (hn : vs.length ≤ 10000) : PCall Try.prog 21 [.v (.int .i64 t), rwA vs] (bxA t (vs.map rowSide)) := by
  intro T w vals h hT
  obtain ⟨x, y, rfl, hx, hy⟩ := args2 h
  rw [hx.v_inv]
  exact (row_any t vs y w (val_TR hy hT hv) hn).mono fun e w' h => gives_box hT h
theorem rrow_p (hv : ∀ s ∈ vs, s.Wf) (hn : vs.length ≤ 10000) (hk : ∀ x ∈ vs, x.kind = 0 ∨ x.kind = 1 ∨ x.kind = 2) : PCall Try.prog 22 [.v (.int .i64 t), rwA vs] (bxA t (vs.map rowSide)) := by
  intro T w vals h hT
  obtain ⟨x, y, rfl, hx, hy⟩ := args2 h
  rw [hx.v_inv]
  exact (rrow_any t vs y w (val_TR hy hT hv) hn hk).mono fun e w' h => gives_box hT h
end
end Go.Proofs.Ytcbpakbhklbdnaa
