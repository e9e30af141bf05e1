/- Plain values for what a call handles: immutable trees by value, blocks of the call's own by number. What it means that a state of the machine is read so, and that it stays so. Nothing of the program stands here. -/
import Derived.WalkKit
import Derived.Below
import Derived.Lib.Hide
import Derived.Laws.AppendOwn
import Derived.Orders
namespace Go.Proofs.Ytcbpakbhklbdnaa
set_option linter.unusedVariables false
open Go.RowKit

/-- A value as the proofs see it. -/
inductive AV where
  | v (x : Value)
  | ptr (id ver off : Nat)
  | sl (id ver off len : Nat)
  | tree (n : Nat) (xs : List (List AV))
  | tp (cs : List AV) (off : Nat)
  | clo (f : FuncId) (caps : List AV)
  | agg (cs : List AV)
  | tup (vs : List AV)
  | unk
instance : Inhabited AV := ⟨.unk⟩

/-- What needs no block of the call's own: T: the blocks that nobody writes any more. -/
inductive TR (T : Nat → Prop) (w : World) : AV → Value → Prop where
  | v (x : Value) : TR T w (.v x) x
  | unk (x : Value) : TR T w .unk x
  | agg {cs : List AV} {vs : Array Value} : cs.length = vs.size → (∀ i (h : i < cs.length) (h' : i < vs.size), TR T w cs[i] vs[i]) → TR T w (.agg cs) (.agg vs)
  | tup {cs : List AV} {vs : Array Value} : cs.length = vs.size → (∀ i (h : i < cs.length) (h' : i < vs.size), TR T w cs[i] vs[i]) → TR T w (.tup cs) (.tuple vs)
  | clo {f : FuncId} {cs : List AV} {vs : Array Value} : cs.length = vs.size → (∀ i (h : i < cs.length) (h' : i < vs.size), TR T w cs[i] vs[i]) → TR T w (.clo f cs) (.func (.func f) #[] vs)
  | tree {n : Nat} {xs : List (List AV)} {b off cap : Nat} (cell : Nat → Nat → Value) : T b → xs.length ≤ cap → cap ≤ maxLen → xs.length ≤ 140737488355328 → (∀ k (h : k < xs.length), xs[k].length = n) →
      (∀ k j, k < xs.length → j < n → w.cell? ⟨b, off + k * n + j, none⟩ = some (cell k j)) → (∀ k (h : k < xs.length) j (h' : j < xs[k].length), TR T w xs[k][j] (cell k j)) →
      TR T w (.tree n xs) (.slice (some ⟨b, off, none⟩) xs.length cap)
  | tree0 {n : Nat} {a : Option Addr} {cap : Nat} : cap ≤ maxLen → TR T w (.tree n []) (.slice a 0 cap)
  | tp {cs : List AV} {b off o : Nat} (cell : Nat → Value) : T b → (∀ j, j < cs.length → w.cell? ⟨b, off + j, none⟩ = some (cell j)) → (∀ j (h : j < cs.length), TR T w cs[j] (cell j)) → TR T w (.tp cs o) (.pointer (some ⟨b, off + o, none⟩))

theorem TR.mono {T T' : Nat → Prop} {w w' : World} (hT : ∀ b, T b → T' b) (hw : ∀ b, T b → w'.heap[b]? = w.heap[b]?) {a : AV} {x : Value} (h : TR T w a x) : TR T' w' a x := by
  induction h with
  | v x => exact .v x
  | unk x => exact .unk x
  | agg hl _ ih => exact .agg hl ih
  | tup hl _ ih => exact .tup hl ih
  | clo hl _ ih => exact .clo hl ih
  | tree cell hb h1 h2 h3 h4 h5 _ ih => exact .tree cell (hT _ hb) h1 h2 h3 h4 (fun k j hk hj => by rw [World.cell?_of_block (w := w) (hw _ hb)]; exact h5 k j hk hj) ih
  | tree0 h => exact .tree0 h
  | tp cell hb h1 _ ih => exact .tp cell (hT _ hb) (fun j hj => by rw [World.cell?_of_block (w := w) (hw _ hb)]; exact h1 j hj) ih

/-- A block of the call's own: its version (one more for each append), its cells, the size of an element if it is an array, whether it is a slice that is nil so far. -/
structure Blk where
  ver : Nat
  cs : List AV
  esz : Nat
  nilp : Bool

abbrev Heap := Nat → Option Blk

/-- How the numbers of blocks lie in a world. -/
structure Ctx where
  ρ : Nat → Nat × Nat
  sz : Nat → Nat
  η : Heap
  U : Nat → Prop
  T : Nat → Prop
  w : World

inductive VR (C : Ctx) : AV → Value → Prop where
  | imm {a : AV} {x : Value} : TR C.T C.w a x → VR C a x
  | ptr {id ver off : Nat} {b : Blk} : C.η id = some b → b.ver = ver → b.nilp = false → VR C (.ptr id ver off) (.pointer (some ⟨(C.ρ id).1, (C.ρ id).2 + off, none⟩))
  | sl {id ver off len cap : Nat} {b : Blk} : C.η id = some b → b.ver = ver → b.nilp = false → len ≤ cap → cap ≤ maxLen → len ≤ 140737488355328 → (C.ρ id).2 + off + cap * b.esz ≤ C.sz id →
      VR C (.sl id ver off len) (.slice (some ⟨(C.ρ id).1, (C.ρ id).2 + off, none⟩) len cap)
  | slz {id ver off : Nat} {b : Blk} {ad : Addr} : C.η id = some b → b.ver = ver → b.nilp = false → VR C (.sl id ver off 0) (.slice (some ad) 0 0)
  | slnil {id ver : Nat} {b : Blk} : C.η id = some b → b.ver = ver → b.nilp = true → VR C (.sl id ver 0 0) (.slice none 0 0)
  | stalep {id ver off : Nat} {x : Value} : x.oneCell' = true → C.U id → (∀ b, C.η id = some b → ver < b.ver) → VR C (.ptr id ver off) x
  | stales {id ver off len : Nat} {x : Value} : x.oneCell' = true → C.U id → (∀ b, C.η id = some b → ver < b.ver) → VR C (.sl id ver off len) x
  | agg {cs : List AV} {vs : Array Value} : cs.length = vs.size → (∀ i (h : i < cs.length) (h' : i < vs.size), VR C cs[i] vs[i]) → VR C (.agg cs) (.agg vs)
  | tup {cs : List AV} {vs : Array Value} : cs.length = vs.size → (∀ i (h : i < cs.length) (h' : i < vs.size), VR C cs[i] vs[i]) → VR C (.tup cs) (.tuple vs)
  | clo {f : FuncId} {cs : List AV} {vs : Array Value} : cs.length = vs.size → (∀ i (h : i < cs.length) (h' : i < vs.size), VR C cs[i] vs[i]) → VR C (.clo f cs) (.func (.func f) #[] vs)

/-- A block that is the call's own and lies in memory. -/
def Ctx.live (C : Ctx) (id : Nat) : Prop := ∃ b, C.η id = some b ∧ b.nilp = false
/-- Blocks of the world that the call may write. -/
def Ctx.mine (C : Ctx) (k : Nat) : Prop := ∃ id, C.live id ∧ (C.ρ id).1 = k

structure Good (C : Ctx) : Prop where
  used : ∀ {id b}, C.η id = some b → C.U id
  nils : ∀ {id b}, C.η id = some b → b.nilp = true → b.cs = []
  blk : ∀ {id b}, C.η id = some b → b.nilp = false → ∃ cells t, C.w.heap[(C.ρ id).1]? = some (.cells cells t (0, 0)) ∧ cells.size = C.sz id ∧ (C.ρ id).2 + b.cs.length ≤ cells.size ∧
      ∀ j (h : j < b.cs.length) (h' : (C.ρ id).2 + j < cells.size), VR C b.cs[j] cells[(C.ρ id).2 + j]
  inj : ∀ {id id'}, C.live id → C.live id' → (C.ρ id).1 = (C.ρ id').1 → id = id'
  tlt : ∀ {k}, C.T k → k < C.w.heap.size
  apart : ∀ {k}, C.mine k → ¬ C.T k

/-- What the world of C' keeps of C's. -/
structure Fr (C C' : Ctx) : Prop where
  os : C'.w.os = C.w.os
  tape : C'.w.tape = C.w.tape
  output : C'.w.output = C.w.output
  size : C.w.heap.size ≤ C'.w.heap.size
  keep : ∀ k, k < C.w.heap.size → ¬ C.mine k → C'.w.heap[k]? = C.w.heap[k]?
  mine : ∀ k, C'.mine k → C.mine k ∨ C.w.heap.size ≤ k
  T : ∀ k, C.T k → C'.T k
  Tnew : ∀ k, C'.T k → C.T k ∨ C.mine k ∨ C.w.heap.size ≤ k
/-- C' is a later state of C. -/
structure Ev (C C' : Ctx) : Prop extends Fr C C' where
  U : ∀ id, C.U id → C'.U id
  old : ∀ id b', C.U id → C'.η id = some b' → ∃ b, C.η id = some b ∧ b.ver ≤ b'.ver ∧ (b.ver = b'.ver → C'.ρ id = C.ρ id ∧ C'.sz id = C.sz id ∧ b'.nilp = b.nilp ∧ b'.esz = b.esz)

theorem VR.mono {C C' : Ctx} (hg : Good C) (h : Ev C C') {a : AV} {x : Value} (hv : VR C a x) : VR C' a x := by
  have dead : ∀ {id ver : Nat} {b : Blk}, C.η id = some b → b.ver = ver → (∀ b', C'.η id = some b' → ver < b'.ver) ∨ ∃ b', C'.η id = some b' ∧ b'.ver = ver ∧ C'.ρ id = C.ρ id ∧ C'.sz id = C.sz id ∧ b'.nilp = b.nilp ∧ b'.esz = b.esz := by
    intro id ver b hb hv
    cases hb' : C'.η id with
    | none => exact .inl (fun b' h => by cases h)
    | some b' =>
      obtain ⟨b0, h0, hle, heq⟩ := h.old id b' (hg.used hb) hb'
      rw [hb] at h0
      cases h0
      by_cases e : b.ver = b'.ver
      · obtain ⟨e1, e2, e3, e4⟩ := heq e
        exact .inr ⟨b', rfl, by omega, e1, e2, e3, e4⟩
      · exact .inl (fun b'' h'' => by cases h''; omega)
  have stale : ∀ {id ver : Nat}, C.U id → (∀ b, C.η id = some b → ver < b.ver) → ∀ b', C'.η id = some b' → ver < b'.ver := by
    intro id ver hu hs b' hb'
    obtain ⟨b, hb, hle, _⟩ := h.old id b' hu hb'
    have := hs b hb
    omega
  induction hv with
  | imm ht => exact .imm (ht.mono h.T (fun k hk => h.keep k (hg.tlt hk) (fun hm => hg.apart hm hk)))
  | ptr hb he hn =>
    rcases dead hb he with hd | ⟨b', hb', e0, e1, e2, e3, e4⟩
    · exact .stalep rfl (h.U _ (hg.used hb)) hd
    · rw [← e1]; exact .ptr hb' e0 (e3.trans hn)
  | sl hb he hn h1 h2 h3 h4 =>
    rcases dead hb he with hd | ⟨b', hb', e0, e1, e2, e3, e4⟩
    · exact .stales rfl (h.U _ (hg.used hb)) hd
    · rw [← e1]; exact .sl hb' e0 (e3.trans hn) h1 h2 h3 (by rw [e1, e2, e4]; exact h4)
  | slz hb he hn =>
    rcases dead hb he with hd | ⟨b', hb', e0, e1, e2, e3, e4⟩
    · exact .stales rfl (h.U _ (hg.used hb)) hd
    · exact .slz hb' e0 (e3.trans hn)
  | slnil hb he hn =>
    rcases dead hb he with hd | ⟨b', hb', e0, e1, e2, e3, e4⟩
    · exact .stales rfl (h.U _ (hg.used hb)) hd
    · exact .slnil hb' e0 (e3.trans hn)
  | stalep h1 hu hs => exact .stalep h1 (h.U _ hu) (stale hu hs)
  | stales h1 hu hs => exact .stales h1 (h.U _ hu) (stale hu hs)
  | agg hl _ ih => exact .agg hl ih
  | tup hl _ ih => exact .tup hl ih
  | clo hl _ ih => exact .clo hl ih

theorem Fr.refl (C : Ctx) : Fr C C :=
  ⟨rfl, rfl, rfl, Nat.le_refl _, fun _ _ _ => rfl, fun _ h => .inl h, fun _ h => h, fun _ h => .inl h⟩
theorem Ev.refl (C : Ctx) : Ev C C :=
  ⟨Fr.refl C, fun _ h => h, fun id b' _ hb => ⟨b', hb, Nat.le_refl _, fun _ => ⟨rfl, rfl, rfl, rfl⟩⟩⟩

theorem Fr.trans {A B C : Ctx} (h : Fr A B) (k : Fr B C) : Fr A C where
  os := k.os.trans h.os
  tape := k.tape.trans h.tape
  output := k.output.trans h.output
  size := Nat.le_trans h.size k.size
  keep := fun i hi hm => (k.keep i (Nat.lt_of_lt_of_le hi h.size) (fun hb => (h.mine i hb).elim hm (fun hle => by omega))).trans (h.keep i hi hm)
  mine := fun i hi => (k.mine i hi).elim (fun hb => h.mine i hb) (fun hle => .inr (Nat.le_trans h.size hle))
  T := fun i hi => k.T i (h.T i hi)
  Tnew := fun i hi => by
    rcases k.Tnew i hi with h1 | h1 | h1
    · exact h.Tnew i h1
    · exact .inr (h.mine i h1)
    · exact .inr (.inr (Nat.le_trans h.size h1))

theorem Ev.trans {A B C : Ctx} (h : Ev A B) (k : Ev B C) : Ev A C where
  toFr := h.toFr.trans k.toFr
  U := fun i hi => k.U i (h.U i hi)
  old := fun id b'' hu hb => by
    obtain ⟨b', hb', hle, heq⟩ := k.old id b'' (h.U id hu) hb
    obtain ⟨b, hb0, hle0, heq0⟩ := h.old id b' hu hb'
    refine ⟨b, hb0, Nat.le_trans hle0 hle, fun e => ?_⟩
    obtain ⟨e1, e2, e3, e4⟩ := heq (by omega)
    obtain ⟨f1, f2, f3, f4⟩ := heq0 (by omega)
    exact ⟨e1.trans f1, e2.trans f2, e3.trans f3, e4.trans f4⟩
end Go.Proofs.Ytcbpakbhklbdnaa
