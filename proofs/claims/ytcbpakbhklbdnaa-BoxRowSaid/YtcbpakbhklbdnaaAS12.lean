/- Small rules for walks over plain values. -/
import Derived.Test.YtcbpakbhklbdnaaAS11
import Derived.IntWalk
namespace Go.Proofs.Ytcbpakbhklbdnaa
set_option linter.unusedVariables false
open Go.RowKit

theorem fitsF.nil {τ : Nat → AV} {u : Nat} : fitsF τ u [] := trivial
theorem fitsF.cons {τ : Nat → AV} {u t : Nat} {a : AV} {r : List (Nat × AV)} (h1 : τ t = a) (h2 : a.lowB u = true) (h3 : fitsF τ u r) : fitsF τ u ((t, a) :: r) := ⟨h1, h2, h3⟩
theorem fitsH.nil {η : Heap} {u : Nat} : fitsH η u [] := trivial
theorem fitsH.cons {η : Heap} {u id : Nat} {b : Blk} {r : List (Nat × Blk)} (h1 : η id = some b) (h2 : Nat.ble (id + 1) u = true) (h3 : lowL u b.cs = true) (h4 : fitsH η u r) : fitsH η u ((id, b) :: r) := ⟨h1, h2, h3, h4⟩

section
variable {P : Program} {τ : Nat → AV} {η : Heap} {d : Option Tmp} {ty : TypeId} {pos : String} {af : Array Edge} {g : Option (Nat × Bool)} {N : Nat} {Q : Exit → St → Prop} {s : St}

/-- Sums that stay in range. -/
theorem LOp.addI {t t' : Nat} {x y : Operand} {m n : Int} (hx : aev τ x = .v (.int .i64 m)) (hy : aev τ y = .v (.int .i64 n)) (h1 : -9223372036854775808 ≤ m + n) (h2 : m + n ≤ 9223372036854775807) :
    LOp P ⟨d, .binOp .add t x y t', ty, pos, af, g⟩ τ η [] [] (.v (.int .i64 (m + n))) :=
  .look [] fun C a _ hxs _ => by
    have e1 := hxs x (by simp [Op.operands])
    have e2 := hxs y (by simp [Op.operands])
    rw [hx] at e1
    rw [hy] at e2
    refine ⟨.int .i64 (m + n), ?_, VR.v C _⟩
    rw [← IntWalk.i64_in (m + n) ⟨h1, h2⟩]
    simp only [execOp, e1.v_inv, e2.v_inv]
    rfl
theorem LOp.subI {t t' : Nat} {x y : Operand} {m n : Int} (hx : aev τ x = .v (.int .i64 m)) (hy : aev τ y = .v (.int .i64 n)) (h1 : -9223372036854775808 ≤ m - n) (h2 : m - n ≤ 9223372036854775807) :
    LOp P ⟨d, .binOp .sub t x y t', ty, pos, af, g⟩ τ η [] [] (.v (.int .i64 (m - n))) :=
  .look [] fun C a _ hxs _ => by
    have e1 := hxs x (by simp [Op.operands])
    have e2 := hxs y (by simp [Op.operands])
    rw [hx] at e1
    rw [hy] at e2
    refine ⟨.int .i64 (m - n), ?_, VR.v C _⟩
    rw [← IntWalk.i64_in (m - n) ⟨h1, h2⟩]
    simp only [execOp, e1.v_inv, e2.v_inv]
    rfl
theorem LOp.pickB {c x y : Operand} {t p q : Bool} (hc : aev τ c = .v (.bool t)) (hx : aev τ x = .v (.bool p)) (hy : aev τ y = .v (.bool q)) :
    LOp P ⟨d, .pick c x y, ty, pos, af, g⟩ τ η [] [] (.v (.bool (bif t then p else q))) := by
  have := LOp.pick (P := P) (τ := τ) (η := η) (d := d) (ty := ty) (pos := pos) (af := af) (g := g) (x := x) (y := y) hc
  cases t
  · simp only [Bool.false_eq_true, if_false] at this; rw [hy] at this; exact this
  · simp only [if_true] at this; rw [hx] at this; exact this

theorem upd_self {τ : Nat → AV} {t : Nat} {a : AV} (h : τ t = a) : upd τ t a = τ := by
  funext q
  unfold upd
  cases hb : Nat.beq q t with
  | true => rw [Nat.eq_of_beq_eq_true hb, h]; rfl
  | false => rfl

/-! ### Steps: each leaves a state in full -/
section
variable {ops : Array Oper} {l : List Oper} {K : St → Prop} {u : Nat} {op : Op} {rs : List Rec} {s' : St}

theorem AOps.lk {d : Nat} {fp : List Nat} {v : AV} (hL : LOp P ⟨some d, op, ty, pos, af, g⟩ τ η fp [] v) (hw : want ops τ ⟨some d, op, ty, pos, af, g⟩ = some true) (hd : dstOk N ops ⟨some d, op, ty, pos, af, g⟩ = true)
    (h : AOps P N ops l K ⟨upd τ d v, η, u⟩) : AOps P N ops (⟨some d, op, ty, pos, af, g⟩ :: l) K ⟨τ, η, u⟩ :=
  AOps.op (s := ⟨τ, η, u⟩) u hL hw hd (by simp [Nat.ble_eq]) rfl h
theorem newOk_new {u : Nat} {b : Option Blk} : newOk [] [(u, b)] u (u + 1) = true := by simp [newOk, Nat.ble_eq]
theorem newOk_old {id u : Nat} {b : Option Blk} (h : Nat.ble (id + 1) u = true) : newOk [id] [(id, b)] u u = true := by simp [newOk, h]
theorem AOps.nw {d : Nat} {v : AV} {b : Option Blk} (hL : LOp P ⟨some d, op, ty, pos, af, g⟩ τ η [] [(u, b)] v) (hw : want ops τ ⟨some d, op, ty, pos, af, g⟩ = some true) (hd : dstOk N ops ⟨some d, op, ty, pos, af, g⟩ = true) (u' : Nat) (hu : u' = u + 1)
    (h : AOps P N ops l K ⟨upd τ d v, η.set u b, u'⟩) : AOps P N ops (⟨some d, op, ty, pos, af, g⟩ :: l) K ⟨τ, η, u⟩ := by
  subst hu
  exact AOps.op (s := ⟨τ, η, u⟩) (u + 1) hL hw hd (by simp [Nat.ble_eq]) newOk_new h
theorem AOps.wr {v : AV} {id : Nat} {b : Option Blk} (hL : LOp P ⟨none, op, ty, pos, af, g⟩ τ η [id] [(id, b)] v) (hw : want ops τ ⟨none, op, ty, pos, af, g⟩ = some true) (hd : dstOk N ops ⟨none, op, ty, pos, af, g⟩ = true) (hi : Nat.ble (id + 1) u = true)
    (h : AOps P N ops l K ⟨τ, η.set id b, u⟩) : AOps P N ops (⟨none, op, ty, pos, af, g⟩ :: l) K ⟨τ, η, u⟩ :=
  AOps.op (s := ⟨τ, η, u⟩) u hL hw hd (by simp [Nat.ble_eq]) (newOk_old hi) h
theorem AOps.wrD {d : Nat} {v : AV} {id : Nat} {b : Option Blk} (hL : LOp P ⟨some d, op, ty, pos, af, g⟩ τ η [id] [(id, b)] v) (hw : want ops τ ⟨some d, op, ty, pos, af, g⟩ = some true) (hd : dstOk N ops ⟨some d, op, ty, pos, af, g⟩ = true) (hi : Nat.ble (id + 1) u = true)
    (h : AOps P N ops l K ⟨upd τ d v, η.set id b, u⟩) : AOps P N ops (⟨some d, op, ty, pos, af, g⟩ :: l) K ⟨τ, η, u⟩ :=
  AOps.op (s := ⟨τ, η, u⟩) u hL hw hd (by simp [Nat.ble_eq]) (newOk_old hi) h
theorem AOps.sk {d : Nat} (hw : want ops τ ⟨some d, op, ty, pos, af, g⟩ = some false) (hd : dstOk N ops ⟨some d, op, ty, pos, af, g⟩ = true)
    (h : AOps P N ops l K ⟨upd τ d (.v undef), η, u⟩) : AOps P N ops (⟨some d, op, ty, pos, af, g⟩ :: l) K ⟨τ, η, u⟩ := AOps.skip (s := ⟨τ, η, u⟩) hw hd h
theorem AOps.skN (hw : want ops τ ⟨none, op, ty, pos, af, g⟩ = some false) (hd : dstOk N ops ⟨none, op, ty, pos, af, g⟩ = true)
    (h : AOps P N ops l K ⟨τ, η, u⟩) : AOps P N ops (⟨none, op, ty, pos, af, g⟩ :: l) K ⟨τ, η, u⟩ := AOps.skip (s := ⟨τ, η, u⟩) hw hd h

theorem Seq.lk {d : Nat} {fp : List Nat} {v : AV} (hL : LOp P ⟨some d, op, ty, pos, af, g⟩ τ η fp [] v) (hw : want ops τ ⟨some d, op, ty, pos, af, g⟩ = some true) (hd : dstOk N ops ⟨some d, op, ty, pos, af, g⟩ = true)
    (h : Seq P N ops l ⟨upd τ d v, η, u⟩ rs s') : Seq P N ops (⟨some d, op, ty, pos, af, g⟩ :: l) ⟨τ, η, u⟩ (⟨fp, [], v, u⟩ :: rs) s' :=
  Seq.op (s := ⟨τ, η, u⟩) u hL hw hd (by simp [Nat.ble_eq]) rfl h
theorem Seq.nw {d : Nat} {v : AV} {b : Option Blk} (hL : LOp P ⟨some d, op, ty, pos, af, g⟩ τ η [] [(u, b)] v) (hw : want ops τ ⟨some d, op, ty, pos, af, g⟩ = some true) (hd : dstOk N ops ⟨some d, op, ty, pos, af, g⟩ = true) (u' : Nat) (hu : u' = u + 1)
    (h : Seq P N ops l ⟨upd τ d v, η.set u b, u'⟩ rs s') : Seq P N ops (⟨some d, op, ty, pos, af, g⟩ :: l) ⟨τ, η, u⟩ (⟨[], [(u, b)], v, u'⟩ :: rs) s' := by
  subst hu
  exact Seq.op (s := ⟨τ, η, u⟩) (u + 1) hL hw hd (by simp [Nat.ble_eq]) newOk_new h
theorem Seq.wr {v : AV} {id : Nat} {b : Option Blk} (hL : LOp P ⟨none, op, ty, pos, af, g⟩ τ η [id] [(id, b)] v) (hw : want ops τ ⟨none, op, ty, pos, af, g⟩ = some true) (hd : dstOk N ops ⟨none, op, ty, pos, af, g⟩ = true) (hi : Nat.ble (id + 1) u = true)
    (h : Seq P N ops l ⟨τ, η.set id b, u⟩ rs s') : Seq P N ops (⟨none, op, ty, pos, af, g⟩ :: l) ⟨τ, η, u⟩ (⟨[id], [(id, b)], v, u⟩ :: rs) s' :=
  Seq.op (s := ⟨τ, η, u⟩) u hL hw hd (by simp [Nat.ble_eq]) (newOk_old hi) h
theorem Seq.wrD {d : Nat} {v : AV} {id : Nat} {b : Option Blk} (hL : LOp P ⟨some d, op, ty, pos, af, g⟩ τ η [id] [(id, b)] v) (hw : want ops τ ⟨some d, op, ty, pos, af, g⟩ = some true) (hd : dstOk N ops ⟨some d, op, ty, pos, af, g⟩ = true) (hi : Nat.ble (id + 1) u = true)
    (h : Seq P N ops l ⟨upd τ d v, η.set id b, u⟩ rs s') : Seq P N ops (⟨some d, op, ty, pos, af, g⟩ :: l) ⟨τ, η, u⟩ (⟨[id], [(id, b)], v, u⟩ :: rs) s' :=
  Seq.op (s := ⟨τ, η, u⟩) u hL hw hd (by simp [Nat.ble_eq]) (newOk_old hi) h
theorem Seq.sk {d : Nat} (hw : want ops τ ⟨some d, op, ty, pos, af, g⟩ = some false) (hd : dstOk N ops ⟨some d, op, ty, pos, af, g⟩ = true)
    (h : Seq P N ops l ⟨upd τ d (.v undef), η, u⟩ rs s') : Seq P N ops (⟨some d, op, ty, pos, af, g⟩ :: l) ⟨τ, η, u⟩ (⟨[], [], .v undef, u⟩ :: rs) s' := Seq.skip (s := ⟨τ, η, u⟩) hw hd h

/-- The operations of a region that draws its order; at the end: the records, for the check. -/
def SeqC (P : Program) (N : Nat) (ops : Array Oper) (l : List Oper) (K : List Rec → St → Prop) (s : St) : Prop := ∃ rs s', Seq P N ops l s rs s' ∧ K rs s'
theorem SeqC.nil {K : List Rec → St → Prop} {s : St} (h : K [] s) : SeqC P N ops [] K s := ⟨[], s, .nil, h⟩
section
variable {K : List Rec → St → Prop}
theorem SeqC.lk {d : Nat} {fp : List Nat} {v : AV} (hL : LOp P ⟨some d, op, ty, pos, af, g⟩ τ η fp [] v) (hw : want ops τ ⟨some d, op, ty, pos, af, g⟩ = some true) (hd : dstOk N ops ⟨some d, op, ty, pos, af, g⟩ = true)
    (h : SeqC P N ops l (fun rs s' => K (⟨fp, [], v, u⟩ :: rs) s') ⟨upd τ d v, η, u⟩) : SeqC P N ops (⟨some d, op, ty, pos, af, g⟩ :: l) K ⟨τ, η, u⟩ := by
  obtain ⟨rs, s', h1, h2⟩ := h
  exact ⟨_, s', Seq.lk hL hw hd h1, h2⟩
theorem SeqC.nw {d : Nat} {v : AV} {b : Option Blk} (hL : LOp P ⟨some d, op, ty, pos, af, g⟩ τ η [] [(u, b)] v) (hw : want ops τ ⟨some d, op, ty, pos, af, g⟩ = some true) (hd : dstOk N ops ⟨some d, op, ty, pos, af, g⟩ = true) (u' : Nat) (hu : u' = u + 1)
    (h : SeqC P N ops l (fun rs s' => K (⟨[], [(u, b)], v, u'⟩ :: rs) s') ⟨upd τ d v, η.set u b, u'⟩) : SeqC P N ops (⟨some d, op, ty, pos, af, g⟩ :: l) K ⟨τ, η, u⟩ := by
  obtain ⟨rs, s', h1, h2⟩ := h
  exact ⟨_, s', Seq.nw hL hw hd u' hu h1, h2⟩
theorem SeqC.wr {v : AV} {id : Nat} {b : Option Blk} (hL : LOp P ⟨none, op, ty, pos, af, g⟩ τ η [id] [(id, b)] v) (hw : want ops τ ⟨none, op, ty, pos, af, g⟩ = some true) (hd : dstOk N ops ⟨none, op, ty, pos, af, g⟩ = true) (hi : Nat.ble (id + 1) u = true)
    (h : SeqC P N ops l (fun rs s' => K (⟨[id], [(id, b)], v, u⟩ :: rs) s') ⟨τ, η.set id b, u⟩) : SeqC P N ops (⟨none, op, ty, pos, af, g⟩ :: l) K ⟨τ, η, u⟩ := by
  obtain ⟨rs, s', h1, h2⟩ := h
  exact ⟨_, s', Seq.wr hL hw hd hi h1, h2⟩
theorem SeqC.wrD {d : Nat} {v : AV} {id : Nat} {b : Option Blk} (hL : LOp P ⟨some d, op, ty, pos, af, g⟩ τ η [id] [(id, b)] v) (hw : want ops τ ⟨some d, op, ty, pos, af, g⟩ = some true) (hd : dstOk N ops ⟨some d, op, ty, pos, af, g⟩ = true) (hi : Nat.ble (id + 1) u = true)
    (h : SeqC P N ops l (fun rs s' => K (⟨[id], [(id, b)], v, u⟩ :: rs) s') ⟨upd τ d v, η.set id b, u⟩) : SeqC P N ops (⟨some d, op, ty, pos, af, g⟩ :: l) K ⟨τ, η, u⟩ := by
  obtain ⟨rs, s', h1, h2⟩ := h
  exact ⟨_, s', Seq.wrD hL hw hd hi h1, h2⟩
theorem SeqC.sk {d : Nat} (hw : want ops τ ⟨some d, op, ty, pos, af, g⟩ = some false) (hd : dstOk N ops ⟨some d, op, ty, pos, af, g⟩ = true)
    (h : SeqC P N ops l (fun rs s' => K (⟨[], [], .v undef, u⟩ :: rs) s') ⟨upd τ d (.v undef), η, u⟩) : SeqC P N ops (⟨some d, op, ty, pos, af, g⟩ :: l) K ⟨τ, η, u⟩ := by
  obtain ⟨rs, s', h1, h2⟩ := h
  exact ⟨_, s', Seq.sk hw hd h1, h2⟩
theorem SeqC.splitB (q : Nat) {b : Bool} (h : τ q = .v (.bool b)) (ht : b = true → SeqC P N ops l K ⟨upd τ q (.v (.bool true)), η, u⟩) (hf : b = false → SeqC P N ops l K ⟨upd τ q (.v (.bool false)), η, u⟩) : SeqC P N ops l K ⟨τ, η, u⟩ := by
  cases b with
  | true => have := ht rfl; rw [upd_self h] at this; exact this
  | false => have := hf rfl; rw [upd_self h] at this; exact this
end
theorem AWP.regD {id : Nat} {l : List Oper} {s : St} (hm : P.follows .mixedOrders = true) (h : SeqC P N l.toArray l (fun rs s' => checkR l.toArray rs = true ∧ Q .normal s') s) : AWP P N (.region id l.toArray true) Q s := by
  obtain ⟨rs, s', h1, h2, h3⟩ := h
  exact AWP.regionD hm h1 h2 h3

/-- A truth value in a slot, parted. -/
theorem AOps.splitB (q : Nat) {b : Bool} (h : τ q = .v (.bool b)) (ht : b = true → AOps P N ops l K ⟨upd τ q (.v (.bool true)), η, u⟩) (hf : b = false → AOps P N ops l K ⟨upd τ q (.v (.bool false)), η, u⟩) : AOps P N ops l K ⟨τ, η, u⟩ := by
  cases b with
  | true => have := ht rfl; rw [upd_self h] at this; exact this
  | false => have := hf rfl; rw [upd_self h] at this; exact this
end

/-! ### Operations whose results are laid out in full -/

def takeN : Nat → List AV → Option (List AV)
  | 0, _ => some []
  | n + 1, a :: l => match takeN n l with
    | some r => some (a :: r)
    | none => none
  | _ + 1, [] => none
def takeFrom : Nat → Nat → List AV → Option (List AV)
  | 0, n, l => takeN n l
  | o + 1, n, _ :: l => takeFrom o n l
  | _ + 1, _, [] => none
theorem takeN_eq : ∀ (n : Nat) (l r : List AV), takeN n l = some r → n ≤ l.length ∧ r = l.take n
  | 0, _, r, h => by simp only [takeN, Option.some.injEq] at h; subst h; simp
  | n + 1, a :: l, r, h => by
    simp only [takeN] at h
    cases hh : takeN n l with
    | none => rw [hh] at h; cases h
    | some q =>
      rw [hh] at h
      simp only [Option.some.injEq] at h
      obtain ⟨h1, h2⟩ := takeN_eq n l q hh
      subst h; subst h2
      exact ⟨by simp; omega, rfl⟩
  | _ + 1, [], _, h => by cases h
theorem takeFrom_eq : ∀ (o n : Nat) (l r : List AV), takeFrom o n l = some r → o + n ≤ l.length ∧ r = (l.drop o).take n
  | 0, n, l, r, h => by obtain ⟨h1, h2⟩ := takeN_eq n l r h; exact ⟨by omega, by simpa using h2⟩
  | o + 1, n, a :: l, r, h => by obtain ⟨h1, h2⟩ := takeFrom_eq o n l r h; exact ⟨by simp; omega, by simpa using h2⟩
  | _ + 1, _, [], _, h => by cases h
/-- Some cells in the place of others, laid out. -/
def putN : List AV → List AV → Option (List AV)
  | cs, [] => some cs
  | _ :: cs, v :: vs => match putN cs vs with
    | some r => some (v :: r)
    | none => none
  | [], _ :: _ => none
def putAt : Nat → List AV → List AV → Option (List AV)
  | 0, cs, vs => putN cs vs
  | o + 1, c :: cs, vs => match putAt o cs vs with
    | some r => some (c :: r)
    | none => none
  | _ + 1, [], _ => none
theorem putN_eq : ∀ (cs vs r : List AV), putN cs vs = some r → vs.length ≤ cs.length ∧ r = vs ++ cs.drop vs.length
  | cs, [], r, h => by simp only [putN, Option.some.injEq] at h; subst h; simp
  | c :: cs, v :: vs, r, h => by
    simp only [putN] at h
    cases hh : putN cs vs with
    | none => rw [hh] at h; cases h
    | some q =>
      rw [hh] at h
      simp only [Option.some.injEq] at h
      obtain ⟨h1, h2⟩ := putN_eq cs vs q hh
      subst h; subst h2
      exact ⟨by simp; omega, rfl⟩
  | [], _ :: _, _, h => by cases h
theorem putAt_eq : ∀ (o : Nat) (cs vs r : List AV), putAt o cs vs = some r → o + vs.length ≤ cs.length ∧ r = setRange cs o vs
  | 0, cs, vs, r, h => by obtain ⟨h1, h2⟩ := putN_eq cs vs r h; exact ⟨by omega, by simpa [setRange] using h2⟩
  | o + 1, c :: cs, vs, r, h => by
    simp only [putAt] at h
    cases hh : putAt o cs vs with
    | none => rw [hh] at h; cases h
    | some q =>
      rw [hh] at h
      simp only [Option.some.injEq] at h
      obtain ⟨h1, h2⟩ := putAt_eq o cs vs q hh
      subst h; subst h2
      refine ⟨by simp; omega, ?_⟩
      simp only [setRange, List.take_succ_cons, List.cons_append]
      congr 2
      rw [show o + 1 + vs.length = o + vs.length + 1 by omega]; rfl
  | _ + 1, [], _, _, h => by cases h
def mapV : List Value → List AV
  | [] => []
  | x :: r => .v x :: mapV r
def cellsO : AV → Option (List AV)
  | .agg cs => some cs
  | .v (.agg cs) => some (cs.toList.map .v)
  | .unk => none
  | .v x => some [.v x]
  | .ptr a b c => some [.ptr a b c]
  | .sl a b c d => some [.sl a b c d]
  | .tree n xs => some [.tree n xs]
  | .tp cs o => some [.tp cs o]
  | .clo f cs => some [.clo f cs]
  | .tup cs => some [.tup cs]
theorem cellsO_eq {a : AV} {cs : List AV} (h : cellsO a = some cs) : a.known = true ∧ a.cells = cs := by
  cases a with
  | v x => cases x <;> simp [cellsO, AV.known, AV.cells] at h ⊢ <;> exact h
  | unk => cases h
  | _ => simp [cellsO, AV.known, AV.cells] at h ⊢; exact h

theorem LOp.mv {d : Option Tmp} {x : Operand} {a : AV} (h : aev τ x = a) : LOp P ⟨d, .move x, ty, pos, af, g⟩ τ η [] [] a := by subst h; exact LOp.move x
theorem LOp.asg {d : Option Tmp} {x : Operand} {a : AV} (h : aev τ x = a) : LOp P ⟨d, .assign x, ty, pos, af, g⟩ τ η [] [] a := by subst h; exact LOp.assign x
theorem LOp.pkT {d : Option Tmp} {c x y : Operand} {t : Bool} {a : AV} (hc : aev τ c = .v (.bool t)) (ht : t = true) (hx : aev τ x = a) : LOp P ⟨d, .pick c x y, ty, pos, af, g⟩ τ η [] [] a := by
  subst ht; subst hx
  have := LOp.pick (P := P) (τ := τ) (η := η) (d := d) (ty := ty) (pos := pos) (af := af) (g := g) (x := x) (y := y) hc
  simpa using this
theorem LOp.pkF {d : Option Tmp} {c x y : Operand} {t : Bool} {a : AV} (hc : aev τ c = .v (.bool t)) (ht : t = false) (hx : aev τ y = a) : LOp P ⟨d, .pick c x y, ty, pos, af, g⟩ τ η [] [] a := by
  subst ht; subst hx
  have := LOp.pick (P := P) (τ := τ) (η := η) (d := d) (ty := ty) (pos := pos) (af := af) (g := g) (x := x) (y := y) hc
  simpa using this
theorem LOp.ldN {t n : Nat} {x : Operand} {id ver o : Nat} {b : Blk} {ds : List AV} (ht : rowOf P t = some (some n)) (hx : aev τ x = .ptr id ver o) (hb : η id = some b) (hv : b.ver = ver) (hn : b.nilp = false) (hc : takeFrom o n b.cs = some ds) :
    LOp P ⟨d, .load t x, ty, pos, af, g⟩ τ η [id] [] (.agg ds) := by
  obtain ⟨h1, h2⟩ := takeFrom_eq _ _ _ _ hc
  subst h2
  exact LOp.loadN ht hx hb hv hn h1
theorem LOp.ldTN {t n : Nat} {x : Operand} {cs : List AV} {o : Nat} {ds : List AV} (ht : rowOf P t = some (some n)) (hx : aev τ x = .tp cs o) (hc : takeFrom o n cs = some ds) : LOp P ⟨d, .load t x, ty, pos, af, g⟩ τ η [] [] (.agg ds) := by
  obtain ⟨h1, h2⟩ := takeFrom_eq _ _ _ _ hc
  subst h2
  exact LOp.loadTN ht hx h1
theorem LOp.st {t n : Nat} {x y : Operand} {id ver o w : Nat} {np : Bool} {cs vs ds : List AV} {ez : Nat} (hs : sizeInfo P t = some n) (hx : aev τ x = .ptr id ver o) (hb : η id = some ⟨w, cs, ez, np⟩) (hv : w = ver) (hn : np = false)
    (hk : cellsO (aev τ y) = some vs) (hl : vs.length = n) (h1 : vs.all AV.one = true) (hc : putAt o cs vs = some ds) :
    LOp P ⟨d, .store t x y, ty, pos, af, g⟩ τ η [id] [(id, some ⟨w, ds, ez, np⟩)] (.v undef) := by
  obtain ⟨k1, k2⟩ := cellsO_eq hk
  obtain ⟨k3, k4⟩ := putAt_eq _ _ _ _ hc
  subst k4; subst k2
  exact LOp.store (b := ⟨w, cs, ez, np⟩) hs hx hb hv hn k1 hl h1 (by simp only; omega)
theorem LOp.bx {u t : Nat} {x : Operand} {vs : List AV} (hk : cellsO (aev τ x) = some vs) : LOp P ⟨d, .box t x, ty, pos, af, g⟩ τ η [] [(u, some ⟨0, vs, 0, false⟩)] (.ptr u 0 0) := by
  obtain ⟨k1, k2⟩ := cellsO_eq hk
  subst k2
  exact LOp.box u k1
theorem LOp.al {u t : Nat} {z : Value} {vs : List AV} (hz : zeroOf P t = some z) (hk : cellsO (.v z) = some vs) : LOp P ⟨d, .alloc t, ty, pos, af, g⟩ τ η [] [(u, some ⟨0, vs, 0, false⟩)] (.ptr u 0 0) := by
  obtain ⟨k1, k2⟩ := cellsO_eq hk
  subst k2
  exact LOp.alloc u hz
def fillO (pl : List (Nat × Nat)) : List AV → List (Nat × AV) → Option (List AV)
  | cells, [] => some cells
  | cells, (i, v) :: r => match pl[i]? with
    | none => none
    | some (off, size) => match cellsO v with
      | none => none
      | some vs => bif Nat.beq vs.length size then (match putAt off cells vs with
        | some ds => fillO pl ds r
        | none => none) else none
theorem fillO_eq {pl : List (Nat × Nat)} : ∀ (ps : List (Nat × AV)) (cells out : List AV), fillO pl cells ps = some out → fillA pl cells ps = some out
  | [], _, _, h => h
  | (i, v) :: r, cells, out, h => by
    simp only [fillO] at h
    simp only [fillA]
    cases hp : pl[i]? with
    | none => rw [hp] at h; cases h
    | some q =>
      obtain ⟨off, size⟩ := q
      rw [hp] at h
      simp only at h ⊢
      cases hc : cellsO v with
      | none => rw [hc] at h; cases h
      | some vs =>
        rw [hc] at h
        simp only at h
        cases hb : Nat.beq vs.length size with
        | false => rw [hb] at h; cases h
        | true =>
          rw [hb] at h
          simp only [cond_true] at h
          cases hd : putAt off cells vs with
          | none => rw [hd] at h; cases h
          | some ds =>
            rw [hd] at h
            simp only at h
            obtain ⟨k1, k2⟩ := cellsO_eq hc
            obtain ⟨k3, k4⟩ := putAt_eq _ _ _ _ hd
            have e := Nat.eq_of_beq_eq_true hb
            subst k4; subst k2
            rw [k1, hb, Nat.ble_eq_true_of_le (show off + size ≤ cells.length by omega)]
            exact fillO_eq r _ _ h
theorem LOp.bd {t : Nat} {parts : Array (Nat × Operand)} {z : Value} {pl : List (Nat × Nat)} {cs out : List AV} (hz : zeroOf P t = some z) (hp : placesOf P t = some pl) (hc : cellsO (.v z) = some cs) (ho : fillO pl cs (partsA τ parts) = some out) :
    LOp P ⟨d, .build t parts, ty, pos, af, g⟩ τ η [] [] (.agg out) := by
  obtain ⟨k1, k2⟩ := cellsO_eq hc
  subst k2
  exact LOp.build hz hp (fillO_eq _ _ _ ho)
theorem LOp.bs {u t e len s : Nat} {parts : Array (Nat × Operand)} {z : Value} {out : List AV} (he : P.underlying t = some (.slice e)) (hs : sizeInfo P e = some s) (hz : zeroOf P e = some z) (hl : Nat.ble (len * s) 16777216 = true) (hl2 : Nat.ble len 16777216 = true) (hne : Nat.beq (len * s) 0 = false)
    (ho : fillO (slotsOf len s) (zerosA z (len * s)) (partsA τ parts) = some out) : LOp P ⟨d, .buildSlice t len parts, ty, pos, af, g⟩ τ η [] [(u, some ⟨0, out, s, false⟩)] (.sl u 0 0 len) :=
  LOp.buildSlice u he hs hz hl hl2 hne (fillO_eq _ _ _ ho)

theorem andThen_ret {K : St → Prop} (h : Q .ret s) : andThen K Q .ret s := h
theorem inBlk_ret {id : Nat} (h : Q .ret s) : inBlk id Q .ret s := h
theorem andThen_exit {K : St → Prop} {id : Nat} (h : Q (.exit id) s) : andThen K Q (.exit id) s := h
theorem inBlk_exit {id : Nat} (h : Q .normal s) : inBlk id Q (.exit id) s := by simp [inBlk]; exact h
theorem inBlk_normal {id : Nat} (h : Q .normal s) : inBlk id Q .normal s := h
theorem andThen_normal {K : St → Prop} (h : K s) : andThen K Q .normal s := h

theorem Outs.val {fn : Func} {a ret : AV} {t : Nat} (hr : fn.results = #[.tmp t]) (h : s.τ t = a) (hp : a.pureB = true) (he : a = ret) : Outs P N fn s ret := by
  subst he
  exact Outs.tmp hr ⟨[], by rw [h]; exact FzP.pure hp⟩
theorem bool_ret {a b : Bool} (h : a = b) : AV.v (.bool a) = AV.v (.bool b) := by rw [h]
theorem int_ret {a b : Int} {k : IntKind} (h : a = b) : AV.v (.int k a) = AV.v (.int k b) := by rw [h]

/-- Joined ways: a state of a form of its own between two pieces. -/
theorem AWP.cut {x y : Code} (J : St → Prop) (h1 : AWP P N x (andThen (fun s' => ∃ s1, Canon s' s1 ∧ J s1) Q) s) (h2 : ∀ s1, J s1 → AWP P N y Q s1) : AWP P N (.seq x y) Q s :=
  AWP.seq (h1.mono fun e s' h => by
    cases e with
    | normal => obtain ⟨s1, hc, hj⟩ := h; exact AWP.canon hc (h2 s1 hj)
    | _ => exact h)
end
end Go.Proofs.Ytcbpakbhklbdnaa
