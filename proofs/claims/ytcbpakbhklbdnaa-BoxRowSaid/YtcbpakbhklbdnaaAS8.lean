/- Forgetting: a state at the head of a loop, in a form of its own. Loops. -/
import Derived.Test.YtcbpakbhklbdnaaAS7
namespace Go.Proofs.Ytcbpakbhklbdnaa
set_option linter.unusedVariables false
open Go.RowKit

def frameL : List (Nat × AV) → Nat → AV
  | [] => fun _ => .unk
  | p :: r => fun t => bif Nat.beq t p.1 then p.2 else frameL r t
def heapL : List (Nat × Blk) → Heap
  | [] => fun _ => none
  | p :: r => fun id => bif Nat.beq id p.1 then some p.2 else heapL r id
def fitsF (τ : Nat → AV) (u : Nat) : List (Nat × AV) → Prop
  | [] => True
  | p :: r => τ p.1 = p.2 ∧ p.2.lowB u = true ∧ fitsF τ u r
def fitsH (η : Heap) (u : Nat) : List (Nat × Blk) → Prop
  | [] => True
  | p :: r => η p.1 = some p.2 ∧ Nat.ble (p.1 + 1) u = true ∧ lowL u p.2.cs = true ∧ fitsH η u r

/-- s1 says less than s. -/
structure Canon (s s1 : St) : Prop where
  τ : ∀ t, s1.τ t = .unk ∨ (s1.τ t = s.τ t ∧ (s.τ t).lowB s1.u = true)
  η : ∀ id b, s1.η id = some b → s.η id = some b ∧ id < s1.u ∧ lowL s1.u b.cs = true

theorem fitsF.at {τ : Nat → AV} {u : Nat} : ∀ {l : List (Nat × AV)} (_ : fitsF τ u l) (t : Nat), frameL l t = .unk ∨ (frameL l t = τ t ∧ (τ t).lowB u = true)
  | [], _, _ => .inl rfl
  | p :: r, ⟨h1, h2, h3⟩, t => by
    cases hb : Nat.beq t p.1 with
    | true =>
      have e := Nat.eq_of_beq_eq_true hb
      right
      have e1 : frameL (p :: r) t = p.2 := by simp [frameL, hb]
      rw [e1, e, h1]; exact ⟨rfl, h2⟩
    | false =>
      have e1 : frameL (p :: r) t = frameL r t := by simp [frameL, hb]
      rw [e1]; exact fitsF.at h3 t
theorem fitsH.at {η : Heap} {u : Nat} : ∀ {l : List (Nat × Blk)} (_ : fitsH η u l) (id : Nat) (b : Blk), heapL l id = some b → η id = some b ∧ id < u ∧ lowL u b.cs = true
  | [], _, _, _, h => by cases h
  | p :: r, ⟨h1, h2, h3, h4⟩, id, b, h => by
    cases hb : Nat.beq id p.1 with
    | true =>
      have e := Nat.eq_of_beq_eq_true hb
      have e1 : heapL (p :: r) id = some p.2 := by simp [heapL, hb]
      rw [e1] at h
      cases h
      rw [e]
      exact ⟨h1, Nat.le_of_ble_eq_true h2, h3⟩
    | false =>
      have e1 : heapL (p :: r) id = heapL r id := by simp [heapL, hb]
      rw [e1] at h
      exact fitsH.at h4 id b h
theorem Canon.of {s : St} {fl : List (Nat × AV)} {hl : List (Nat × Blk)} {u : Nat} (h1 : fitsF s.τ u fl) (h2 : fitsH s.η u hl) : Canon s ⟨frameL fl, heapL hl, u⟩ := ⟨h1.at, h2.at⟩

theorem VR.canon {C C' : Ctx} {u : Nat} (hρ : C'.ρ = C.ρ) (hsz : C'.sz = C.sz) (hT : C'.T = C.T) (hw : C'.w = C.w) (hU : ∀ id, C.U id → id < u → C'.U id) (hη : ∀ id b, C'.η id = some b → C.η id = some b) (hused : ∀ {id b}, C.η id = some b → C.U id) {a : AV} {x : Value} (h : VR C a x) (hl : a.lowB u = true) : VR C' a x := by
  have st : ∀ {id ver : Nat}, (∀ b, C.η id = some b → ver < b.ver) → ∀ b, C'.η id = some b → ver < b.ver := fun h b hb => h b (hη _ b hb)
  have keep : ∀ {id : Nat} {b : Blk}, C.η id = some b → C'.η id = some b ∨ C'.η id = none := by
    intro id b hb
    cases h' : C'.η id with
    | none => exact .inr rfl
    | some b' => have := hη id b' h'; rw [hb] at this; exact .inl this.symm
  induction h with
  | imm h => exact .imm (by rw [hT, hw]; exact h)
  | ptr hb he hn =>
    have hid := Nat.le_of_ble_eq_true (by simpa [AV.lowB] using hl)
    rcases keep hb with h' | h'
    · rw [← hρ]; exact .ptr h' he hn
    · exact .stalep rfl (hU _ (hused hb) (by omega)) (fun b hb' => by rw [h'] at hb'; cases hb')
  | sl hb he hn h1 h2 h3 h4 =>
    have hid := Nat.le_of_ble_eq_true (by simpa [AV.lowB] using hl)
    rcases keep hb with h' | h'
    · rw [← hρ]; exact .sl h' he hn h1 h2 h3 (by rw [hρ, hsz]; exact h4)
    · exact .stales rfl (hU _ (hused hb) (by omega)) (fun b hb' => by rw [h'] at hb'; cases hb')
  | slz hb he hn =>
    have hid := Nat.le_of_ble_eq_true (by simpa [AV.lowB] using hl)
    rcases keep hb with h' | h'
    · exact .slz h' he hn
    · exact .stales rfl (hU _ (hused hb) (by omega)) (fun b hb' => by rw [h'] at hb'; cases hb')
  | slnil hb he hn =>
    have hid := Nat.le_of_ble_eq_true (by simpa [AV.lowB] using hl)
    rcases keep hb with h' | h'
    · exact .slnil h' he hn
    · exact .stales rfl (hU _ (hused hb) (by omega)) (fun b hb' => by rw [h'] at hb'; cases hb')
  | stalep h1 hu hs =>
    have hid := Nat.le_of_ble_eq_true (by simpa [AV.lowB] using hl)
    exact .stalep h1 (hU _ hu (by omega)) (st hs)
  | stales h1 hu hs =>
    have hid := Nat.le_of_ble_eq_true (by simpa [AV.lowB] using hl)
    exact .stales h1 (hU _ hu (by omega)) (st hs)
  | agg hlen _ ih => exact .agg hlen (fun i h h' => ih i h h' (lowL_at (by simpa [AV.lowB] using hl) i h))
  | tup hlen _ ih => exact .tup hlen (fun i h h' => ih i h h' (lowL_at (by simpa [AV.lowB] using hl) i h))
  | clo hlen _ ih => exact .clo hlen (fun i h h' => ih i h h' (lowL_at (by simpa [AV.lowB] using hl) i h))

theorem Canon.rel {N : Nat} {C : Ctx} {s s1 : St} {a : Act} (h : Canon s s1) (hr : SRel N C s a) : ∃ C', C'.w = C.w ∧ SRel N C' s1 a ∧ Fr C C' := by
  let C' : Ctx := { C with η := s1.η, U := fun id => C.U id ∧ id < s1.u }
  have hη : ∀ id b, C'.η id = some b → C.η id = some b := fun id b hb => by rw [hr.η]; exact (h.η id b hb).1
  have hlive : ∀ {id}, C'.live id → C.live id := fun ⟨b, hb, hn⟩ => ⟨b, hη _ b hb, hn⟩
  have hmine : ∀ {k}, C'.mine k → C.mine k := fun ⟨id, hl, hk⟩ => ⟨id, hlive hl, hk⟩
  have hvr : ∀ {a : AV} {x : Value}, VR C a x → a.lowB s1.u = true → VR C' a x := fun hv hl => VR.canon (C := C) (C' := C') (u := s1.u) rfl rfl rfl rfl (fun id hu hlt => ⟨hu, hlt⟩) hη hr.good.used hv hl
  refine ⟨C', rfl, ⟨⟨?_, ?_, ?_, ?_, ?_, ?_⟩, rfl, fun id hid => hid.2, hr.defers, hr.size, fun t => ?_⟩, ⟨rfl, rfl, rfl, Nat.le_refl _, fun _ _ _ => rfl, fun k hk => .inl (hmine hk), fun _ h => h, fun _ h => .inl h⟩⟩
  · intro id b hb
    exact ⟨hr.good.used (hη id b hb), (h.η id b hb).2.1⟩
  · intro id b hb hn
    exact hr.good.nils (hη id b hb) hn
  · intro id b hb hn
    obtain ⟨c, t', g1, g2, g3, g4⟩ := hr.good.blk (hη id b hb) hn
    exact ⟨c, t', g1, g2, g3, fun j hj hj' => hvr (g4 j hj hj') (lowL_at (h.η id b hb).2.2 j hj)⟩
  · intro id id' h1 h2 h3
    exact hr.good.inj (hlive h1) (hlive h2) h3
  · intro k hk
    exact hr.good.tlt (k := k) hk
  · intro k hk hT
    exact hr.good.apart (hmine hk) hT
  · rcases h.τ t with h1 | ⟨h1, h2⟩
    · rw [h1]; exact VR.unk _ _
    · rw [h1]; exact hvr (hr.τ t) h2

section
variable {P : Program} {N : Nat} {Q : Exit → St → Prop} {s : St}

theorem AWP.canon {c : Code} {s1 : St} (h : Canon s s1) (hc : AWP P N c Q s1) : AWP P N c Q s := by
  intro C a hr
  obtain ⟨C', hw, hr', hf⟩ := h.rel hr
  have := hc C' a hr'
  rw [hw] at this
  refine Code.wp_mono ?_ this
  rintro e a' w' ⟨s', C'', hq, hw', hr'', hf'⟩
  exact ⟨s', C'', hq, hw', hr'', hf.trans hf'⟩

/-- A loop; 'I n s': s is a state at its head, n falls with each round. -/
theorem AWP.loopC {c : Code} (I : Nat → St → Prop) {n : Nat} {s1 : St} (hc : Canon s s1) (h0 : I n s1) (hI : ∀ n s, I n s → AWP P N c (andThen (fun s' => ∃ m s1, m < n ∧ Canon s' s1 ∧ I m s1) Q) s) : AWP P N (.loop c) Q s := by
  refine AWP.loop (fun n s => ∃ s1, Canon s s1 ∧ I n s1) (fun n s ⟨s1, h1, h2⟩ => ?_) (n := n) ⟨s1, hc, h0⟩
  refine AWP.canon h1 (AWP.mono (hI n s1 h2) ?_)
  intro e s' h
  cases e with
  | normal =>
    obtain ⟨m, s1, hm, h3, h4⟩ := h
    exact ⟨m, hm, s1, h3, h4⟩
  | _ => exact h
end
end Go.Proofs.Ytcbpakbhklbdnaa
