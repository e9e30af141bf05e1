/- 'BoxExactly': for every input the call returns true and leaves what was there as it was (the tables that the row lists are tied to the program's text). Conditions: none beyond the given row's own. -/
import Derived.Test.YtmbmbhkemgmhfaaGreatDoorB4
import Derived.ProofKit
import Derived.OpenShut
import Derived.ShutString
import Derived.SizedLaws
import Derived.ChangeOld
import Derived.Below
import Derived.MakeChecks
import Derived.Stop.LaidErr
import Derived.Lib.LaidTab
import Derived.LaidMore
import Derived.Stop.Joined
import Derived.Test.YtmbmbhkemgmhfaaGreatDoorRows
namespace Go.Proofs.YtmbmbhkemgmhfaaGreatDoor.boxExactly
open Go.ChangeShapes Go.WideShapes Go.ChangeAt Go.RowKit
set_option linter.unusedVariables false
theorem own : ownKnob Tryz.prog.godebug = none := by kernel_rfl
theorem laidOut : laidOutB Tryz.prog = true := by kernel_rfl
abbrev lst : List (String × DataW Unit) := Rows.boxExactlyRow.laid
theorem door_met (os : Os) (args : Array Value) : laidMetH Tryz.prog Rows.boxExactlyRow.laid ((World.doorLaid Tryz.prog 400 os).forCall (fun _ _ => 0) ⟨#[], args, []⟩).memory :=
  laidMetH_of_parts3 (fuel := 8) (laidMet_of_run' 8 (by kernel_rfl) (by kernel_rfl)) (by kernel_rfl) (by kernel_rfl)
theorem cellLt {w : World} {a : Addr} {v : Value} (h : w.cell? a = some v) : a.block < w.heap.size := by
  unfold World.cell? at h
  cases hb : w.heap[a.block]? with
  | none => simp [hb] at h
  | some x => exact (Array.getElem?_eq_some_iff.1 hb).1
theorem tokOf {W : World} (h : laidMetH Tryz.prog Rows.boxExactlyRow.laid W) : TOk (LtB W.heap.size) W := by
  rw [MakeChecks.laidMetH_plain _ _ _ (by kernel_rfl)] at h
  have h3 := laidMet.tail (laidMet.tail h)
  have hg : Tryz.prog.globalNamed "internal/strconv.uint64pow10" = some 1 := by kernel_rfl
  have hT : Lib.TabIs Tryz.prog W "internal/strconv.uint64pow10" .u64 Lib.pow10Tab := Lib.tabIs_of_head (rest := []) (t := 310) hg (by kernel_rfl) Tryz.underlying310 Tryz.underlying134 (by kernel_rfl) (by kernel_rfl) h3
  have e20 : (Lib.pow10Tab.map fun z => Value.int .u64 z).toArray = L20.toArray := by kernel_rfl
  have hc : ∀ j, W.cell? ⟨1, j, none⟩ = L20[j]? := fun j => by rw [World.var?_cell hg hT j, e20, List.getElem?_toArray]
  refine ⟨fun b hb => hb, fun p hp => ?_⟩
  obtain rfl := List.mem_singleton.1 hp
  exact ⟨cellLt (hc 0), fun j hj => (hc j).trans (List.getElem?_eq_getElem hj), hc 20⟩
theorem trsN {T : Nat → Prop} {w : World} {a0 a1 a2 : AV} {x0 x1 x2 : Value} (h0 : TR T w a0 x0) (h1 : TR T w a1 x1) (h2 : TR T w a2 x2) : TRs T w [a0, a1, a2] #[x0, x1, x2] := by
  refine ⟨rfl, fun i hi hi' => ?_⟩
  match i, hi with
  | 0, _ => exact h0
  | 1, _ => exact h1
  | 2, _ => exact h2
set_option maxRecDepth 100000 in
theorem lifted (os : Os) (started : os.Started) (H : Type) (enc : TypeId × Value → H) :
    ReturnsInHanded {} Tryz.checked os 3 .any (fun w args => (Rows.boxExactlySpec.pre enc Tryz.prog Tryz.f3 [] false w args ∧ laidMetH Tryz.prog Rows.boxExactlyRow.laid w) ∧ sizedMet enc Tryz.prog Tryz.f3 (OpenSpec.ofChange Rows.boxExactlySpec) false w args)
      (Rows.boxExactlySpec.post enc Tryz.prog Tryz.f3 false true false false) := by
  refine returnsInHanded_of_change_and (C := Tryz.checked) (X := fun w _ => laidMetH Tryz.prog Rows.boxExactlyRow.laid w) (fun _ _ _ hh h => h.of_heap hh) own started (by kernel_rfl) Tryz.func3
    (ChangeSpec.witness_shaped (enc := enc) (C := Tryz.checked) (os := os) (X := fun w _ => laidMetH Tryz.prog Rows.boxExactlyRow.laid w) false (World.doorLaid Tryz.prog 400 os) #[.int .i64 0, .slice none 0 0, .slice none 0 0] 8 rfl (World.shaped_of_RefB (by kernel_rfl) (by kernel_rfl)) (by kernel_rfl) (by kernel_rfl) (by kernel_rfl) (door_met os _)) ?_
  intro W base args ds gs before hval0 hW _ hsz hL _
  have hval : ∀ (j : Nat) t v, Tryz.f3.params[j]? = some t → args[j]? = some v → Value.okWide Tryz.prog W .any base t v := hval0
  have hW' := hW
  obtain ⟨p, q, hA0, hV, rfl, hfz, hnd⟩ := hW'
  have hA : DataW.TrodAll enc Tryz.prog W 0 (fun _ => true) true Tryz.f3.params.toList args.toList ds p := hA0
  have hsz2 : (DataW.weightsEach Tryz.prog (Tryz.f3.params.toList ++ Rows.boxExactlySpec.plain.varTypes Tryz.prog) (ds ++ gs)).all (· ≤ reachBytes) = true := hsz
  rw [Tryz.params3] at hA hval hsz2
  obtain ⟨v0, vs0, d0, ds0, p0, q0, hargs, rfl, rfl, k0, r0⟩ := trodAll_cons hA
  obtain ⟨v1, vs1, d1, ds1, p1, q1, rfl, rfl, rfl, k1, r1⟩ := trodAll_cons r0
  obtain ⟨v2, vs2, d2, ds2, p2, q2, rfl, rfl, rfl, k2, r2⟩ := trodAll_cons r1
  obtain ⟨rfl, rfl, rfl⟩ := trodAll_nil r2
  obtain rfl : args = #[v0, v1, v2] := by cases args; simp_all
  obtain ⟨rfl, rfl⟩ := trodVars_none hV
  have hwt : ∀ n, n ∈ DataW.weightsEach Tryz.prog [3, 22, 24] [d0, d1, d2] → n ≤ 140737488351232 := fun n hn => of_decide_eq_true (List.all_eq_true.1 hsz2 n (by simpa [DataW.weightsEach] using hn))
  simp only [DataW.weightsEach, List.mem_append, List.append_nil] at hwt
  have lt0 : ∀ x ∈ p0, x.block < W.heap.size := by obtain ⟨m, hm⟩ := k0; exact DataW.trod_lt m _ _ _ hm
  have lt1 : ∀ x ∈ p1, x.block < W.heap.size := by obtain ⟨m, hm⟩ := k1; exact DataW.trod_lt m _ _ _ hm
  have lt2 : ∀ x ∈ p2, x.block < W.heap.size := by obtain ⟨m, hm⟩ := k2; exact DataW.trod_lt m _ _ _ hm
  obtain ⟨a0, rfl, rfl, rfl, w0⟩ := open_int Tryz.underlying3 (hval 0 3 _ rfl rfl) k0
  obtain ⟨l, hl, w1⟩ := open_vars (hval 1 22 _ rfl rfl) k1 (fun n hn => hwt n (.inr (.inl hn)))
  obtain ⟨r, hr, w2⟩ := open_row (hval 2 24 _ rfl rfl) k2 (fun n hn => hwt n (.inr (.inr hn)))
  clear hA0 hval0
  have hcall := PRet.eq (lawBox_p l hl r hr a0) (LtB W.heap.size) W #[_, _, _] (trsN (.v _) w1 w2) (tokOf hL)
  refine hcall.mono fun e W' h => ?_
  obtain ⟨x, T', he, hx, _, _, _, bel⟩ := h
  obtain rfl := hx.v_inv
  subst he
  exact ⟨_, rfl, _, _, _, [], _, [], hW, trodAll_mk1 (shut_bool Tryz.underlying4 _), (trodAll_cons_mk (Below.trod laidOut (by kernel_rfl) (of_decide_eq_true (by kernel_rfl)) k0 bel lt0) (trodAll_cons_mk (Below.trod laidOut (by kernel_rfl) (of_decide_eq_true (by kernel_rfl)) k1 bel lt1) (trodAll_cons_mk (Below.trod laidOut (by kernel_rfl) (of_decide_eq_true (by kernel_rfl)) k2 bel lt2) trodAll_mk0))), rfl, bel.frame _, fun h => by cases h⟩

end Go.Proofs.YtmbmbhkemgmhfaaGreatDoor.boxExactly
