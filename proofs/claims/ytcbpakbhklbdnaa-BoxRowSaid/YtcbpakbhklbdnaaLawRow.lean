/- 'BoxRow': for every input the call returns true and leaves what was there as it was. Conditions: none beyond the given row's own. -/
import Derived.Test.YtcbpakbhklbdnaaB21
import Derived.Test.YtcbpakbhklbdnaaB22
import Derived.Test.YtcbpakbhklbdnaaRows
import Derived.ProofKit
import Derived.OpenShut
import Derived.ShutString
import Derived.SizedLaws
import Derived.Below
namespace Go.Proofs.Ytcbpakbhklbdnaa.boxRow
open Go.ChangeShapes Go.WideShapes Go.ChangeAt Go.RowKit
set_option linter.unusedVariables false
theorem own : ownKnob Try.prog.godebug = none := by kernel_rfl
theorem laidOut : laidOutB Try.prog = true := by kernel_rfl
theorem law (t0 : Int) (s1 : List PVal) (s2 : List PVal) (h1 : ∀ s ∈ s1, s.Wf) (h2 : ∀ s ∈ s2, s.Wf) : PCall Try.prog 7 [.v (.int .i64 t0), rwA s1, rwA s2] (.v (.bool true)) := by
  cases a1 : validR s1
  · exact row_law_e0 t0 s1 s2 h1 h2 a1
  · cases a2 : validR s2
    · exact row_law_e1 t0 s1 s2 h1 h2 a1 a2
    · exact row_law_m t0 s1 s2 h1 h2 a1 a2
set_option maxRecDepth 100000 in
theorem lifted (os : Os) (started : os.Started) (H : Type) (enc : TypeId × Value → H) :
    ReturnsInHanded {} Try.checked os 7 .any (Rows.boxRowSpec.pre6 enc Try.prog Try.f7 Rows.boxRowRow.domain false) (Rows.boxRowSpec.post enc Try.prog Try.f7 false true false false) := by
  refine returnsInHanded_of_change_sized (C := Try.checked) own started (by kernel_rfl) Try.func7
    (ChangeSpec.witness6 (enc := enc) (C := Try.checked) false ⟨#[], #[.int .i64 0, .slice none 0 0, .slice none 0 0], []⟩ 8 (by kernel_rfl) (by kernel_rfl) (by kernel_rfl) (by kernel_rfl)) ?_
  intro W base args ds gs before hval0 hW hcnd hsz hh
  have hval : ∀ (j : Nat) t v, Try.f7.params[j]? = some t → args[j]? = some v → Value.okWide Try.prog W .any base t v := hval0
  have hW' := hW
  obtain ⟨p, q, hA0, hV, rfl, hfz, hnd⟩ := hW
  have hA : DataW.TrodAll enc Try.prog W 0 (fun _ => true) true Try.f7.params.toList args.toList ds p := hA0
  have hsz2 : (DataW.weightsEach Try.prog (Try.f7.params.toList ++ Rows.boxRowSpec.plain.varTypes Try.prog) (ds ++ gs)).all (· ≤ reachBytes) = true := hsz
  rw [Try.params7] at hA hval hsz2
  obtain ⟨v0, vs0, d0, ds0, p0, q0, hargs, rfl, rfl, k0, r0⟩ := trodAll_cons hA
  obtain ⟨v1, vs1, d1, ds1, p1, q1, rfl, rfl, rfl, k1, r1⟩ := trodAll_cons r0
  obtain ⟨v2, vs2, d2, ds2, p2, q2, rfl, rfl, rfl, k2, r2⟩ := trodAll_cons r1
  obtain ⟨rfl, rfl, rfl⟩ := trodAll_nil r2
  obtain rfl : args = #[v0, v1, v2] := by cases args; simp_all
  obtain ⟨rfl, rfl⟩ := trodVars_none hV
  have hwt : ∀ n, n ∈ DataW.weightsEach Try.prog [3, 26, 26] [d0, d1, d2] → n ≤ 140737488351232 := fun n hn => of_decide_eq_true (List.all_eq_true.1 hsz2 n (by simpa [DataW.weightsEach] using hn))
  simp only [DataW.weightsEach, List.mem_append, List.append_nil] at hwt
  have lt0 : ∀ x ∈ p0, x.block < W.heap.size := by obtain ⟨m, hm⟩ := k0; exact DataW.trod_lt m _ _ _ hm
  obtain ⟨a0, rfl, rfl, rfl, w0⟩ := open_int Try.underlying3 (hval 0 3 _ rfl rfl) k0
  have lt1 : ∀ x ∈ p1, x.block < W.heap.size := by obtain ⟨m, hm⟩ := k1; exact DataW.trod_lt m _ _ _ hm
  obtain ⟨ss1, w1⟩ := open_t26 (.inr trivial) (row_cells (hval 1 26 _ rfl rfl)) k1 (fun n hn => hwt n (.inr (.inl hn)))
  have lt2 : ∀ x ∈ p2, x.block < W.heap.size := by obtain ⟨m, hm⟩ := k2; exact DataW.trod_lt m _ _ _ hm
  obtain ⟨ss2, w2⟩ := open_t26 (.inr trivial) (row_cells (hval 2 26 _ rfl rfl)) k2 (fun n hn => hwt n (.inr (.inr hn)))
  clear hA0 hval0
  have hcall := law a0 ss1 ss2 (rep_wfv w1) (rep_wfv w2) (Lt W.heap.size) W #[_, _, _] (trs3 (.v _) (row_of w1) (row_of w2)) (fun b hb => hb)
  refine hcall.mono fun e W' h => ?_
  obtain ⟨x, T', he, hx, _, _, _, bel⟩ := h
  obtain rfl := hx.v_inv
  subst he
  exact ⟨_, rfl, _, _, _, [], _, [], hW', trodAll_mk1 (shut_bool Try.underlying4 _), (trodAll_cons_mk (shut_int Try.underlying3 w0) (trodAll_cons_mk (Below.trod laidOut (by kernel_rfl) (of_decide_eq_true (by kernel_rfl)) k1 bel lt1) (trodAll_cons_mk (Below.trod laidOut (by kernel_rfl) (of_decide_eq_true (by kernel_rfl)) k2 bel lt2) trodAll_mk0))), rfl, bel.frame _, fun h => by cases h⟩

theorem over : Rows.boxRowRow.holds Try.pinned (OpenSpec.ofChange Rows.boxRowSpec) :=
  OpenClaim.holds_of_wide 7 Try.f7 rfl rfl rfl rfl rfl rfl rfl ⟨rfl, rfl, rfl, rfl, rfl⟩ rfl rfl rfl rfl rfl (by kernel_rfl) Try.func7 (by kernel_rfl)
    (of_decide_eq_true (by kernel_rfl)) (by unfold Func.isWrapper; first | (rw [if_pos (by decide +kernel)]; kernel_rfl) | (rw [if_neg (by decide +kernel)]; exact ⟨rfl, rfl⟩))
    (fun os started H enc _ => lifted os started H enc)
/-- THE STATEMENT -/
theorem proved : Rows.BoxRowSaid := over
#print axioms proved
end Go.Proofs.Ytcbpakbhklbdnaa.boxRow
