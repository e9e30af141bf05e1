/- 'BoxHull': for every input the call returns true and leaves what was there as it was. Conditions: none beyond the given row's own. -/
import Derived.Test.YtcbpakbhklbdnaaB20
import Derived.Test.YtcbpakbhklbdnaaB22
import Derived.Test.YtcbpakbhklbdnaaRows
import Derived.ProofKit
import Derived.OpenShut
import Derived.ShutString
import Derived.SizedLaws
import Derived.Below
namespace Go.Proofs.Ytcbpakbhklbdnaa.boxHull
open Go.ChangeShapes Go.WideShapes Go.ChangeAt Go.RowKit
set_option linter.unusedVariables false
theorem own : ownKnob Try.prog.godebug = none := by kernel_rfl
theorem laidOut : laidOutB Try.prog = true := by kernel_rfl
theorem law (t0 : Int) (s0 : List PSide) (t1 : Int) (s1 : List PSide) (s2 : List PVal) (h0 : ∀ s ∈ s0, s.Wf) (h1 : ∀ s ∈ s1, s.Wf) (h2 : ∀ s ∈ s2, s.Wf) : PCall Try.prog 6 [bxA t0 s0, bxA t1 s1, rwA s2] (.v (.bool true)) := by
  cases a0 : rightB s0
  · exact hull_law_e0 t0 t1 s0 s1 s2 h0 h1 h2 a0
  · cases a1 : rightB s1
    · exact hull_law_e1 t0 t1 s0 s1 s2 h0 h1 h2 a0 a1
    · cases a2 : validR s2
      · exact hull_law_e2 t0 t1 s0 s1 s2 h0 h1 h2 a0 a1 a2
      · by_cases he : t0 = t1
        · subst he
          have l0 := rightB_len a0
          have l1 := rightB_len a1
          by_cases z0 : s0.length = 0
          · obtain rfl := List.eq_nil_of_length_eq_zero z0
            refine hull_law_m t0 t0 [] s1 s2 h0 h1 h2 a0 a1 a2 s1 rfl ?_ (rhull0_p t0 t0 s1) h1 (by omega) (fun h => h.elim (fun h => by cases h) id)
            by_cases z1 : s1.length = 0
            · obtain rfl := List.eq_nil_of_length_eq_zero z1
              exact hull0_p t0 t0
            · exact hull1_p t0 t0 s1 (by omega) (by omega)
          · by_cases z1 : s1.length = 0
            · obtain rfl := List.eq_nil_of_length_eq_zero z1
              refine hull_law_m t0 t0 s0 [] s2 h0 h1 h2 a0 a1 a2 s0 rfl ?_ (rhull1_p t0 t0 s0 (by omega)) h0 (by omega) (fun h => h.elim id (fun h => by cases h))
              have hh := hullc_p (t := t0) (t2 := t0) h0 h1 (by intro e; subst e; simp at z0) (Nat.zero_le _) (by omega)
              rw [show ([] : List PSide).length = 0 from rfl, hull_list_nil] at hh
              exact hh
            · by_cases hl : s0.length = s1.length
              · refine hull_law_m t0 t0 s0 s1 s2 h0 h1 h2 a0 a1 a2 (List.zipWith rsideHull s0 s1) rfl ?_ (rhulll_p h0 h1 hl z0 (by omega)) (zipWith_wf h0 h1) (by rw [List.length_zipWith]; omega) (contains_hull hl)
                rw [← hull_list_eq a0 a1 hl]
                exact hullc_p h0 h1 (by intro e; subst e; simp at z0) (by omega) (by omega)
              · exact hull_law_n t0 t0 s0 s1 s2 h0 h1 h2 a0 a1 a2 rfl hl (by omega) (by omega)
        · exact hull_law_t t0 t1 s0 s1 s2 h0 h1 h2 a0 a1 a2 he
set_option maxRecDepth 100000 in
theorem lifted (os : Os) (started : os.Started) (H : Type) (enc : TypeId × Value → H) :
    ReturnsInHanded {} Try.checked os 6 .any (Rows.boxHullSpec.pre6 enc Try.prog Try.f6 Rows.boxHullRow.domain false) (Rows.boxHullSpec.post enc Try.prog Try.f6 false true false false) := by
  refine returnsInHanded_of_change_sized (C := Try.checked) own started (by kernel_rfl) Try.func6
    (ChangeSpec.witness6 (enc := enc) (C := Try.checked) false ⟨#[], #[.agg #[.int .i64 0, .slice none 0 0], .agg #[.int .i64 0, .slice none 0 0], .slice none 0 0], []⟩ 8 (by kernel_rfl) (by kernel_rfl) (by kernel_rfl) (by kernel_rfl)) ?_
  intro W base args ds gs before hval0 hW hcnd hsz hh
  have hval : ∀ (j : Nat) t v, Try.f6.params[j]? = some t → args[j]? = some v → Value.okWide Try.prog W .any base t v := hval0
  have hW' := hW
  obtain ⟨p, q, hA0, hV, rfl, hfz, hnd⟩ := hW
  have hA : DataW.TrodAll enc Try.prog W 0 (fun _ => true) true Try.f6.params.toList args.toList ds p := hA0
  have hsz2 : (DataW.weightsEach Try.prog (Try.f6.params.toList ++ Rows.boxHullSpec.plain.varTypes Try.prog) (ds ++ gs)).all (· ≤ reachBytes) = true := hsz
  rw [Try.params6] at hA hval hsz2
  obtain ⟨v0, vs0, d0, ds0, p0, q0, hargs, rfl, rfl, k0, r0⟩ := trodAll_cons hA
  obtain ⟨v1, vs1, d1, ds1, p1, q1, rfl, rfl, rfl, k1, r1⟩ := trodAll_cons r0
  obtain ⟨v2, vs2, d2, ds2, p2, q2, rfl, rfl, rfl, k2, r2⟩ := trodAll_cons r1
  obtain ⟨rfl, rfl, rfl⟩ := trodAll_nil r2
  obtain rfl : args = #[v0, v1, v2] := by cases args; simp_all
  obtain ⟨rfl, rfl⟩ := trodVars_none hV
  have hwt : ∀ n, n ∈ DataW.weightsEach Try.prog [24, 24, 26] [d0, d1, d2] → n ≤ 140737488351232 := fun n hn => of_decide_eq_true (List.all_eq_true.1 hsz2 n (by simpa [DataW.weightsEach] using hn))
  simp only [DataW.weightsEach, List.mem_append, List.append_nil] at hwt
  have lt0 : ∀ x ∈ p0, x.block < W.heap.size := by obtain ⟨m, hm⟩ := k0; exact DataW.trod_lt m _ _ _ hm
  obtain ⟨a0, sv0, ss0, rfl, _, _, w0⟩ := open_t24 (hval 0 24 _ rfl rfl) k0 (fun n hn => hwt n (.inl hn))
  have lt1 : ∀ x ∈ p1, x.block < W.heap.size := by obtain ⟨m, hm⟩ := k1; exact DataW.trod_lt m _ _ _ hm
  obtain ⟨a1, sv1, ss1, rfl, _, _, w1⟩ := open_t24 (hval 1 24 _ rfl rfl) k1 (fun n hn => hwt n (.inr (.inl hn)))
  have lt2 : ∀ x ∈ p2, x.block < W.heap.size := by obtain ⟨m, hm⟩ := k2; exact DataW.trod_lt m _ _ _ hm
  obtain ⟨ss2, w2⟩ := open_t26 (.inr trivial) (row_cells (hval 2 26 _ rfl rfl)) k2 (fun n hn => hwt n (.inr (.inr hn)))
  clear hA0 hval0
  have hcall := law a0 ss0 a1 ss1 ss2 (rep_wf w0) (rep_wf w1) (rep_wfv w2) (Lt W.heap.size) W #[_, _, _] (trs3 (box_of (t := a0) w0) (box_of (t := a1) w1) (row_of w2)) (fun b hb => hb)
  refine hcall.mono fun e W' h => ?_
  obtain ⟨x, T', he, hx, _, _, _, bel⟩ := h
  obtain rfl := hx.v_inv
  subst he
  exact ⟨_, rfl, _, _, _, [], _, [], hW', trodAll_mk1 (shut_bool Try.underlying4 _), (trodAll_cons_mk (Below.trod laidOut (by kernel_rfl) (of_decide_eq_true (by kernel_rfl)) k0 bel lt0) (trodAll_cons_mk (Below.trod laidOut (by kernel_rfl) (of_decide_eq_true (by kernel_rfl)) k1 bel lt1) (trodAll_cons_mk (Below.trod laidOut (by kernel_rfl) (of_decide_eq_true (by kernel_rfl)) k2 bel lt2) trodAll_mk0))), rfl, bel.frame _, fun h => by cases h⟩

theorem over : Rows.boxHullRow.holds Try.pinned (OpenSpec.ofChange Rows.boxHullSpec) :=
  OpenClaim.holds_of_wide 6 Try.f6 rfl rfl rfl rfl rfl rfl rfl ⟨rfl, rfl, rfl, rfl, rfl⟩ rfl rfl rfl rfl rfl (by kernel_rfl) Try.func6 (by kernel_rfl)
    (of_decide_eq_true (by kernel_rfl)) (by unfold Func.isWrapper; first | (rw [if_pos (by decide +kernel)]; kernel_rfl) | (rw [if_neg (by decide +kernel)]; exact ⟨rfl, rfl⟩))
    (fun os started H enc _ => lifted os started H enc)
/-- THE STATEMENT -/
theorem proved : Rows.BoxHullSaid := over
#print axioms proved
end Go.Proofs.Ytcbpakbhklbdnaa.boxHull
