/- Texts of the claim. -/
import Derived.Test.YtbhhmbchdponjaaGreatDoorTabA
import Derived.Test.YtbhhmbchdponjaaGreatDoorShelf
import Derived.Test.YtbhhmbchdponjaaGreatDoorTabB
import Derived.Test.YtbhhmbchdponjaaGreatDoorTabC0
import Derived.Test.YtbhhmbchdponjaaGreatDoorTabC1
import Derived.Test.YtbhhmbchdponjaaGreatDoorTabC2
import Derived.Test.YtbhhmbchdponjaaGreatDoorTabD
import Derived.Test.YtbhhmbchdponjaaGreatDoorF3
namespace Go.Proofs.YtbhhmbchdponjaaGreatDoor
set_option linter.unusedVariables false
set_option linter.unusedSimpArgs false
open Go.RowKit
theorem strsOf_ok:∀ {rows:List (List AV)} {ss:List ByteArray},strsOf rows=some ss→rows.length=ss.length∧∀ (j:Nat) (x:ByteArray),ss[j]? = some x→rows[j]? = some [AV.v (.string x)]
 | [],ss,h=>by
  simp only [strsOf,Option.some.injEq] at h
  subst h
  exact ⟨rfl,fun j x h=>by simp at h⟩
 | r :: rows,ss,h=>by
  unfold strsOf at h
  split at h
  ·rename_i heq; cases heq
  ·rename_i s r' heq
   obtain ⟨rfl,rfl⟩:=List.cons.inj heq
   split at h
   ·rename_i l hl
    simp only [Option.some.injEq] at h
    subst h
    obtain ⟨h1,h2⟩:=strsOf_ok hl
    refine ⟨by simp [h1],fun j x hj=>?_⟩
    cases j with
    | zero=>simp only [List.getElem?_cons_zero,Option.some.injEq] at hj ⊢; rw [hj]
    | succ j=>simp only [List.getElem?_cons_succ] at hj ⊢; exact h2 j x hj
   ·cases h
  ·cases h
theorem join_p {P:Program} {ρ:Go.Shelf.Ren} (L:Lays.n156 P ρ) (X:Builder.Extra P ρ):∀ f ys ret,joinR (ρ.f 156) f ys=some ret→PCall P f ys ret:=by
 intro f ys ret h
 unfold joinR at h
 cases hf:Nat.beq f (ρ.f 156) with
 | false=>rw [hf] at h; simp only [cond_false] at h; cases h
 | true=>
  rw [hf] at h
  simp only [cond_true] at h
  have ef:=Nat.eq_of_beq_eq_true hf
  subst ef
  split at h
  ·rename_i rows sep
   split at h
   ·rename_i ss hss
    cases hl:Nat.ble (Lib.join (ss.map (·.data.toList)) sep.data.toList).length 140737488355328 with
    | false=>rw [hl] at h; simp only [cond_false] at h; cases h
    | true=>
     rw [hl] at h
     simp only [cond_true,Option.some.injEq] at h
     subst h
     obtain ⟨hrl,hrows⟩:=strsOf_ok hss
     intro T w vals ⟨hlen,hv⟩ hT
     have h0:=hv 0 (by simp) (by simp at hlen; omega)
     have h1:=hv 1 (by simp) (by simp at hlen; omega)
     have hsep:=h1.v_inv
     simp only [List.getElem_cons_zero] at h0
     have hvals:vals=#[vals[0]'(by simp at hlen; omega),.string sep]:=by
      rw [← hsep]
      apply Array.ext
      ·simpa using hlen.symm
      ·intro i hi hi'
       have:i=0∨i=1:=by simp at hi'; omega
       rcases this with rfl | rfl <;> rfl
     have give:∀ w',Below w.heap.size w w'→Gives T w (.v (.string ⟨(Lib.join (ss.map (·.data.toList)) sep.data.toList).toArray⟩)) (.returned (.string ⟨(Lib.join (ss.map (·.data.toList)) sep.data.toList).toArray⟩)) w':=fun w' hb=>
      ⟨_,T,rfl,.v _,fun _ h=>h,fun _ h=>.inl h,fun b hb'=>Nat.lt_of_lt_of_le (hT b hb') hb.size,hb⟩
     rw [hvals]
     generalize vals[0]'(by simp at hlen; omega)=x0 at h0
     cases h0 with
     | tree cell hb hc1 hc2 hc3 hc4 hc5 hc6=>
      rename_i b off cap
      rw [hrl]
      refine (Any.strings_Join L X b off cap ss sep w (fun j x hj=>?_) (hT _ hb) (by omega) (by omega) (Nat.le_of_ble_eq_true hl)).mono ?_
      ·have hr:=hrows j x hj
       obtain ⟨hlt,he⟩:=List.getElem?_eq_some_iff.1 hr
       have h2:=hc5 j 0 hlt (by omega)
       have h3:=hc6 j hlt 0 (by rw [he]; simp)
       simp only [he,List.getElem_cons_zero] at h3
       rw [h3.v_inv] at h2
       simpa using h2
      ·rintro e w' ⟨rfl,hbl⟩
       exact give w' hbl
     | tree0 hc=>
      have hs0:ss=[]:=List.eq_nil_of_length_eq_zero (by simpa using hrl.symm)
      subst hs0
      refine (Any.strings_Join_none L X _ _ sep w).mono ?_
      rintro e w' ⟨rfl,hw⟩
      subst hw
      exact give _ (Below.refl _ _)
   ·cases h
  ·cases h
end Go.Proofs.YtbhhmbchdponjaaGreatDoor
namespace Go.Proofs.YtbhhmbchdponjaaGreatDoor
set_option linter.unusedVariables false
set_option linter.unusedSimpArgs false
open Go.RowKit
theorem mixedT:Tryz.prog.follows .mixedOrders=true:=by kernel_rfl
theorem joinT:∀ f ys ret,joinR 213 f ys=some ret→PCall Tryz.prog f ys ret:=join_p (ρ:=Tryz.lays156_ren) Tryz.lays156 Tryz.Builder_Extra_156
theorem bigT:∀ e∈tabBig,PCall Tryz.prog e.1 e.2.1 e.2.2:=chkT_ok (fun f ys r h=>runTG_ok mixedT joinT extX4_ok h) chkBig
theorem wordsT:∀ e∈tabW,PCall Tryz.prog e.1 e.2.1 e.2.2:=by
 intro e he
 simp only [tabW,List.mem_cons,List.not_mem_nil,or_false] at he
 rcases he with rfl | rfl | rfl | rfl | rfl | rfl | rfl
 ·exact PRet.eq words1_0
 ·exact PRet.eq words1_1
 ·exact PRet.eq words1_2
 ·exact PRet.eq words2_0
 ·exact PRet.eq words2_1
 ·exact PRet.eq words2_2
 ·exact PRet.eq words22_C
theorem topT:∀ e∈tabTop,PCall Tryz.prog e.1 e.2.1 e.2.2:=by
 intro e he
 simp only [tabTop,List.mem_cons,List.not_mem_nil,or_false] at he
 rcases he with rfl | rfl | rfl
 ·exact runTG_ok mixedT (orR_ok (orR_ok joinT (findT_ok bigT)) (findT_ok wordsT)) extX4_ok great0
 ·exact runTG_ok mixedT (orR_ok (orR_ok joinT (findT_ok bigT)) (findT_ok wordsT)) extX4_ok great1
 ·exact runTG_ok mixedT (orR_ok (orR_ok joinT (findT_ok bigT)) (findT_ok wordsT)) extX4_ok great2
theorem awake_p:PCall Tryz.prog 6 [] (.v (.bool true)):=runTZ_ok mixedT (orR_ok (orR_ok (orR_ok joinT (findT_ok bigT)) (findT_ok wordsT)) (findT_ok topT)) extX4_ok awRun
end Go.Proofs.YtbhhmbchdponjaaGreatDoor
