/- Texts of the claim. -/
import Derived.Test.YtbhhmbchdponjaaGreatDoorTabA
import Derived.Test.YtbhhmbchdponjaaGreatDoorShelf
import Derived.Test.YtbhhmbchdponjaaGreatDoorTabB
import Derived.Test.YtbhhmbchdponjaaGreatDoorTabC0
import Derived.Test.YtbhhmbchdponjaaGreatDoorTabC1
import Derived.Test.YtbhhmbchdponjaaGreatDoorTabC2
import Derived.Test.YtbhhmbchdponjaaGreatDoorTabD
import Derived.Test.YtbhhmbchdponjaaGreatDoorF3
namespace Go.Proofs.YtbhhmbchdponjaaGreatDoor
set_option linter.unusedVariables false
set_option linter.unusedSimpArgs false
open Go.RowKit
theorem Bc:∀{rows:List (List AV)} {ss:List ByteArray},Bd rows=some ss->rows.length=ss.length/\∀(j:Nat) (x:ByteArray),ss[j]? =some x->rows[j]? =some [AV.v (.string x)]
 |[],ss,h=>by
  simp only[Bd,adw]at h
  subst h
  exact⟨rfl,fun j x h=>by simp at h⟩
 |r::rows,ss,h=>by
  unfold Bd at h
  split at h
  ·rename_i h0;cases h0
  ·rename_i s r' h0
   obtain⟨rfl,rfl⟩:=List.cons.inj h0
   split at h
   ·rename_i l hl
    simp only[adw]at h
    subst h
    obtain⟨h1,h2⟩:=Bc hl
    refine⟨by simp[h1],fun j x hj=>?_⟩
    cases j with
    |zero=>simp only[List.getElem?_cons_zero,adw]at hj ⊢;rw[hj]
    |succ j=>simp only[List.getElem?_cons_succ]at hj ⊢;exact h2 j x hj
   ·cases h
  ·cases h
theorem X9{P:Program}{ρ:Go.Shelf.Ren}(L:Lays.n156 P ρ)(X:Builder.Extra P ρ):∀f ys ret,B7 (ρ.f 156) f ys=some ret->d8 P f ys ret:=by
 intro f ys ret h
 unfold B7 at h
 cases hf:Nat.beq f (ρ.f 156)with
 |false=>rw[hf]at h;simp only[cond_false]at h;cases h
 |true=>
  rw[hf]at h
  simp only[cond_true]at h
  have ef:=adv hf
  subst ef
  split at h
  ·rename_i rows sep
   split at h
   ·rename_i ss ha
    cases hl:Nat.ble (Lib.join (ss.map (·.data.toList)) sep.data.toList).length 140737488355328 with
    |false=>rw[hl]at h;simp only[cond_false]at h;cases h
    |true=>
     rw[hl]at h
     simp only[cond_true,adw]at h
     subst h
     obtain⟨h8,h5⟩:=Bc ha
     intro T w vals ⟨h4,hv⟩ hT
     have h0:=hv 0 (by simp) (by simp at h4;omega)
     have h1:=hv 1 (by simp) (by simp at h4;omega)
     have h7:=h1.v_inv
     simp only[List.getElem_cons_zero]at h0
     have h6:vals=#[vals[0]'(by simp at h4;omega),.string sep]:=by
      rw[<-h7]
      apply Array.ext
      ·simpa using h4.symm
      ·intro i hi hd
       have:i=0\/i=1:=by simp at hd;omega
       rcases this with rfl|rfl<;>rfl
     have give:∀w',Below w.heap.size w w'->Nd T w (.v (.string ⟨(Lib.join (ss.map (·.data.toList)) sep.data.toList).toArray⟩)) (.returned (.string ⟨(Lib.join (ss.map (·.data.toList)) sep.data.toList).toArray⟩)) w':=fun w' hb=>
      ⟨_,T,rfl,.v _,fun _ h=>h,fun _ h=>.inl h,fun b hb'=>Nat.lt_of_lt_of_le (hT b hb') hb.size,hb⟩
     rw[h6]
     generalize vals[0]'(by simp at h4;omega)=x0 at h0
     cases h0 with
     |tree cell hb hc1 hc2 hc3 hc4 hg hh=>
      rename_i b off cap
      rw[h8]
      refine(Any.strings_Join L X b off cap ss sep w (fun j x hj=>?_) (hT _ hb) (by omega) (by omega) (aeb hl)).mono ?_
      ·have hr:=h5 j x hj
       obtain⟨h9,he⟩:=aen.1 hr
       have h2:=hg j 0 h9 (by omega)
       have h3:=hh j h9 0 (by rw[he];simp)
       simp only[he,List.getElem_cons_zero]at h3
       rw[h3.v_inv]at h2
       simpa using h2
      ·rintro e w' ⟨rfl,hk⟩
       exact give w' hk
     |tree0 hc=>
      have hm:ss=[]:=aem (by simpa using h8.symm)
      subst hm
      refine(Any.strings_Join_none L X _ _ sep w).mono ?_
      rintro e w' ⟨rfl,hw⟩
      subst hw
      exact give _ (Below.refl _ _)
   ·cases h
  ·cases h
theorem B2:Tryz.prog.follows .mixedOrders=true:=by kernel_rfl
theorem Kv:∀f ys ret,B7 213 f ys=some ret->d8 Tryz.prog f ys ret:=X9 (ρ:=Tryz.lays156_ren) Tryz.lays156 Tryz.Builder_Extra_156
theorem aag:∀e∈x3,d8 Tryz.prog e.1 e.2.1 e.2.2:=L4 (fun f ys r h=>uo B2 Kv mm h) Zc
theorem Fd:∀e∈Wk,d8 Tryz.prog e.1 e.2.1 e.2.2:=by
 intro e he
 simp only[Wk,aek,List.not_mem_nil,or_false]at he
 rcases he with rfl|rfl|rfl|rfl|rfl|rfl|rfl
 ·exact PRet.eq N2
 ·exact PRet.eq N1
 ·exact PRet.eq N0
 ·exact PRet.eq Nz
 ·exact PRet.eq Ny
 ·exact PRet.eq Nx
 ·exact PRet.eq Iu
theorem topT:∀e∈I4,d8 Tryz.prog e.1 e.2.1 e.2.2:=by
 intro e he
 simp only[I4,aek,List.not_mem_nil,or_false]at he
 rcases he with rfl|rfl|rfl
 ·exact uo B2 (re (re Kv (jw aag)) (jw Fd)) mm Yi
 ·exact uo B2 (re (re Kv (jw aag)) (jw Fd)) mm Yh
 ·exact uo B2 (re (re Kv (jw aag)) (jw Fd)) mm Yg
theorem awake_p:d8 Tryz.prog 6 [] (.v (.bool true)):=Fs B2 (re (re (re Kv (jw aag)) (jw Fd)) (jw topT)) mm adm
end Go.Proofs.YtbhhmbchdponjaaGreatDoor
