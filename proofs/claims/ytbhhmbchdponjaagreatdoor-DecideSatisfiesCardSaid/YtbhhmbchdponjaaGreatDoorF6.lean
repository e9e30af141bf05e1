/- Texts of the claim. -/
import Derived.Deep.Slices
import Derived.Deep.Fields
import Derived.ChangeSame
import Derived.ChangeArms
import Derived.SizedLaws
import Derived.OpenShut
import Derived.Test.YtbhhmbchdponjaaGreatDoorF5
import Derived.Test.YtbhhmbchdponjaaGreatDoorQ2
namespace Go.Proofs.YtbhhmbchdponjaaGreatDoor
set_option linter.unusedVariables false
set_option linter.unusedSimpArgs false
open Go.RowKit
theorem cq_eq {w:List GVal} {A:List Int} {k:PCon} {e:Int} (he:e=valW w A k.l) (h0:okF w k.l=true) (h1:e≤0) (h2:¬ e=0):(!k.eq)=true↔conG w A k:=by subst he; exact con_eq h0 h1 h2
set_option maxRecDepth 100000 in
set_option maxHeartbeats 4000000 in
theorem holds17_p (c:PCl) (w:List GVal) (hw:FitL w (fun y=>FitVal y)) (hc:RG c w.length) (hz:∀ x∈w,x.kind_=2→x.int_=0):PRet Tryz.prog 26 [.agg (clA c),.tree 3 (w.map gvA)] (fun r=>∃ b:Bool,r=.v (.bool b)∧(b=true↔HW c w)):=by
 have hc1:=hc.l1
 have hc2:=hc.l2
 have hc3:=hc.l3
 have hc4:=hc.l4
 have hc5:=hc.l5
 have hc6:=hc.l6
 have hc7:=hc.l7
 refine ovT [31,48,115,147,159,168,189,198] [] Tryz.func26 rfl rfl ?_
 refine LpG.on (fun k0:Nat=>(⟨fL [(1,.tree 3 (w.map gvA)),(2,.ptr 0 0 0),(5,.v (.int .i64 ((k0:Nat):Int)))],hLz [(0,⟨0,clA c,0,false⟩)],1⟩:St)) (fun k0=>(c.nul.length - k0)) (fun k0=>(k0≤c.nul.length∧∀ j (hl:j < c.nul.length),j < k0→nulH w c.nul[j])) 0 (cO (.cons rfl rfl (.cons rfl rfl (.cons rfl rfl .nil))) (.cons rfl rfl rfl .nil)) ⟨Nat.zero_le _,fun j _ h=>absurd h (Nat.not_lt_zero j)⟩ ?_
 rintro k0 hinv
 obtain ⟨hle_k0,hj_k0⟩:=hinv
 refine LenG.of (cB (fun hc22=>?_) (fun hc22=>?_))
 ·have hlt22:k0 < c.nul.length:=Int.ofNat_lt.1 (of_decide_eq_true hc22)
  obtain ⟨j1,hj1,hj1l⟩:∃ j:Nat,c.nul[k0]=((j:Nat):Int)∧j < w.length:=⟨(c.nul[k0]).toNat,by have:=hc.nul _ (List.getElem_mem hlt22); omega,by have:=hc.nul _ (List.getElem_mem hlt22); omega⟩
  refine IdxG.of (by assumption) (OpG.lk (LOp.indexI Tryz.underlying43 sz74 rfl rfl hj1 hj1l) ?_)
  refine cB (fun hc34=>?_) (fun hc34=>?_)
  ·have hq34:¬ ((w[j1].kind_:Int)=(0:Int)):=by simpa using hc34
   exact rV Tryz.results26 rfl (hf_n fun h=>nul_n hj1 hj1l hq34 (h.nul _ (List.getElem_mem hlt22)))
  have hq34:(w[j1].kind_:Int)=(0:Int):=by simpa using hc34
  refine ⟨by omega,?_⟩
  refine ⟨(k0+1),by omega,(cO (.cons rfl rfl (.cons rfl rfl (.cons rfl rfl .nil))) (.cons rfl rfl rfl .nil)),?_⟩
  refine ⟨by omega,fun j hl h=>?_⟩
  rcases Nat.lt_succ_iff_lt_or_eq.1 h with h | rfl
  ·exact hj_k0 j hl h
  exact nul_y hj1 hj1l (by simpa using hc34)
 have hge22:¬ k0 < c.nul.length:=fun h=>of_decide_eq_false hc22 (Int.ofNat_lt.2 h)
 have hnu:=all_of hge22 hj_k0
 refine LpG.on (fun k2:Nat=>(⟨fL [(1,.tree 3 (w.map gvA)),(2,.ptr 0 0 0),(6,.v (.int .i64 ((k2:Nat):Int)))],hLz [(0,⟨0,clA c,0,false⟩)],1⟩:St)) (fun k2=>(c.nn.length - k2)) (fun k2=>(k2≤c.nn.length∧∀ j (hl:j < c.nn.length),j < k2→nnH w c.nn[j])) 0 (cO (.cons rfl rfl (.cons rfl rfl (.cons rfl rfl .nil))) (.cons rfl rfl rfl .nil)) ⟨Nat.zero_le _,fun j _ h=>absurd h (Nat.not_lt_zero j)⟩ ?_
 rintro k2 hinv
 obtain ⟨hle_k2,hj_k2⟩:=hinv
 refine LenG.of (cB (fun hc39=>?_) (fun hc39=>?_))
 ·have hlt39:k2 < c.nn.length:=Int.ofNat_lt.1 (of_decide_eq_true hc39)
  obtain ⟨j1,hj1,hj1l⟩:∃ j:Nat,c.nn[k2]=((j:Nat):Int)∧j < w.length:=⟨(c.nn[k2]).toNat,by have:=hc.nn _ (List.getElem_mem hlt39); omega,by have:=hc.nn _ (List.getElem_mem hlt39); omega⟩
  refine IdxG.of (by assumption) (OpG.lk (LOp.indexI Tryz.underlying43 sz74 rfl rfl hj1 hj1l) ?_)
  refine cB (fun hc51=>?_) (fun hc51=>?_)
  ·have hq51:(w[j1].kind_:Int)=(0:Int):=by simpa using hc51
   exact rV Tryz.results26 rfl (hf_n fun h=>nn_n hj1 hj1l hq51 (h.nn _ (List.getElem_mem hlt39)))
  have hq51:¬ ((w[j1].kind_:Int)=(0:Int)):=by simpa using hc51
  refine ⟨by omega,?_⟩
  refine ⟨(k2+1),by omega,(cO (.cons rfl rfl (.cons rfl rfl (.cons rfl rfl .nil))) (.cons rfl rfl rfl .nil)),?_⟩
  refine ⟨by omega,fun j hl h=>?_⟩
  rcases Nat.lt_succ_iff_lt_or_eq.1 h with h | rfl
  ·exact hj_k2 j hl h
  exact nn_y hj1 hj1l (by simpa using hc51)
 have hge39:¬ k2 < c.nn.length:=fun h=>of_decide_eq_false hc39 (Int.ofNat_lt.2 h)
 have hnn:=all_of hge39 hj_k2
 refine ArgG.mk ((auxiliary17_p c w hw hc3 hc.ax).mono (fun _ h=>aux_q h)) rfl ?_
 rintro _ ⟨A0,b0,rfl,hb0,hA0,hL0⟩
 refine LpG.on (fun k4:KB=>(⟨fL [(1,.tree 3 (w.map gvA)),(2,.ptr 0 0 0),(7,.tree 1 (A0.map iA)),(8,.v (.bool k4.b)),(9,.v (.int .i64 ((k4.k:Nat):Int)))],hLz [(0,⟨0,clA c,0,false⟩)],1⟩:St)) (fun k4=>(c.ints.length - k4.k)) (fun k4=>(k4.k≤c.ints.length∧(k4.b=true↔c.aux.all (axO w)=true∧∀ j,j < c.ints.length→j < k4.k→conG w A0 (c.ints.getD j default)))) (⟨0,b0⟩:KB) (cO (.cons rfl rfl (.cons rfl rfl (.cons rfl rfl (.cons rfl rfl (.cons rfl rfl .nil))))) (.cons rfl rfl rfl .nil)) ⟨Nat.zero_le _,kb_0 hb0⟩ ?_
 rintro k4 hinv
 obtain ⟨hle_k4,hi_k4⟩:=hinv
 refine LenG.of (cB (fun hg63=>?_) (fun hg63=>?_))
 ·have hlt63:k4.k < c.ints.length:=Int.ofNat_lt.1 (of_decide_eq_true hg63)
  refine cB (fun hc65=>?_) (fun hc65=>?_)
  ·have hax1:=(hi_k4.1 hc65).1
   have hxl:A0.length=c.aux.length:=by rw [hA0 (hb0.2 hax1)]; have h:=axsW_len w c.aux c.aux.length (Nat.le_refl _); rwa [List.take_length] at h
   have hcf:RgF w.length A0.length c.ints[k4.k].l:=by rw [hxl]; exact hc.it _ (List.getElem_mem hlt63)
   refine IdxG.of (by assumption) (ArgG.mk ((value17_p c.ints[k4.k].l w hw A0 ⟨by rw [hxl]; omega,fun _ _=>trivial⟩ hcf).mono (fun _ h=>cmp_q h)) rfl ?_)
   rintro _ ⟨ev,bv,rfl,hbv,hev⟩
   refine cB (fun hg81=>?_) (fun hg81=>?_)
   ·have hko:=hbv.1 hg81
    have hve:=hev hg81
    refine cB (fun hg85=>?_) (fun hg85=>?_)
    ·have hq85:(ev:Int)≤(0:Int):=of_decide_eq_true hg85
     refine cB (fun hg88=>?_) (fun hg88=>?_)
     ·have hq88:(ev:Int)=(0:Int):=by simpa using hg88
      refine ⟨by omega,?_⟩
      refine ⟨(⟨k4.k+1,true⟩:KB),(by show c.ints.length - (k4.k+1) < c.ints.length - k4.k; omega),(cO (.cons rfl rfl (.cons rfl rfl (.cons rfl rfl (.cons rfl rfl (.cons rfl rfl .nil))))) (.cons rfl rfl rfl .nil)),?_⟩
      refine ⟨by show k4.k+1≤_; omega,?_⟩
      exact kb_next (H:=fun j=>conG w A0 (c.ints.getD j default)) hi_k4 hc65 (by rw [getD_at hlt63]; exact tt (cq_y1 hve hko (by omega) hq88)) hlt63
     have hq88:¬ ((ev:Int)=(0:Int)):=by simpa using hg88
     refine IdxG.of (by assumption) ⟨by omega,⟨(⟨k4.k+1,(!c.ints[k4.k].eq)⟩:KB),(by show c.ints.length - (k4.k+1) < c.ints.length - k4.k; omega),(cO (.cons rfl rfl (.cons rfl rfl (.cons rfl rfl (.cons rfl rfl (.cons rfl rfl .nil))))) (.cons rfl rfl rfl .nil)),?_⟩⟩
     refine ⟨by show k4.k+1≤_; omega,?_⟩
     exact kb_next (H:=fun j=>conG w A0 (c.ints.getD j default)) hi_k4 hc65 (by rw [getD_at hlt63]; exact cq_eq hve hko hq85 hq88) hlt63
    have hq85:¬ ((ev:Int)≤(0:Int)):=of_decide_eq_false hg85
    refine ⟨by omega,?_⟩
    refine ⟨(⟨k4.k+1,false⟩:KB),(by show c.ints.length - (k4.k+1) < c.ints.length - k4.k; omega),(cO (.cons rfl rfl (.cons rfl rfl (.cons rfl rfl (.cons rfl rfl (.cons rfl rfl .nil))))) (.cons rfl rfl rfl .nil)),?_⟩
    refine ⟨by show k4.k+1≤_; omega,?_⟩
    exact kb_next (H:=fun j=>conG w A0 (c.ints.getD j default)) hi_k4 hc65 (by rw [getD_at hlt63]; exact ff (cq_n1 hve (by omega))) hlt63
   refine cF ⟨by omega,⟨(⟨k4.k+1,false⟩:KB),(by show c.ints.length - (k4.k+1) < c.ints.length - k4.k; omega),(cO (.cons rfl rfl (.cons rfl rfl (.cons rfl rfl (.cons rfl rfl (.cons rfl rfl .nil))))) (.cons rfl rfl rfl .nil)),?_⟩⟩
   refine ⟨by show k4.k+1≤_; omega,?_⟩
   exact kb_next (H:=fun j=>conG w A0 (c.ints.getD j default)) hi_k4 hc65 (by rw [getD_at hlt63]; exact ff (fun g=>Bool.noConfusion ((hbv.2 g.1).symm.trans hg81))) hlt63
  have hQ4:k4.b=true↔c.aux.all (axO w)=true∧∀ x∈c.ints,conG w A0 x:=kb_end (H:=fun x=>conG w A0 x) hi_k4 (.inr hc65)
  refine LpG.on (fun k6:KB=>(⟨fL [(1,.tree 3 (w.map gvA)),(2,.ptr 0 0 0),(8,.v (.bool k6.b)),(12,.v (.int .i64 ((k6.k:Nat):Int)))],hLz [(0,⟨0,clA c,0,false⟩)],1⟩:St)) (fun k6=>(c.tests.length - k6.k)) (fun k6=>(k6.k≤c.tests.length∧(k6.b=true↔k4.b=true∧∀ j,j < c.tests.length→j < k6.k→tesG w (c.tests.getD j default)))) (⟨0,k4.b⟩:KB) (cO (.cons rfl rfl (.cons rfl rfl (.cons rfl rfl (.cons rfl rfl .nil)))) (.cons rfl rfl rfl .nil)) ⟨Nat.zero_le _,kb_0 Iff.rfl⟩ ?_
  rintro k6 hinv
  obtain ⟨hle_k6,hi_k6⟩:=hinv
  refine LenG.of (cB (fun hg103=>?_) (fun hg103=>?_))
  ·have hlt103:k6.k < c.tests.length:=Int.ofNat_lt.1 (of_decide_eq_true hg103)
   refine cB (fun hc105=>?_) (fun hc105=>?_)
   ·obtain ⟨htv,htk,hts⟩:=hc.ts _ (List.getElem_mem hlt103)
    obtain ⟨j1,hj1,hj1l⟩:∃ j:Nat,c.tests[k6.k].v=((j:Nat):Int)∧j < w.length:=⟨(c.tests[k6.k].v).toNat,by have:=htv; omega,by have:=htv; omega⟩
    refine IdxG.of (by assumption) (OpG.lk (LOp.indexI Tryz.underlying43 sz74 rfl rfl hj1 hj1l) ?_)
    refine cB (fun hg120=>?_) (fun hg120=>?_)
    ·have hq120:(w[j1].kind_:Int)=(2:Int):=by simpa using hg120
     refine IdxG.of (by assumption) (ArgG.mk (passesR_p c.tests[k6.k] w[j1].text_ (hw.2 _ (List.getElem_mem hj1l)).text_ hts) rfl ?_)
     rintro _ rfl
     refine ⟨by kernel_rfl,?_⟩
     refine ⟨by omega,?_⟩
     refine ⟨(⟨k6.k+1,(pasS c.tests[k6.k] w[j1].text_)⟩:KB),(by show c.tests.length - (k6.k+1) < c.tests.length - k6.k; omega),(cO (.cons rfl rfl (.cons rfl rfl (.cons rfl rfl (.cons rfl rfl .nil)))) (.cons rfl rfl rfl .nil)),?_⟩
     refine ⟨by show k6.k+1≤_; omega,?_⟩
     exact kb_next (H:=fun j=>tesG w (c.tests.getD j default)) hi_k6 hc105 (by rw [getD_at hlt103]; exact tes_iff hj1 hj1l hq120) hlt103
    have hq120:¬ ((w[j1].kind_:Int)=(2:Int)):=by simpa using hg120
    refine ⟨by kernel_rfl,?_⟩
    refine ⟨by omega,?_⟩
    refine ⟨(⟨k6.k+1,false⟩:KB),(by show c.tests.length - (k6.k+1) < c.tests.length - k6.k; omega),(cO (.cons rfl rfl (.cons rfl rfl (.cons rfl rfl (.cons rfl rfl .nil)))) (.cons rfl rfl rfl .nil)),?_⟩
    refine ⟨by show k6.k+1≤_; omega,?_⟩
    exact kb_next (H:=fun j=>tesG w (c.tests.getD j default)) hi_k6 hc105 (by rw [getD_at hlt103]; exact ff (tes_k hj1 hj1l hq120)) hlt103
   have hQ6:k6.b=true↔k4.b=true∧∀ x∈c.tests,tesG w x:=kb_end (H:=fun x=>tesG w x) hi_k6 (.inr hc105)
   refine LpG.on (fun k8:KB=>(⟨fL [(1,.tree 3 (w.map gvA)),(2,.ptr 0 0 0),(8,.v (.bool k8.b)),(14,.v (.int .i64 ((k8.k:Nat):Int)))],hLz [(0,⟨0,clA c,0,false⟩)],1⟩:St)) (fun k8=>(c.same.length - k8.k)) (fun k8=>(k8.k≤c.same.length∧(k8.b=true↔k6.b=true∧∀ j,j < c.same.length→j < k8.k→samG w (c.same.getD j default)))) (⟨0,k6.b⟩:KB) (cO (.cons rfl rfl (.cons rfl rfl (.cons rfl rfl (.cons rfl rfl .nil)))) (.cons rfl rfl rfl .nil)) ⟨Nat.zero_le _,kb_0 Iff.rfl⟩ ?_
   rintro k8 hinv
   obtain ⟨hle_k8,hi_k8⟩:=hinv
   refine LenG.of (cB (fun hg135=>?_) (fun hg135=>?_))
   ·have hlt135:k8.k < c.same.length:=Int.ofNat_lt.1 (of_decide_eq_true hg135)
    refine cB (fun hc137=>?_) (fun hc137=>?_)
    ·have hpr1:=(hc.sm _ (List.getElem_mem hlt135)).1
     have hpr2:=(hc.sm _ (List.getElem_mem hlt135)).2
     obtain ⟨j1,hj1,hj1l⟩:∃ j:Nat,c.same[k8.k].1=((j:Nat):Int)∧j < w.length:=⟨(c.same[k8.k].1).toNat,by have:=hpr1; omega,by have:=hpr1; omega⟩
     obtain ⟨j2,hj2,hj2l⟩:∃ j:Nat,c.same[k8.k].2=((j:Nat):Int)∧j < w.length:=⟨(c.same[k8.k].2).toNat,by have:=hpr2; omega,by have:=hpr2; omega⟩
     refine IdxG.of (by assumption) (OpG.lk (LOp.indexArrT Tryz.underlying62 sz3 rfl rfl rfl) ?_)
     refine OpG.lk (LOp.indexI Tryz.underlying43 sz74 rfl rfl hj1 hj1l) ?_
     refine cB (fun hg151=>?_) (fun hg151=>?_)
     ·have hq151:(w[j1].kind_:Int)=(2:Int):=by simpa using hg151
      refine IdxG.of (by assumption) (OpG.lk (LOp.indexArrT Tryz.underlying62 sz3 rfl rfl rfl) ?_)
      refine OpG.lk (LOp.indexI Tryz.underlying43 sz74 rfl rfl hj1 hj1l) ?_
      refine IdxG.of (by assumption) (OpG.lk (LOp.indexArrT Tryz.underlying62 sz3 rfl rfl rfl) ?_)
      refine OpG.lk (LOp.indexI Tryz.underlying43 sz74 rfl rfl hj2 hj2l) ?_
      refine OpG.lk (LOp.eqVal rfl rfl) ?_
      refine ⟨by kernel_rfl,?_⟩
      refine ⟨by omega,?_⟩
      refine ⟨(⟨k8.k+1,(w[j1].kind_==w[j2].kind_&&(w[j1].int_==w[j2].int_&&w[j1].text_.toList==w[j2].text_.toList))⟩:KB),(by show c.same.length - (k8.k+1) < c.same.length - k8.k; omega),(cO (.cons rfl rfl (.cons rfl rfl (.cons rfl rfl (.cons rfl rfl .nil)))) (.cons rfl rfl rfl .nil)),?_⟩
      refine ⟨by show k8.k+1≤_; omega,?_⟩
      exact kb_next (H:=fun j=>samG w (c.same.getD j default)) hi_k8 hc137 (by rw [getD_at hlt135]; exact sam_iff hj1 hj1l hj2 hj2l hz hq151) hlt135
     have hq151:¬ ((w[j1].kind_:Int)=(2:Int)):=by simpa using hg151
     refine ⟨by kernel_rfl,?_⟩
     refine ⟨by omega,?_⟩
     refine ⟨(⟨k8.k+1,false⟩:KB),(by show c.same.length - (k8.k+1) < c.same.length - k8.k; omega),(cO (.cons rfl rfl (.cons rfl rfl (.cons rfl rfl (.cons rfl rfl .nil)))) (.cons rfl rfl rfl .nil)),?_⟩
     refine ⟨by show k8.k+1≤_; omega,?_⟩
     exact kb_next (H:=fun j=>samG w (c.same.getD j default)) hi_k8 hc137 (by rw [getD_at hlt135]; exact ff (sam_k1 hj1 hj1l hj2 hj2l hq151)) hlt135
    have hQ8:k8.b=true↔k6.b=true∧∀ x∈c.same,samG w x:=kb_end (H:=fun x=>samG w x) hi_k8 (.inr hc137)
    refine LpG.on (fun k10:KB=>(⟨fL [(1,.tree 3 (w.map gvA)),(2,.ptr 0 0 0),(8,.v (.bool k10.b)),(15,.v (.int .i64 ((k10.k:Nat):Int)))],hLz [(0,⟨0,clA c,0,false⟩)],1⟩:St)) (fun k10=>(c.diff.length - k10.k)) (fun k10=>(k10.k≤c.diff.length∧(k10.b=true↔k8.b=true∧∀ j,j < c.diff.length→j < k10.k→difG w (c.diff.getD j default)))) (⟨0,k8.b⟩:KB) (cO (.cons rfl rfl (.cons rfl rfl (.cons rfl rfl (.cons rfl rfl .nil)))) (.cons rfl rfl rfl .nil)) ⟨Nat.zero_le _,kb_0 Iff.rfl⟩ ?_
    rintro k10 hinv
    obtain ⟨hle_k10,hi_k10⟩:=hinv
    refine LenG.of (cB (fun hg177=>?_) (fun hg177=>?_))
    ·have hlt177:k10.k < c.diff.length:=Int.ofNat_lt.1 (of_decide_eq_true hg177)
     refine cB (fun hc179=>?_) (fun hc179=>?_)
     ·have hpr1:=(hc.df _ (List.getElem_mem hlt177)).1
      have hpr2:=(hc.df _ (List.getElem_mem hlt177)).2
      obtain ⟨j1,hj1,hj1l⟩:∃ j:Nat,c.diff[k10.k].1=((j:Nat):Int)∧j < w.length:=⟨(c.diff[k10.k].1).toNat,by have:=hpr1; omega,by have:=hpr1; omega⟩
      obtain ⟨j2,hj2,hj2l⟩:∃ j:Nat,c.diff[k10.k].2=((j:Nat):Int)∧j < w.length:=⟨(c.diff[k10.k].2).toNat,by have:=hpr2; omega,by have:=hpr2; omega⟩
      refine IdxG.of (by assumption) (OpG.lk (LOp.indexArrT Tryz.underlying62 sz3 rfl rfl rfl) ?_)
      refine OpG.lk (LOp.indexI Tryz.underlying43 sz74 rfl rfl hj1 hj1l) ?_
      refine IdxG.of (by assumption) (OpG.lk (LOp.indexArrT Tryz.underlying62 sz3 rfl rfl rfl) ?_)
      refine OpG.lk (LOp.indexI Tryz.underlying43 sz74 rfl rfl hj2 hj2l) ?_
      refine ⟨by kernel_rfl,?_⟩
      refine cB (fun hg203=>?_) (fun hg203=>?_)
      ·have hq203:(w[j1].kind_:Int)=(2:Int):=by simpa using hg203
       refine cB (fun hg208=>?_) (fun hg208=>?_)
       ·have hq208:(w[j2].kind_:Int)=(2:Int):=by simpa using hg208
        refine ⟨by omega,?_⟩
        refine ⟨(⟨k10.k+1,(!(w[j1].text_.toList==w[j2].text_.toList))⟩:KB),(by show c.diff.length - (k10.k+1) < c.diff.length - k10.k; omega),(cO (.cons rfl rfl (.cons rfl rfl (.cons rfl rfl (.cons rfl rfl .nil)))) (.cons rfl rfl rfl .nil)),?_⟩
        refine ⟨by show k10.k+1≤_; omega,?_⟩
        exact kb_next (H:=fun j=>difG w (c.diff.getD j default)) hi_k10 hc179 (by rw [getD_at hlt177]; exact dif_iff hj1 hj1l hj2 hj2l hq203 hq208) hlt177
       have hq208:¬ ((w[j2].kind_:Int)=(2:Int)):=by simpa using hg208
       refine ⟨by omega,?_⟩
       refine ⟨(⟨k10.k+1,false⟩:KB),(by show c.diff.length - (k10.k+1) < c.diff.length - k10.k; omega),(cO (.cons rfl rfl (.cons rfl rfl (.cons rfl rfl (.cons rfl rfl .nil)))) (.cons rfl rfl rfl .nil)),?_⟩
       refine ⟨by show k10.k+1≤_; omega,?_⟩
       exact kb_next (H:=fun j=>difG w (c.diff.getD j default)) hi_k10 hc179 (by rw [getD_at hlt177]; exact ff (dif_k2 hj1 hj1l hj2 hj2l hq208)) hlt177
      have hq203:¬ ((w[j1].kind_:Int)=(2:Int)):=by simpa using hg203
      refine cF ⟨by omega,⟨(⟨k10.k+1,false⟩:KB),(by show c.diff.length - (k10.k+1) < c.diff.length - k10.k; omega),(cO (.cons rfl rfl (.cons rfl rfl (.cons rfl rfl (.cons rfl rfl .nil)))) (.cons rfl rfl rfl .nil)),?_⟩⟩
      refine ⟨by show k10.k+1≤_; omega,?_⟩
      exact kb_next (H:=fun j=>difG w (c.diff.getD j default)) hi_k10 hc179 (by rw [getD_at hlt177]; exact ff (dif_k1 hj1 hj1l hj2 hj2l hq203)) hlt177
     have hQ10:k10.b=true↔k8.b=true∧∀ x∈c.diff,difG w x:=kb_end (H:=fun x=>difG w x) hi_k10 (.inr hc179)
     exact rV Tryz.results26 rfl ⟨_,rfl,fun h=>by obtain ⟨h,d1⟩:=hQ10.1 h; obtain ⟨h,d2⟩:=hQ8.1 h; obtain ⟨h,d3⟩:=hQ6.1 h; obtain ⟨h,d4⟩:=hQ4.1 h; exact ⟨hnu,hnn,h,by rw [← hA0 (hb0.2 h)]; exact d4,d3,d2,d1⟩,fun h=>hQ10.2 ⟨hQ8.2 ⟨hQ6.2 ⟨hQ4.2 ⟨h.ax,by rw [hA0 (hb0.2 h.ax)]; exact h.ints⟩,h.tests⟩,h.same⟩,h.diff⟩⟩
    have hge177:¬ k10.k < c.diff.length:=fun h=>of_decide_eq_false hg177 (Int.ofNat_lt.2 h)
    have hQ10:k10.b=true↔k8.b=true∧∀ x∈c.diff,difG w x:=kb_end (H:=fun x=>difG w x) hi_k10 (.inl hge177)
    exact cF (rV Tryz.results26 rfl ⟨_,rfl,fun h=>by obtain ⟨h,d1⟩:=hQ10.1 h; obtain ⟨h,d2⟩:=hQ8.1 h; obtain ⟨h,d3⟩:=hQ6.1 h; obtain ⟨h,d4⟩:=hQ4.1 h; exact ⟨hnu,hnn,h,by rw [← hA0 (hb0.2 h)]; exact d4,d3,d2,d1⟩,fun h=>hQ10.2 ⟨hQ8.2 ⟨hQ6.2 ⟨hQ4.2 ⟨h.ax,by rw [hA0 (hb0.2 h.ax)]; exact h.ints⟩,h.tests⟩,h.same⟩,h.diff⟩⟩)
   have hge135:¬ k8.k < c.same.length:=fun h=>of_decide_eq_false hg135 (Int.ofNat_lt.2 h)
   have hQ8:k8.b=true↔k6.b=true∧∀ x∈c.same,samG w x:=kb_end (H:=fun x=>samG w x) hi_k8 (.inl hge135)
   refine cF (LpG.on (fun k10:KB=>(⟨fL [(1,.tree 3 (w.map gvA)),(2,.ptr 0 0 0),(8,.v (.bool k10.b)),(15,.v (.int .i64 ((k10.k:Nat):Int)))],hLz [(0,⟨0,clA c,0,false⟩)],1⟩:St)) (fun k10=>(c.diff.length - k10.k)) (fun k10=>(k10.k≤c.diff.length∧(k10.b=true↔k8.b=true∧∀ j,j < c.diff.length→j < k10.k→difG w (c.diff.getD j default)))) (⟨0,k8.b⟩:KB) (cO (.cons rfl rfl (.cons rfl rfl (.cons rfl rfl (.cons rfl rfl .nil)))) (.cons rfl rfl rfl .nil)) ⟨Nat.zero_le _,kb_0 Iff.rfl⟩ ?_)
   rintro k10 hinv
   obtain ⟨hle_k10,hi_k10⟩:=hinv
   refine LenG.of (cB (fun hg177=>?_) (fun hg177=>?_))
   ·have hlt177:k10.k < c.diff.length:=Int.ofNat_lt.1 (of_decide_eq_true hg177)
    refine cB (fun hc179=>?_) (fun hc179=>?_)
    ·have hpr1:=(hc.df _ (List.getElem_mem hlt177)).1
     have hpr2:=(hc.df _ (List.getElem_mem hlt177)).2
     obtain ⟨j1,hj1,hj1l⟩:∃ j:Nat,c.diff[k10.k].1=((j:Nat):Int)∧j < w.length:=⟨(c.diff[k10.k].1).toNat,by have:=hpr1; omega,by have:=hpr1; omega⟩
     obtain ⟨j2,hj2,hj2l⟩:∃ j:Nat,c.diff[k10.k].2=((j:Nat):Int)∧j < w.length:=⟨(c.diff[k10.k].2).toNat,by have:=hpr2; omega,by have:=hpr2; omega⟩
     refine IdxG.of (by assumption) (OpG.lk (LOp.indexArrT Tryz.underlying62 sz3 rfl rfl rfl) ?_)
     refine OpG.lk (LOp.indexI Tryz.underlying43 sz74 rfl rfl hj1 hj1l) ?_
     refine IdxG.of (by assumption) (OpG.lk (LOp.indexArrT Tryz.underlying62 sz3 rfl rfl rfl) ?_)
     refine OpG.lk (LOp.indexI Tryz.underlying43 sz74 rfl rfl hj2 hj2l) ?_
     refine ⟨by kernel_rfl,?_⟩
     refine cB (fun hg203=>?_) (fun hg203=>?_)
     ·have hq203:(w[j1].kind_:Int)=(2:Int):=by simpa using hg203
      refine cB (fun hg208=>?_) (fun hg208=>?_)
      ·have hq208:(w[j2].kind_:Int)=(2:Int):=by simpa using hg208
       refine ⟨by omega,?_⟩
       refine ⟨(⟨k10.k+1,(!(w[j1].text_.toList==w[j2].text_.toList))⟩:KB),(by show c.diff.length - (k10.k+1) < c.diff.length - k10.k; omega),(cO (.cons rfl rfl (.cons rfl rfl (.cons rfl rfl (.cons rfl rfl .nil)))) (.cons rfl rfl rfl .nil)),?_⟩
       refine ⟨by show k10.k+1≤_; omega,?_⟩
       exact kb_next (H:=fun j=>difG w (c.diff.getD j default)) hi_k10 hc179 (by rw [getD_at hlt177]; exact dif_iff hj1 hj1l hj2 hj2l hq203 hq208) hlt177
      have hq208:¬ ((w[j2].kind_:Int)=(2:Int)):=by simpa using hg208
      refine ⟨by omega,?_⟩
      refine ⟨(⟨k10.k+1,false⟩:KB),(by show c.diff.length - (k10.k+1) < c.diff.length - k10.k; omega),(cO (.cons rfl rfl (.cons rfl rfl (.cons rfl rfl (.cons rfl rfl .nil)))) (.cons rfl rfl rfl .nil)),?_⟩
      refine ⟨by show k10.k+1≤_; omega,?_⟩
      exact kb_next (H:=fun j=>difG w (c.diff.getD j default)) hi_k10 hc179 (by rw [getD_at hlt177]; exact ff (dif_k2 hj1 hj1l hj2 hj2l hq208)) hlt177
     have hq203:¬ ((w[j1].kind_:Int)=(2:Int)):=by simpa using hg203
     refine cF ⟨by omega,⟨(⟨k10.k+1,false⟩:KB),(by show c.diff.length - (k10.k+1) < c.diff.length - k10.k; omega),(cO (.cons rfl rfl (.cons rfl rfl (.cons rfl rfl (.cons rfl rfl .nil)))) (.cons rfl rfl rfl .nil)),?_⟩⟩
     refine ⟨by show k10.k+1≤_; omega,?_⟩
     exact kb_next (H:=fun j=>difG w (c.diff.getD j default)) hi_k10 hc179 (by rw [getD_at hlt177]; exact ff (dif_k1 hj1 hj1l hj2 hj2l hq203)) hlt177
    have hQ10:k10.b=true↔k8.b=true∧∀ x∈c.diff,difG w x:=kb_end (H:=fun x=>difG w x) hi_k10 (.inr hc179)
    exact rV Tryz.results26 rfl ⟨_,rfl,fun h=>by obtain ⟨h,d1⟩:=hQ10.1 h; obtain ⟨h,d2⟩:=hQ8.1 h; obtain ⟨h,d3⟩:=hQ6.1 h; obtain ⟨h,d4⟩:=hQ4.1 h; exact ⟨hnu,hnn,h,by rw [← hA0 (hb0.2 h)]; exact d4,d3,d2,d1⟩,fun h=>hQ10.2 ⟨hQ8.2 ⟨hQ6.2 ⟨hQ4.2 ⟨h.ax,by rw [hA0 (hb0.2 h.ax)]; exact h.ints⟩,h.tests⟩,h.same⟩,h.diff⟩⟩
   have hge177:¬ k10.k < c.diff.length:=fun h=>of_decide_eq_false hg177 (Int.ofNat_lt.2 h)
   have hQ10:k10.b=true↔k8.b=true∧∀ x∈c.diff,difG w x:=kb_end (H:=fun x=>difG w x) hi_k10 (.inl hge177)
   exact cF (rV Tryz.results26 rfl ⟨_,rfl,fun h=>by obtain ⟨h,d1⟩:=hQ10.1 h; obtain ⟨h,d2⟩:=hQ8.1 h; obtain ⟨h,d3⟩:=hQ6.1 h; obtain ⟨h,d4⟩:=hQ4.1 h; exact ⟨hnu,hnn,h,by rw [← hA0 (hb0.2 h)]; exact d4,d3,d2,d1⟩,fun h=>hQ10.2 ⟨hQ8.2 ⟨hQ6.2 ⟨hQ4.2 ⟨h.ax,by rw [hA0 (hb0.2 h.ax)]; exact h.ints⟩,h.tests⟩,h.same⟩,h.diff⟩⟩)
  have hge103:¬ k6.k < c.tests.length:=fun h=>of_decide_eq_false hg103 (Int.ofNat_lt.2 h)
  have hQ6:k6.b=true↔k4.b=true∧∀ x∈c.tests,tesG w x:=kb_end (H:=fun x=>tesG w x) hi_k6 (.inl hge103)
  refine cF (LpG.on (fun k8:KB=>(⟨fL [(1,.tree 3 (w.map gvA)),(2,.ptr 0 0 0),(8,.v (.bool k8.b)),(14,.v (.int .i64 ((k8.k:Nat):Int)))],hLz [(0,⟨0,clA c,0,false⟩)],1⟩:St)) (fun k8=>(c.same.length - k8.k)) (fun k8=>(k8.k≤c.same.length∧(k8.b=true↔k6.b=true∧∀ j,j < c.same.length→j < k8.k→samG w (c.same.getD j default)))) (⟨0,k6.b⟩:KB) (cO (.cons rfl rfl (.cons rfl rfl (.cons rfl rfl (.cons rfl rfl .nil)))) (.cons rfl rfl rfl .nil)) ⟨Nat.zero_le _,kb_0 Iff.rfl⟩ ?_)
  rintro k8 hinv
  obtain ⟨hle_k8,hi_k8⟩:=hinv
  refine LenG.of (cB (fun hg135=>?_) (fun hg135=>?_))
  ·have hlt135:k8.k < c.same.length:=Int.ofNat_lt.1 (of_decide_eq_true hg135)
   refine cB (fun hc137=>?_) (fun hc137=>?_)
   ·have hpr1:=(hc.sm _ (List.getElem_mem hlt135)).1
    have hpr2:=(hc.sm _ (List.getElem_mem hlt135)).2
    obtain ⟨j1,hj1,hj1l⟩:∃ j:Nat,c.same[k8.k].1=((j:Nat):Int)∧j < w.length:=⟨(c.same[k8.k].1).toNat,by have:=hpr1; omega,by have:=hpr1; omega⟩
    obtain ⟨j2,hj2,hj2l⟩:∃ j:Nat,c.same[k8.k].2=((j:Nat):Int)∧j < w.length:=⟨(c.same[k8.k].2).toNat,by have:=hpr2; omega,by have:=hpr2; omega⟩
    refine IdxG.of (by assumption) (OpG.lk (LOp.indexArrT Tryz.underlying62 sz3 rfl rfl rfl) ?_)
    refine OpG.lk (LOp.indexI Tryz.underlying43 sz74 rfl rfl hj1 hj1l) ?_
    refine cB (fun hg151=>?_) (fun hg151=>?_)
    ·have hq151:(w[j1].kind_:Int)=(2:Int):=by simpa using hg151
     refine IdxG.of (by assumption) (OpG.lk (LOp.indexArrT Tryz.underlying62 sz3 rfl rfl rfl) ?_)
     refine OpG.lk (LOp.indexI Tryz.underlying43 sz74 rfl rfl hj1 hj1l) ?_
     refine IdxG.of (by assumption) (OpG.lk (LOp.indexArrT Tryz.underlying62 sz3 rfl rfl rfl) ?_)
     refine OpG.lk (LOp.indexI Tryz.underlying43 sz74 rfl rfl hj2 hj2l) ?_
     refine OpG.lk (LOp.eqVal rfl rfl) ?_
     refine ⟨by kernel_rfl,?_⟩
     refine ⟨by omega,?_⟩
     refine ⟨(⟨k8.k+1,(w[j1].kind_==w[j2].kind_&&(w[j1].int_==w[j2].int_&&w[j1].text_.toList==w[j2].text_.toList))⟩:KB),(by show c.same.length - (k8.k+1) < c.same.length - k8.k; omega),(cO (.cons rfl rfl (.cons rfl rfl (.cons rfl rfl (.cons rfl rfl .nil)))) (.cons rfl rfl rfl .nil)),?_⟩
     refine ⟨by show k8.k+1≤_; omega,?_⟩
     exact kb_next (H:=fun j=>samG w (c.same.getD j default)) hi_k8 hc137 (by rw [getD_at hlt135]; exact sam_iff hj1 hj1l hj2 hj2l hz hq151) hlt135
    have hq151:¬ ((w[j1].kind_:Int)=(2:Int)):=by simpa using hg151
    refine ⟨by kernel_rfl,?_⟩
    refine ⟨by omega,?_⟩
    refine ⟨(⟨k8.k+1,false⟩:KB),(by show c.same.length - (k8.k+1) < c.same.length - k8.k; omega),(cO (.cons rfl rfl (.cons rfl rfl (.cons rfl rfl (.cons rfl rfl .nil)))) (.cons rfl rfl rfl .nil)),?_⟩
    refine ⟨by show k8.k+1≤_; omega,?_⟩
    exact kb_next (H:=fun j=>samG w (c.same.getD j default)) hi_k8 hc137 (by rw [getD_at hlt135]; exact ff (sam_k1 hj1 hj1l hj2 hj2l hq151)) hlt135
   have hQ8:k8.b=true↔k6.b=true∧∀ x∈c.same,samG w x:=kb_end (H:=fun x=>samG w x) hi_k8 (.inr hc137)
   refine LpG.on (fun k10:KB=>(⟨fL [(1,.tree 3 (w.map gvA)),(2,.ptr 0 0 0),(8,.v (.bool k10.b)),(15,.v (.int .i64 ((k10.k:Nat):Int)))],hLz [(0,⟨0,clA c,0,false⟩)],1⟩:St)) (fun k10=>(c.diff.length - k10.k)) (fun k10=>(k10.k≤c.diff.length∧(k10.b=true↔k8.b=true∧∀ j,j < c.diff.length→j < k10.k→difG w (c.diff.getD j default)))) (⟨0,k8.b⟩:KB) (cO (.cons rfl rfl (.cons rfl rfl (.cons rfl rfl (.cons rfl rfl .nil)))) (.cons rfl rfl rfl .nil)) ⟨Nat.zero_le _,kb_0 Iff.rfl⟩ ?_
   rintro k10 hinv
   obtain ⟨hle_k10,hi_k10⟩:=hinv
   refine LenG.of (cB (fun hg177=>?_) (fun hg177=>?_))
   ·have hlt177:k10.k < c.diff.length:=Int.ofNat_lt.1 (of_decide_eq_true hg177)
    refine cB (fun hc179=>?_) (fun hc179=>?_)
    ·have hpr1:=(hc.df _ (List.getElem_mem hlt177)).1
     have hpr2:=(hc.df _ (List.getElem_mem hlt177)).2
     obtain ⟨j1,hj1,hj1l⟩:∃ j:Nat,c.diff[k10.k].1=((j:Nat):Int)∧j < w.length:=⟨(c.diff[k10.k].1).toNat,by have:=hpr1; omega,by have:=hpr1; omega⟩
     obtain ⟨j2,hj2,hj2l⟩:∃ j:Nat,c.diff[k10.k].2=((j:Nat):Int)∧j < w.length:=⟨(c.diff[k10.k].2).toNat,by have:=hpr2; omega,by have:=hpr2; omega⟩
     refine IdxG.of (by assumption) (OpG.lk (LOp.indexArrT Tryz.underlying62 sz3 rfl rfl rfl) ?_)
     refine OpG.lk (LOp.indexI Tryz.underlying43 sz74 rfl rfl hj1 hj1l) ?_
     refine IdxG.of (by assumption) (OpG.lk (LOp.indexArrT Tryz.underlying62 sz3 rfl rfl rfl) ?_)
     refine OpG.lk (LOp.indexI Tryz.underlying43 sz74 rfl rfl hj2 hj2l) ?_
     refine ⟨by kernel_rfl,?_⟩
     refine cB (fun hg203=>?_) (fun hg203=>?_)
     ·have hq203:(w[j1].kind_:Int)=(2:Int):=by simpa using hg203
      refine cB (fun hg208=>?_) (fun hg208=>?_)
      ·have hq208:(w[j2].kind_:Int)=(2:Int):=by simpa using hg208
       refine ⟨by omega,?_⟩
       refine ⟨(⟨k10.k+1,(!(w[j1].text_.toList==w[j2].text_.toList))⟩:KB),(by show c.diff.length - (k10.k+1) < c.diff.length - k10.k; omega),(cO (.cons rfl rfl (.cons rfl rfl (.cons rfl rfl (.cons rfl rfl .nil)))) (.cons rfl rfl rfl .nil)),?_⟩
       refine ⟨by show k10.k+1≤_; omega,?_⟩
       exact kb_next (H:=fun j=>difG w (c.diff.getD j default)) hi_k10 hc179 (by rw [getD_at hlt177]; exact dif_iff hj1 hj1l hj2 hj2l hq203 hq208) hlt177
      have hq208:¬ ((w[j2].kind_:Int)=(2:Int)):=by simpa using hg208
      refine ⟨by omega,?_⟩
      refine ⟨(⟨k10.k+1,false⟩:KB),(by show c.diff.length - (k10.k+1) < c.diff.length - k10.k; omega),(cO (.cons rfl rfl (.cons rfl rfl (.cons rfl rfl (.cons rfl rfl .nil)))) (.cons rfl rfl rfl .nil)),?_⟩
      refine ⟨by show k10.k+1≤_; omega,?_⟩
      exact kb_next (H:=fun j=>difG w (c.diff.getD j default)) hi_k10 hc179 (by rw [getD_at hlt177]; exact ff (dif_k2 hj1 hj1l hj2 hj2l hq208)) hlt177
     have hq203:¬ ((w[j1].kind_:Int)=(2:Int)):=by simpa using hg203
     refine cF ⟨by omega,⟨(⟨k10.k+1,false⟩:KB),(by show c.diff.length - (k10.k+1) < c.diff.length - k10.k; omega),(cO (.cons rfl rfl (.cons rfl rfl (.cons rfl rfl (.cons rfl rfl .nil)))) (.cons rfl rfl rfl .nil)),?_⟩⟩
     refine ⟨by show k10.k+1≤_; omega,?_⟩
     exact kb_next (H:=fun j=>difG w (c.diff.getD j default)) hi_k10 hc179 (by rw [getD_at hlt177]; exact ff (dif_k1 hj1 hj1l hj2 hj2l hq203)) hlt177
    have hQ10:k10.b=true↔k8.b=true∧∀ x∈c.diff,difG w x:=kb_end (H:=fun x=>difG w x) hi_k10 (.inr hc179)
    exact rV Tryz.results26 rfl ⟨_,rfl,fun h=>by obtain ⟨h,d1⟩:=hQ10.1 h; obtain ⟨h,d2⟩:=hQ8.1 h; obtain ⟨h,d3⟩:=hQ6.1 h; obtain ⟨h,d4⟩:=hQ4.1 h; exact ⟨hnu,hnn,h,by rw [← hA0 (hb0.2 h)]; exact d4,d3,d2,d1⟩,fun h=>hQ10.2 ⟨hQ8.2 ⟨hQ6.2 ⟨hQ4.2 ⟨h.ax,by rw [hA0 (hb0.2 h.ax)]; exact h.ints⟩,h.tests⟩,h.same⟩,h.diff⟩⟩
   have hge177:¬ k10.k < c.diff.length:=fun h=>of_decide_eq_false hg177 (Int.ofNat_lt.2 h)
   have hQ10:k10.b=true↔k8.b=true∧∀ x∈c.diff,difG w x:=kb_end (H:=fun x=>difG w x) hi_k10 (.inl hge177)
   exact cF (rV Tryz.results26 rfl ⟨_,rfl,fun h=>by obtain ⟨h,d1⟩:=hQ10.1 h; obtain ⟨h,d2⟩:=hQ8.1 h; obtain ⟨h,d3⟩:=hQ6.1 h; obtain ⟨h,d4⟩:=hQ4.1 h; exact ⟨hnu,hnn,h,by rw [← hA0 (hb0.2 h)]; exact d4,d3,d2,d1⟩,fun h=>hQ10.2 ⟨hQ8.2 ⟨hQ6.2 ⟨hQ4.2 ⟨h.ax,by rw [hA0 (hb0.2 h.ax)]; exact h.ints⟩,h.tests⟩,h.same⟩,h.diff⟩⟩)
  have hge135:¬ k8.k < c.same.length:=fun h=>of_decide_eq_false hg135 (Int.ofNat_lt.2 h)
  have hQ8:k8.b=true↔k6.b=true∧∀ x∈c.same,samG w x:=kb_end (H:=fun x=>samG w x) hi_k8 (.inl hge135)
  refine cF (LpG.on (fun k10:KB=>(⟨fL [(1,.tree 3 (w.map gvA)),(2,.ptr 0 0 0),(8,.v (.bool k10.b)),(15,.v (.int .i64 ((k10.k:Nat):Int)))],hLz [(0,⟨0,clA c,0,false⟩)],1⟩:St)) (fun k10=>(c.diff.length - k10.k)) (fun k10=>(k10.k≤c.diff.length∧(k10.b=true↔k8.b=true∧∀ j,j < c.diff.length→j < k10.k→difG w (c.diff.getD j default)))) (⟨0,k8.b⟩:KB) (cO (.cons rfl rfl (.cons rfl rfl (.cons rfl rfl (.cons rfl rfl .nil)))) (.cons rfl rfl rfl .nil)) ⟨Nat.zero_le _,kb_0 Iff.rfl⟩ ?_)
  rintro k10 hinv
  obtain ⟨hle_k10,hi_k10⟩:=hinv
  refine LenG.of (cB (fun hg177=>?_) (fun hg177=>?_))
  ·have hlt177:k10.k < c.diff.length:=Int.ofNat_lt.1 (of_decide_eq_true hg177)
   refine cB (fun hc179=>?_) (fun hc179=>?_)
   ·have hpr1:=(hc.df _ (List.getElem_mem hlt177)).1
    have hpr2:=(hc.df _ (List.getElem_mem hlt177)).2
    obtain ⟨j1,hj1,hj1l⟩:∃ j:Nat,c.diff[k10.k].1=((j:Nat):Int)∧j < w.length:=⟨(c.diff[k10.k].1).toNat,by have:=hpr1; omega,by have:=hpr1; omega⟩
    obtain ⟨j2,hj2,hj2l⟩:∃ j:Nat,c.diff[k10.k].2=((j:Nat):Int)∧j < w.length:=⟨(c.diff[k10.k].2).toNat,by have:=hpr2; omega,by have:=hpr2; omega⟩
    refine IdxG.of (by assumption) (OpG.lk (LOp.indexArrT Tryz.underlying62 sz3 rfl rfl rfl) ?_)
    refine OpG.lk (LOp.indexI Tryz.underlying43 sz74 rfl rfl hj1 hj1l) ?_
    refine IdxG.of (by assumption) (OpG.lk (LOp.indexArrT Tryz.underlying62 sz3 rfl rfl rfl) ?_)
    refine OpG.lk (LOp.indexI Tryz.underlying43 sz74 rfl rfl hj2 hj2l) ?_
    refine ⟨by kernel_rfl,?_⟩
    refine cB (fun hg203=>?_) (fun hg203=>?_)
    ·have hq203:(w[j1].kind_:Int)=(2:Int):=by simpa using hg203
     refine cB (fun hg208=>?_) (fun hg208=>?_)
     ·have hq208:(w[j2].kind_:Int)=(2:Int):=by simpa using hg208
      refine ⟨by omega,?_⟩
      refine ⟨(⟨k10.k+1,(!(w[j1].text_.toList==w[j2].text_.toList))⟩:KB),(by show c.diff.length - (k10.k+1) < c.diff.length - k10.k; omega),(cO (.cons rfl rfl (.cons rfl rfl (.cons rfl rfl (.cons rfl rfl .nil)))) (.cons rfl rfl rfl .nil)),?_⟩
      refine ⟨by show k10.k+1≤_; omega,?_⟩
      exact kb_next (H:=fun j=>difG w (c.diff.getD j default)) hi_k10 hc179 (by rw [getD_at hlt177]; exact dif_iff hj1 hj1l hj2 hj2l hq203 hq208) hlt177
     have hq208:¬ ((w[j2].kind_:Int)=(2:Int)):=by simpa using hg208
     refine ⟨by omega,?_⟩
     refine ⟨(⟨k10.k+1,false⟩:KB),(by show c.diff.length - (k10.k+1) < c.diff.length - k10.k; omega),(cO (.cons rfl rfl (.cons rfl rfl (.cons rfl rfl (.cons rfl rfl .nil)))) (.cons rfl rfl rfl .nil)),?_⟩
     refine ⟨by show k10.k+1≤_; omega,?_⟩
     exact kb_next (H:=fun j=>difG w (c.diff.getD j default)) hi_k10 hc179 (by rw [getD_at hlt177]; exact ff (dif_k2 hj1 hj1l hj2 hj2l hq208)) hlt177
    have hq203:¬ ((w[j1].kind_:Int)=(2:Int)):=by simpa using hg203
    refine cF ⟨by omega,⟨(⟨k10.k+1,false⟩:KB),(by show c.diff.length - (k10.k+1) < c.diff.length - k10.k; omega),(cO (.cons rfl rfl (.cons rfl rfl (.cons rfl rfl (.cons rfl rfl .nil)))) (.cons rfl rfl rfl .nil)),?_⟩⟩
    refine ⟨by show k10.k+1≤_; omega,?_⟩
    exact kb_next (H:=fun j=>difG w (c.diff.getD j default)) hi_k10 hc179 (by rw [getD_at hlt177]; exact ff (dif_k1 hj1 hj1l hj2 hj2l hq203)) hlt177
   have hQ10:k10.b=true↔k8.b=true∧∀ x∈c.diff,difG w x:=kb_end (H:=fun x=>difG w x) hi_k10 (.inr hc179)
   exact rV Tryz.results26 rfl ⟨_,rfl,fun h=>by obtain ⟨h,d1⟩:=hQ10.1 h; obtain ⟨h,d2⟩:=hQ8.1 h; obtain ⟨h,d3⟩:=hQ6.1 h; obtain ⟨h,d4⟩:=hQ4.1 h; exact ⟨hnu,hnn,h,by rw [← hA0 (hb0.2 h)]; exact d4,d3,d2,d1⟩,fun h=>hQ10.2 ⟨hQ8.2 ⟨hQ6.2 ⟨hQ4.2 ⟨h.ax,by rw [hA0 (hb0.2 h.ax)]; exact h.ints⟩,h.tests⟩,h.same⟩,h.diff⟩⟩
  have hge177:¬ k10.k < c.diff.length:=fun h=>of_decide_eq_false hg177 (Int.ofNat_lt.2 h)
  have hQ10:k10.b=true↔k8.b=true∧∀ x∈c.diff,difG w x:=kb_end (H:=fun x=>difG w x) hi_k10 (.inl hge177)
  exact cF (rV Tryz.results26 rfl ⟨_,rfl,fun h=>by obtain ⟨h,d1⟩:=hQ10.1 h; obtain ⟨h,d2⟩:=hQ8.1 h; obtain ⟨h,d3⟩:=hQ6.1 h; obtain ⟨h,d4⟩:=hQ4.1 h; exact ⟨hnu,hnn,h,by rw [← hA0 (hb0.2 h)]; exact d4,d3,d2,d1⟩,fun h=>hQ10.2 ⟨hQ8.2 ⟨hQ6.2 ⟨hQ4.2 ⟨h.ax,by rw [hA0 (hb0.2 h.ax)]; exact h.ints⟩,h.tests⟩,h.same⟩,h.diff⟩⟩)
 have hge63:¬ k4.k < c.ints.length:=fun h=>of_decide_eq_false hg63 (Int.ofNat_lt.2 h)
 have hQ4:k4.b=true↔c.aux.all (axO w)=true∧∀ x∈c.ints,conG w A0 x:=kb_end (H:=fun x=>conG w A0 x) hi_k4 (.inl hge63)
 refine cF (LpG.on (fun k6:KB=>(⟨fL [(1,.tree 3 (w.map gvA)),(2,.ptr 0 0 0),(8,.v (.bool k6.b)),(12,.v (.int .i64 ((k6.k:Nat):Int)))],hLz [(0,⟨0,clA c,0,false⟩)],1⟩:St)) (fun k6=>(c.tests.length - k6.k)) (fun k6=>(k6.k≤c.tests.length∧(k6.b=true↔k4.b=true∧∀ j,j < c.tests.length→j < k6.k→tesG w (c.tests.getD j default)))) (⟨0,k4.b⟩:KB) (cO (.cons rfl rfl (.cons rfl rfl (.cons rfl rfl (.cons rfl rfl .nil)))) (.cons rfl rfl rfl .nil)) ⟨Nat.zero_le _,kb_0 Iff.rfl⟩ ?_)
 rintro k6 hinv
 obtain ⟨hle_k6,hi_k6⟩:=hinv
 refine LenG.of (cB (fun hg103=>?_) (fun hg103=>?_))
 ·have hlt103:k6.k < c.tests.length:=Int.ofNat_lt.1 (of_decide_eq_true hg103)
  refine cB (fun hc105=>?_) (fun hc105=>?_)
  ·obtain ⟨htv,htk,hts⟩:=hc.ts _ (List.getElem_mem hlt103)
   obtain ⟨j1,hj1,hj1l⟩:∃ j:Nat,c.tests[k6.k].v=((j:Nat):Int)∧j < w.length:=⟨(c.tests[k6.k].v).toNat,by have:=htv; omega,by have:=htv; omega⟩
   refine IdxG.of (by assumption) (OpG.lk (LOp.indexI Tryz.underlying43 sz74 rfl rfl hj1 hj1l) ?_)
   refine cB (fun hg120=>?_) (fun hg120=>?_)
   ·have hq120:(w[j1].kind_:Int)=(2:Int):=by simpa using hg120
    refine IdxG.of (by assumption) (ArgG.mk (passesR_p c.tests[k6.k] w[j1].text_ (hw.2 _ (List.getElem_mem hj1l)).text_ hts) rfl ?_)
    rintro _ rfl
    refine ⟨by kernel_rfl,?_⟩
    refine ⟨by omega,?_⟩
    refine ⟨(⟨k6.k+1,(pasS c.tests[k6.k] w[j1].text_)⟩:KB),(by show c.tests.length - (k6.k+1) < c.tests.length - k6.k; omega),(cO (.cons rfl rfl (.cons rfl rfl (.cons rfl rfl (.cons rfl rfl .nil)))) (.cons rfl rfl rfl .nil)),?_⟩
    refine ⟨by show k6.k+1≤_; omega,?_⟩
    exact kb_next (H:=fun j=>tesG w (c.tests.getD j default)) hi_k6 hc105 (by rw [getD_at hlt103]; exact tes_iff hj1 hj1l hq120) hlt103
   have hq120:¬ ((w[j1].kind_:Int)=(2:Int)):=by simpa using hg120
   refine ⟨by kernel_rfl,?_⟩
   refine ⟨by omega,?_⟩
   refine ⟨(⟨k6.k+1,false⟩:KB),(by show c.tests.length - (k6.k+1) < c.tests.length - k6.k; omega),(cO (.cons rfl rfl (.cons rfl rfl (.cons rfl rfl (.cons rfl rfl .nil)))) (.cons rfl rfl rfl .nil)),?_⟩
   refine ⟨by show k6.k+1≤_; omega,?_⟩
   exact kb_next (H:=fun j=>tesG w (c.tests.getD j default)) hi_k6 hc105 (by rw [getD_at hlt103]; exact ff (tes_k hj1 hj1l hq120)) hlt103
  have hQ6:k6.b=true↔k4.b=true∧∀ x∈c.tests,tesG w x:=kb_end (H:=fun x=>tesG w x) hi_k6 (.inr hc105)
  refine LpG.on (fun k8:KB=>(⟨fL [(1,.tree 3 (w.map gvA)),(2,.ptr 0 0 0),(8,.v (.bool k8.b)),(14,.v (.int .i64 ((k8.k:Nat):Int)))],hLz [(0,⟨0,clA c,0,false⟩)],1⟩:St)) (fun k8=>(c.same.length - k8.k)) (fun k8=>(k8.k≤c.same.length∧(k8.b=true↔k6.b=true∧∀ j,j < c.same.length→j < k8.k→samG w (c.same.getD j default)))) (⟨0,k6.b⟩:KB) (cO (.cons rfl rfl (.cons rfl rfl (.cons rfl rfl (.cons rfl rfl .nil)))) (.cons rfl rfl rfl .nil)) ⟨Nat.zero_le _,kb_0 Iff.rfl⟩ ?_
  rintro k8 hinv
  obtain ⟨hle_k8,hi_k8⟩:=hinv
  refine LenG.of (cB (fun hg135=>?_) (fun hg135=>?_))
  ·have hlt135:k8.k < c.same.length:=Int.ofNat_lt.1 (of_decide_eq_true hg135)
   refine cB (fun hc137=>?_) (fun hc137=>?_)
   ·have hpr1:=(hc.sm _ (List.getElem_mem hlt135)).1
    have hpr2:=(hc.sm _ (List.getElem_mem hlt135)).2
    obtain ⟨j1,hj1,hj1l⟩:∃ j:Nat,c.same[k8.k].1=((j:Nat):Int)∧j < w.length:=⟨(c.same[k8.k].1).toNat,by have:=hpr1; omega,by have:=hpr1; omega⟩
    obtain ⟨j2,hj2,hj2l⟩:∃ j:Nat,c.same[k8.k].2=((j:Nat):Int)∧j < w.length:=⟨(c.same[k8.k].2).toNat,by have:=hpr2; omega,by have:=hpr2; omega⟩
    refine IdxG.of (by assumption) (OpG.lk (LOp.indexArrT Tryz.underlying62 sz3 rfl rfl rfl) ?_)
    refine OpG.lk (LOp.indexI Tryz.underlying43 sz74 rfl rfl hj1 hj1l) ?_
    refine cB (fun hg151=>?_) (fun hg151=>?_)
    ·have hq151:(w[j1].kind_:Int)=(2:Int):=by simpa using hg151
     refine IdxG.of (by assumption) (OpG.lk (LOp.indexArrT Tryz.underlying62 sz3 rfl rfl rfl) ?_)
     refine OpG.lk (LOp.indexI Tryz.underlying43 sz74 rfl rfl hj1 hj1l) ?_
     refine IdxG.of (by assumption) (OpG.lk (LOp.indexArrT Tryz.underlying62 sz3 rfl rfl rfl) ?_)
     refine OpG.lk (LOp.indexI Tryz.underlying43 sz74 rfl rfl hj2 hj2l) ?_
     refine OpG.lk (LOp.eqVal rfl rfl) ?_
     refine ⟨by kernel_rfl,?_⟩
     refine ⟨by omega,?_⟩
     refine ⟨(⟨k8.k+1,(w[j1].kind_==w[j2].kind_&&(w[j1].int_==w[j2].int_&&w[j1].text_.toList==w[j2].text_.toList))⟩:KB),(by show c.same.length - (k8.k+1) < c.same.length - k8.k; omega),(cO (.cons rfl rfl (.cons rfl rfl (.cons rfl rfl (.cons rfl rfl .nil)))) (.cons rfl rfl rfl .nil)),?_⟩
     refine ⟨by show k8.k+1≤_; omega,?_⟩
     exact kb_next (H:=fun j=>samG w (c.same.getD j default)) hi_k8 hc137 (by rw [getD_at hlt135]; exact sam_iff hj1 hj1l hj2 hj2l hz hq151) hlt135
    have hq151:¬ ((w[j1].kind_:Int)=(2:Int)):=by simpa using hg151
    refine ⟨by kernel_rfl,?_⟩
    refine ⟨by omega,?_⟩
    refine ⟨(⟨k8.k+1,false⟩:KB),(by show c.same.length - (k8.k+1) < c.same.length - k8.k; omega),(cO (.cons rfl rfl (.cons rfl rfl (.cons rfl rfl (.cons rfl rfl .nil)))) (.cons rfl rfl rfl .nil)),?_⟩
    refine ⟨by show k8.k+1≤_; omega,?_⟩
    exact kb_next (H:=fun j=>samG w (c.same.getD j default)) hi_k8 hc137 (by rw [getD_at hlt135]; exact ff (sam_k1 hj1 hj1l hj2 hj2l hq151)) hlt135
   have hQ8:k8.b=true↔k6.b=true∧∀ x∈c.same,samG w x:=kb_end (H:=fun x=>samG w x) hi_k8 (.inr hc137)
   refine LpG.on (fun k10:KB=>(⟨fL [(1,.tree 3 (w.map gvA)),(2,.ptr 0 0 0),(8,.v (.bool k10.b)),(15,.v (.int .i64 ((k10.k:Nat):Int)))],hLz [(0,⟨0,clA c,0,false⟩)],1⟩:St)) (fun k10=>(c.diff.length - k10.k)) (fun k10=>(k10.k≤c.diff.length∧(k10.b=true↔k8.b=true∧∀ j,j < c.diff.length→j < k10.k→difG w (c.diff.getD j default)))) (⟨0,k8.b⟩:KB) (cO (.cons rfl rfl (.cons rfl rfl (.cons rfl rfl (.cons rfl rfl .nil)))) (.cons rfl rfl rfl .nil)) ⟨Nat.zero_le _,kb_0 Iff.rfl⟩ ?_
   rintro k10 hinv
   obtain ⟨hle_k10,hi_k10⟩:=hinv
   refine LenG.of (cB (fun hg177=>?_) (fun hg177=>?_))
   ·have hlt177:k10.k < c.diff.length:=Int.ofNat_lt.1 (of_decide_eq_true hg177)
    refine cB (fun hc179=>?_) (fun hc179=>?_)
    ·have hpr1:=(hc.df _ (List.getElem_mem hlt177)).1
     have hpr2:=(hc.df _ (List.getElem_mem hlt177)).2
     obtain ⟨j1,hj1,hj1l⟩:∃ j:Nat,c.diff[k10.k].1=((j:Nat):Int)∧j < w.length:=⟨(c.diff[k10.k].1).toNat,by have:=hpr1; omega,by have:=hpr1; omega⟩
     obtain ⟨j2,hj2,hj2l⟩:∃ j:Nat,c.diff[k10.k].2=((j:Nat):Int)∧j < w.length:=⟨(c.diff[k10.k].2).toNat,by have:=hpr2; omega,by have:=hpr2; omega⟩
     refine IdxG.of (by assumption) (OpG.lk (LOp.indexArrT Tryz.underlying62 sz3 rfl rfl rfl) ?_)
     refine OpG.lk (LOp.indexI Tryz.underlying43 sz74 rfl rfl hj1 hj1l) ?_
     refine IdxG.of (by assumption) (OpG.lk (LOp.indexArrT Tryz.underlying62 sz3 rfl rfl rfl) ?_)
     refine OpG.lk (LOp.indexI Tryz.underlying43 sz74 rfl rfl hj2 hj2l) ?_
     refine ⟨by kernel_rfl,?_⟩
     refine cB (fun hg203=>?_) (fun hg203=>?_)
     ·have hq203:(w[j1].kind_:Int)=(2:Int):=by simpa using hg203
      refine cB (fun hg208=>?_) (fun hg208=>?_)
      ·have hq208:(w[j2].kind_:Int)=(2:Int):=by simpa using hg208
       refine ⟨by omega,?_⟩
       refine ⟨(⟨k10.k+1,(!(w[j1].text_.toList==w[j2].text_.toList))⟩:KB),(by show c.diff.length - (k10.k+1) < c.diff.length - k10.k; omega),(cO (.cons rfl rfl (.cons rfl rfl (.cons rfl rfl (.cons rfl rfl .nil)))) (.cons rfl rfl rfl .nil)),?_⟩
       refine ⟨by show k10.k+1≤_; omega,?_⟩
       exact kb_next (H:=fun j=>difG w (c.diff.getD j default)) hi_k10 hc179 (by rw [getD_at hlt177]; exact dif_iff hj1 hj1l hj2 hj2l hq203 hq208) hlt177
      have hq208:¬ ((w[j2].kind_:Int)=(2:Int)):=by simpa using hg208
      refine ⟨by omega,?_⟩
      refine ⟨(⟨k10.k+1,false⟩:KB),(by show c.diff.length - (k10.k+1) < c.diff.length - k10.k; omega),(cO (.cons rfl rfl (.cons rfl rfl (.cons rfl rfl (.cons rfl rfl .nil)))) (.cons rfl rfl rfl .nil)),?_⟩
      refine ⟨by show k10.k+1≤_; omega,?_⟩
      exact kb_next (H:=fun j=>difG w (c.diff.getD j default)) hi_k10 hc179 (by rw [getD_at hlt177]; exact ff (dif_k2 hj1 hj1l hj2 hj2l hq208)) hlt177
     have hq203:¬ ((w[j1].kind_:Int)=(2:Int)):=by simpa using hg203
     refine cF ⟨by omega,⟨(⟨k10.k+1,false⟩:KB),(by show c.diff.length - (k10.k+1) < c.diff.length - k10.k; omega),(cO (.cons rfl rfl (.cons rfl rfl (.cons rfl rfl (.cons rfl rfl .nil)))) (.cons rfl rfl rfl .nil)),?_⟩⟩
     refine ⟨by show k10.k+1≤_; omega,?_⟩
     exact kb_next (H:=fun j=>difG w (c.diff.getD j default)) hi_k10 hc179 (by rw [getD_at hlt177]; exact ff (dif_k1 hj1 hj1l hj2 hj2l hq203)) hlt177
    have hQ10:k10.b=true↔k8.b=true∧∀ x∈c.diff,difG w x:=kb_end (H:=fun x=>difG w x) hi_k10 (.inr hc179)
    exact rV Tryz.results26 rfl ⟨_,rfl,fun h=>by obtain ⟨h,d1⟩:=hQ10.1 h; obtain ⟨h,d2⟩:=hQ8.1 h; obtain ⟨h,d3⟩:=hQ6.1 h; obtain ⟨h,d4⟩:=hQ4.1 h; exact ⟨hnu,hnn,h,by rw [← hA0 (hb0.2 h)]; exact d4,d3,d2,d1⟩,fun h=>hQ10.2 ⟨hQ8.2 ⟨hQ6.2 ⟨hQ4.2 ⟨h.ax,by rw [hA0 (hb0.2 h.ax)]; exact h.ints⟩,h.tests⟩,h.same⟩,h.diff⟩⟩
   have hge177:¬ k10.k < c.diff.length:=fun h=>of_decide_eq_false hg177 (Int.ofNat_lt.2 h)
   have hQ10:k10.b=true↔k8.b=true∧∀ x∈c.diff,difG w x:=kb_end (H:=fun x=>difG w x) hi_k10 (.inl hge177)
   exact cF (rV Tryz.results26 rfl ⟨_,rfl,fun h=>by obtain ⟨h,d1⟩:=hQ10.1 h; obtain ⟨h,d2⟩:=hQ8.1 h; obtain ⟨h,d3⟩:=hQ6.1 h; obtain ⟨h,d4⟩:=hQ4.1 h; exact ⟨hnu,hnn,h,by rw [← hA0 (hb0.2 h)]; exact d4,d3,d2,d1⟩,fun h=>hQ10.2 ⟨hQ8.2 ⟨hQ6.2 ⟨hQ4.2 ⟨h.ax,by rw [hA0 (hb0.2 h.ax)]; exact h.ints⟩,h.tests⟩,h.same⟩,h.diff⟩⟩)
  have hge135:¬ k8.k < c.same.length:=fun h=>of_decide_eq_false hg135 (Int.ofNat_lt.2 h)
  have hQ8:k8.b=true↔k6.b=true∧∀ x∈c.same,samG w x:=kb_end (H:=fun x=>samG w x) hi_k8 (.inl hge135)
  refine cF (LpG.on (fun k10:KB=>(⟨fL [(1,.tree 3 (w.map gvA)),(2,.ptr 0 0 0),(8,.v (.bool k10.b)),(15,.v (.int .i64 ((k10.k:Nat):Int)))],hLz [(0,⟨0,clA c,0,false⟩)],1⟩:St)) (fun k10=>(c.diff.length - k10.k)) (fun k10=>(k10.k≤c.diff.length∧(k10.b=true↔k8.b=true∧∀ j,j < c.diff.length→j < k10.k→difG w (c.diff.getD j default)))) (⟨0,k8.b⟩:KB) (cO (.cons rfl rfl (.cons rfl rfl (.cons rfl rfl (.cons rfl rfl .nil)))) (.cons rfl rfl rfl .nil)) ⟨Nat.zero_le _,kb_0 Iff.rfl⟩ ?_)
  rintro k10 hinv
  obtain ⟨hle_k10,hi_k10⟩:=hinv
  refine LenG.of (cB (fun hg177=>?_) (fun hg177=>?_))
  ·have hlt177:k10.k < c.diff.length:=Int.ofNat_lt.1 (of_decide_eq_true hg177)
   refine cB (fun hc179=>?_) (fun hc179=>?_)
   ·have hpr1:=(hc.df _ (List.getElem_mem hlt177)).1
    have hpr2:=(hc.df _ (List.getElem_mem hlt177)).2
    obtain ⟨j1,hj1,hj1l⟩:∃ j:Nat,c.diff[k10.k].1=((j:Nat):Int)∧j < w.length:=⟨(c.diff[k10.k].1).toNat,by have:=hpr1; omega,by have:=hpr1; omega⟩
    obtain ⟨j2,hj2,hj2l⟩:∃ j:Nat,c.diff[k10.k].2=((j:Nat):Int)∧j < w.length:=⟨(c.diff[k10.k].2).toNat,by have:=hpr2; omega,by have:=hpr2; omega⟩
    refine IdxG.of (by assumption) (OpG.lk (LOp.indexArrT Tryz.underlying62 sz3 rfl rfl rfl) ?_)
    refine OpG.lk (LOp.indexI Tryz.underlying43 sz74 rfl rfl hj1 hj1l) ?_
    refine IdxG.of (by assumption) (OpG.lk (LOp.indexArrT Tryz.underlying62 sz3 rfl rfl rfl) ?_)
    refine OpG.lk (LOp.indexI Tryz.underlying43 sz74 rfl rfl hj2 hj2l) ?_
    refine ⟨by kernel_rfl,?_⟩
    refine cB (fun hg203=>?_) (fun hg203=>?_)
    ·have hq203:(w[j1].kind_:Int)=(2:Int):=by simpa using hg203
     refine cB (fun hg208=>?_) (fun hg208=>?_)
     ·have hq208:(w[j2].kind_:Int)=(2:Int):=by simpa using hg208
      refine ⟨by omega,?_⟩
      refine ⟨(⟨k10.k+1,(!(w[j1].text_.toList==w[j2].text_.toList))⟩:KB),(by show c.diff.length - (k10.k+1) < c.diff.length - k10.k; omega),(cO (.cons rfl rfl (.cons rfl rfl (.cons rfl rfl (.cons rfl rfl .nil)))) (.cons rfl rfl rfl .nil)),?_⟩
      refine ⟨by show k10.k+1≤_; omega,?_⟩
      exact kb_next (H:=fun j=>difG w (c.diff.getD j default)) hi_k10 hc179 (by rw [getD_at hlt177]; exact dif_iff hj1 hj1l hj2 hj2l hq203 hq208) hlt177
     have hq208:¬ ((w[j2].kind_:Int)=(2:Int)):=by simpa using hg208
     refine ⟨by omega,?_⟩
     refine ⟨(⟨k10.k+1,false⟩:KB),(by show c.diff.length - (k10.k+1) < c.diff.length - k10.k; omega),(cO (.cons rfl rfl (.cons rfl rfl (.cons rfl rfl (.cons rfl rfl .nil)))) (.cons rfl rfl rfl .nil)),?_⟩
     refine ⟨by show k10.k+1≤_; omega,?_⟩
     exact kb_next (H:=fun j=>difG w (c.diff.getD j default)) hi_k10 hc179 (by rw [getD_at hlt177]; exact ff (dif_k2 hj1 hj1l hj2 hj2l hq208)) hlt177
    have hq203:¬ ((w[j1].kind_:Int)=(2:Int)):=by simpa using hg203
    refine cF ⟨by omega,⟨(⟨k10.k+1,false⟩:KB),(by show c.diff.length - (k10.k+1) < c.diff.length - k10.k; omega),(cO (.cons rfl rfl (.cons rfl rfl (.cons rfl rfl (.cons rfl rfl .nil)))) (.cons rfl rfl rfl .nil)),?_⟩⟩
    refine ⟨by show k10.k+1≤_; omega,?_⟩
    exact kb_next (H:=fun j=>difG w (c.diff.getD j default)) hi_k10 hc179 (by rw [getD_at hlt177]; exact ff (dif_k1 hj1 hj1l hj2 hj2l hq203)) hlt177
   have hQ10:k10.b=true↔k8.b=true∧∀ x∈c.diff,difG w x:=kb_end (H:=fun x=>difG w x) hi_k10 (.inr hc179)
   exact rV Tryz.results26 rfl ⟨_,rfl,fun h=>by obtain ⟨h,d1⟩:=hQ10.1 h; obtain ⟨h,d2⟩:=hQ8.1 h; obtain ⟨h,d3⟩:=hQ6.1 h; obtain ⟨h,d4⟩:=hQ4.1 h; exact ⟨hnu,hnn,h,by rw [← hA0 (hb0.2 h)]; exact d4,d3,d2,d1⟩,fun h=>hQ10.2 ⟨hQ8.2 ⟨hQ6.2 ⟨hQ4.2 ⟨h.ax,by rw [hA0 (hb0.2 h.ax)]; exact h.ints⟩,h.tests⟩,h.same⟩,h.diff⟩⟩
  have hge177:¬ k10.k < c.diff.length:=fun h=>of_decide_eq_false hg177 (Int.ofNat_lt.2 h)
  have hQ10:k10.b=true↔k8.b=true∧∀ x∈c.diff,difG w x:=kb_end (H:=fun x=>difG w x) hi_k10 (.inl hge177)
  exact cF (rV Tryz.results26 rfl ⟨_,rfl,fun h=>by obtain ⟨h,d1⟩:=hQ10.1 h; obtain ⟨h,d2⟩:=hQ8.1 h; obtain ⟨h,d3⟩:=hQ6.1 h; obtain ⟨h,d4⟩:=hQ4.1 h; exact ⟨hnu,hnn,h,by rw [← hA0 (hb0.2 h)]; exact d4,d3,d2,d1⟩,fun h=>hQ10.2 ⟨hQ8.2 ⟨hQ6.2 ⟨hQ4.2 ⟨h.ax,by rw [hA0 (hb0.2 h.ax)]; exact h.ints⟩,h.tests⟩,h.same⟩,h.diff⟩⟩)
 have hge103:¬ k6.k < c.tests.length:=fun h=>of_decide_eq_false hg103 (Int.ofNat_lt.2 h)
 have hQ6:k6.b=true↔k4.b=true∧∀ x∈c.tests,tesG w x:=kb_end (H:=fun x=>tesG w x) hi_k6 (.inl hge103)
 refine cF (LpG.on (fun k8:KB=>(⟨fL [(1,.tree 3 (w.map gvA)),(2,.ptr 0 0 0),(8,.v (.bool k8.b)),(14,.v (.int .i64 ((k8.k:Nat):Int)))],hLz [(0,⟨0,clA c,0,false⟩)],1⟩:St)) (fun k8=>(c.same.length - k8.k)) (fun k8=>(k8.k≤c.same.length∧(k8.b=true↔k6.b=true∧∀ j,j < c.same.length→j < k8.k→samG w (c.same.getD j default)))) (⟨0,k6.b⟩:KB) (cO (.cons rfl rfl (.cons rfl rfl (.cons rfl rfl (.cons rfl rfl .nil)))) (.cons rfl rfl rfl .nil)) ⟨Nat.zero_le _,kb_0 Iff.rfl⟩ ?_)
 rintro k8 hinv
 obtain ⟨hle_k8,hi_k8⟩:=hinv
 refine LenG.of (cB (fun hg135=>?_) (fun hg135=>?_))
 ·have hlt135:k8.k < c.same.length:=Int.ofNat_lt.1 (of_decide_eq_true hg135)
  refine cB (fun hc137=>?_) (fun hc137=>?_)
  ·have hpr1:=(hc.sm _ (List.getElem_mem hlt135)).1
   have hpr2:=(hc.sm _ (List.getElem_mem hlt135)).2
   obtain ⟨j1,hj1,hj1l⟩:∃ j:Nat,c.same[k8.k].1=((j:Nat):Int)∧j < w.length:=⟨(c.same[k8.k].1).toNat,by have:=hpr1; omega,by have:=hpr1; omega⟩
   obtain ⟨j2,hj2,hj2l⟩:∃ j:Nat,c.same[k8.k].2=((j:Nat):Int)∧j < w.length:=⟨(c.same[k8.k].2).toNat,by have:=hpr2; omega,by have:=hpr2; omega⟩
   refine IdxG.of (by assumption) (OpG.lk (LOp.indexArrT Tryz.underlying62 sz3 rfl rfl rfl) ?_)
   refine OpG.lk (LOp.indexI Tryz.underlying43 sz74 rfl rfl hj1 hj1l) ?_
   refine cB (fun hg151=>?_) (fun hg151=>?_)
   ·have hq151:(w[j1].kind_:Int)=(2:Int):=by simpa using hg151
    refine IdxG.of (by assumption) (OpG.lk (LOp.indexArrT Tryz.underlying62 sz3 rfl rfl rfl) ?_)
    refine OpG.lk (LOp.indexI Tryz.underlying43 sz74 rfl rfl hj1 hj1l) ?_
    refine IdxG.of (by assumption) (OpG.lk (LOp.indexArrT Tryz.underlying62 sz3 rfl rfl rfl) ?_)
    refine OpG.lk (LOp.indexI Tryz.underlying43 sz74 rfl rfl hj2 hj2l) ?_
    refine OpG.lk (LOp.eqVal rfl rfl) ?_
    refine ⟨by kernel_rfl,?_⟩
    refine ⟨by omega,?_⟩
    refine ⟨(⟨k8.k+1,(w[j1].kind_==w[j2].kind_&&(w[j1].int_==w[j2].int_&&w[j1].text_.toList==w[j2].text_.toList))⟩:KB),(by show c.same.length - (k8.k+1) < c.same.length - k8.k; omega),(cO (.cons rfl rfl (.cons rfl rfl (.cons rfl rfl (.cons rfl rfl .nil)))) (.cons rfl rfl rfl .nil)),?_⟩
    refine ⟨by show k8.k+1≤_; omega,?_⟩
    exact kb_next (H:=fun j=>samG w (c.same.getD j default)) hi_k8 hc137 (by rw [getD_at hlt135]; exact sam_iff hj1 hj1l hj2 hj2l hz hq151) hlt135
   have hq151:¬ ((w[j1].kind_:Int)=(2:Int)):=by simpa using hg151
   refine ⟨by kernel_rfl,?_⟩
   refine ⟨by omega,?_⟩
   refine ⟨(⟨k8.k+1,false⟩:KB),(by show c.same.length - (k8.k+1) < c.same.length - k8.k; omega),(cO (.cons rfl rfl (.cons rfl rfl (.cons rfl rfl (.cons rfl rfl .nil)))) (.cons rfl rfl rfl .nil)),?_⟩
   refine ⟨by show k8.k+1≤_; omega,?_⟩
   exact kb_next (H:=fun j=>samG w (c.same.getD j default)) hi_k8 hc137 (by rw [getD_at hlt135]; exact ff (sam_k1 hj1 hj1l hj2 hj2l hq151)) hlt135
  have hQ8:k8.b=true↔k6.b=true∧∀ x∈c.same,samG w x:=kb_end (H:=fun x=>samG w x) hi_k8 (.inr hc137)
  refine LpG.on (fun k10:KB=>(⟨fL [(1,.tree 3 (w.map gvA)),(2,.ptr 0 0 0),(8,.v (.bool k10.b)),(15,.v (.int .i64 ((k10.k:Nat):Int)))],hLz [(0,⟨0,clA c,0,false⟩)],1⟩:St)) (fun k10=>(c.diff.length - k10.k)) (fun k10=>(k10.k≤c.diff.length∧(k10.b=true↔k8.b=true∧∀ j,j < c.diff.length→j < k10.k→difG w (c.diff.getD j default)))) (⟨0,k8.b⟩:KB) (cO (.cons rfl rfl (.cons rfl rfl (.cons rfl rfl (.cons rfl rfl .nil)))) (.cons rfl rfl rfl .nil)) ⟨Nat.zero_le _,kb_0 Iff.rfl⟩ ?_
  rintro k10 hinv
  obtain ⟨hle_k10,hi_k10⟩:=hinv
  refine LenG.of (cB (fun hg177=>?_) (fun hg177=>?_))
  ·have hlt177:k10.k < c.diff.length:=Int.ofNat_lt.1 (of_decide_eq_true hg177)
   refine cB (fun hc179=>?_) (fun hc179=>?_)
   ·have hpr1:=(hc.df _ (List.getElem_mem hlt177)).1
    have hpr2:=(hc.df _ (List.getElem_mem hlt177)).2
    obtain ⟨j1,hj1,hj1l⟩:∃ j:Nat,c.diff[k10.k].1=((j:Nat):Int)∧j < w.length:=⟨(c.diff[k10.k].1).toNat,by have:=hpr1; omega,by have:=hpr1; omega⟩
    obtain ⟨j2,hj2,hj2l⟩:∃ j:Nat,c.diff[k10.k].2=((j:Nat):Int)∧j < w.length:=⟨(c.diff[k10.k].2).toNat,by have:=hpr2; omega,by have:=hpr2; omega⟩
    refine IdxG.of (by assumption) (OpG.lk (LOp.indexArrT Tryz.underlying62 sz3 rfl rfl rfl) ?_)
    refine OpG.lk (LOp.indexI Tryz.underlying43 sz74 rfl rfl hj1 hj1l) ?_
    refine IdxG.of (by assumption) (OpG.lk (LOp.indexArrT Tryz.underlying62 sz3 rfl rfl rfl) ?_)
    refine OpG.lk (LOp.indexI Tryz.underlying43 sz74 rfl rfl hj2 hj2l) ?_
    refine ⟨by kernel_rfl,?_⟩
    refine cB (fun hg203=>?_) (fun hg203=>?_)
    ·have hq203:(w[j1].kind_:Int)=(2:Int):=by simpa using hg203
     refine cB (fun hg208=>?_) (fun hg208=>?_)
     ·have hq208:(w[j2].kind_:Int)=(2:Int):=by simpa using hg208
      refine ⟨by omega,?_⟩
      refine ⟨(⟨k10.k+1,(!(w[j1].text_.toList==w[j2].text_.toList))⟩:KB),(by show c.diff.length - (k10.k+1) < c.diff.length - k10.k; omega),(cO (.cons rfl rfl (.cons rfl rfl (.cons rfl rfl (.cons rfl rfl .nil)))) (.cons rfl rfl rfl .nil)),?_⟩
      refine ⟨by show k10.k+1≤_; omega,?_⟩
      exact kb_next (H:=fun j=>difG w (c.diff.getD j default)) hi_k10 hc179 (by rw [getD_at hlt177]; exact dif_iff hj1 hj1l hj2 hj2l hq203 hq208) hlt177
     have hq208:¬ ((w[j2].kind_:Int)=(2:Int)):=by simpa using hg208
     refine ⟨by omega,?_⟩
     refine ⟨(⟨k10.k+1,false⟩:KB),(by show c.diff.length - (k10.k+1) < c.diff.length - k10.k; omega),(cO (.cons rfl rfl (.cons rfl rfl (.cons rfl rfl (.cons rfl rfl .nil)))) (.cons rfl rfl rfl .nil)),?_⟩
     refine ⟨by show k10.k+1≤_; omega,?_⟩
     exact kb_next (H:=fun j=>difG w (c.diff.getD j default)) hi_k10 hc179 (by rw [getD_at hlt177]; exact ff (dif_k2 hj1 hj1l hj2 hj2l hq208)) hlt177
    have hq203:¬ ((w[j1].kind_:Int)=(2:Int)):=by simpa using hg203
    refine cF ⟨by omega,⟨(⟨k10.k+1,false⟩:KB),(by show c.diff.length - (k10.k+1) < c.diff.length - k10.k; omega),(cO (.cons rfl rfl (.cons rfl rfl (.cons rfl rfl (.cons rfl rfl .nil)))) (.cons rfl rfl rfl .nil)),?_⟩⟩
    refine ⟨by show k10.k+1≤_; omega,?_⟩
    exact kb_next (H:=fun j=>difG w (c.diff.getD j default)) hi_k10 hc179 (by rw [getD_at hlt177]; exact ff (dif_k1 hj1 hj1l hj2 hj2l hq203)) hlt177
   have hQ10:k10.b=true↔k8.b=true∧∀ x∈c.diff,difG w x:=kb_end (H:=fun x=>difG w x) hi_k10 (.inr hc179)
   exact rV Tryz.results26 rfl ⟨_,rfl,fun h=>by obtain ⟨h,d1⟩:=hQ10.1 h; obtain ⟨h,d2⟩:=hQ8.1 h; obtain ⟨h,d3⟩:=hQ6.1 h; obtain ⟨h,d4⟩:=hQ4.1 h; exact ⟨hnu,hnn,h,by rw [← hA0 (hb0.2 h)]; exact d4,d3,d2,d1⟩,fun h=>hQ10.2 ⟨hQ8.2 ⟨hQ6.2 ⟨hQ4.2 ⟨h.ax,by rw [hA0 (hb0.2 h.ax)]; exact h.ints⟩,h.tests⟩,h.same⟩,h.diff⟩⟩
  have hge177:¬ k10.k < c.diff.length:=fun h=>of_decide_eq_false hg177 (Int.ofNat_lt.2 h)
  have hQ10:k10.b=true↔k8.b=true∧∀ x∈c.diff,difG w x:=kb_end (H:=fun x=>difG w x) hi_k10 (.inl hge177)
  exact cF (rV Tryz.results26 rfl ⟨_,rfl,fun h=>by obtain ⟨h,d1⟩:=hQ10.1 h; obtain ⟨h,d2⟩:=hQ8.1 h; obtain ⟨h,d3⟩:=hQ6.1 h; obtain ⟨h,d4⟩:=hQ4.1 h; exact ⟨hnu,hnn,h,by rw [← hA0 (hb0.2 h)]; exact d4,d3,d2,d1⟩,fun h=>hQ10.2 ⟨hQ8.2 ⟨hQ6.2 ⟨hQ4.2 ⟨h.ax,by rw [hA0 (hb0.2 h.ax)]; exact h.ints⟩,h.tests⟩,h.same⟩,h.diff⟩⟩)
 have hge135:¬ k8.k < c.same.length:=fun h=>of_decide_eq_false hg135 (Int.ofNat_lt.2 h)
 have hQ8:k8.b=true↔k6.b=true∧∀ x∈c.same,samG w x:=kb_end (H:=fun x=>samG w x) hi_k8 (.inl hge135)
 refine cF (LpG.on (fun k10:KB=>(⟨fL [(1,.tree 3 (w.map gvA)),(2,.ptr 0 0 0),(8,.v (.bool k10.b)),(15,.v (.int .i64 ((k10.k:Nat):Int)))],hLz [(0,⟨0,clA c,0,false⟩)],1⟩:St)) (fun k10=>(c.diff.length - k10.k)) (fun k10=>(k10.k≤c.diff.length∧(k10.b=true↔k8.b=true∧∀ j,j < c.diff.length→j < k10.k→difG w (c.diff.getD j default)))) (⟨0,k8.b⟩:KB) (cO (.cons rfl rfl (.cons rfl rfl (.cons rfl rfl (.cons rfl rfl .nil)))) (.cons rfl rfl rfl .nil)) ⟨Nat.zero_le _,kb_0 Iff.rfl⟩ ?_)
 rintro k10 hinv
 obtain ⟨hle_k10,hi_k10⟩:=hinv
 refine LenG.of (cB (fun hg177=>?_) (fun hg177=>?_))
 ·have hlt177:k10.k < c.diff.length:=Int.ofNat_lt.1 (of_decide_eq_true hg177)
  refine cB (fun hc179=>?_) (fun hc179=>?_)
  ·have hpr1:=(hc.df _ (List.getElem_mem hlt177)).1
   have hpr2:=(hc.df _ (List.getElem_mem hlt177)).2
   obtain ⟨j1,hj1,hj1l⟩:∃ j:Nat,c.diff[k10.k].1=((j:Nat):Int)∧j < w.length:=⟨(c.diff[k10.k].1).toNat,by have:=hpr1; omega,by have:=hpr1; omega⟩
   obtain ⟨j2,hj2,hj2l⟩:∃ j:Nat,c.diff[k10.k].2=((j:Nat):Int)∧j < w.length:=⟨(c.diff[k10.k].2).toNat,by have:=hpr2; omega,by have:=hpr2; omega⟩
   refine IdxG.of (by assumption) (OpG.lk (LOp.indexArrT Tryz.underlying62 sz3 rfl rfl rfl) ?_)
   refine OpG.lk (LOp.indexI Tryz.underlying43 sz74 rfl rfl hj1 hj1l) ?_
   refine IdxG.of (by assumption) (OpG.lk (LOp.indexArrT Tryz.underlying62 sz3 rfl rfl rfl) ?_)
   refine OpG.lk (LOp.indexI Tryz.underlying43 sz74 rfl rfl hj2 hj2l) ?_
   refine ⟨by kernel_rfl,?_⟩
   refine cB (fun hg203=>?_) (fun hg203=>?_)
   ·have hq203:(w[j1].kind_:Int)=(2:Int):=by simpa using hg203
    refine cB (fun hg208=>?_) (fun hg208=>?_)
    ·have hq208:(w[j2].kind_:Int)=(2:Int):=by simpa using hg208
     refine ⟨by omega,?_⟩
     refine ⟨(⟨k10.k+1,(!(w[j1].text_.toList==w[j2].text_.toList))⟩:KB),(by show c.diff.length - (k10.k+1) < c.diff.length - k10.k; omega),(cO (.cons rfl rfl (.cons rfl rfl (.cons rfl rfl (.cons rfl rfl .nil)))) (.cons rfl rfl rfl .nil)),?_⟩
     refine ⟨by show k10.k+1≤_; omega,?_⟩
     exact kb_next (H:=fun j=>difG w (c.diff.getD j default)) hi_k10 hc179 (by rw [getD_at hlt177]; exact dif_iff hj1 hj1l hj2 hj2l hq203 hq208) hlt177
    have hq208:¬ ((w[j2].kind_:Int)=(2:Int)):=by simpa using hg208
    refine ⟨by omega,?_⟩
    refine ⟨(⟨k10.k+1,false⟩:KB),(by show c.diff.length - (k10.k+1) < c.diff.length - k10.k; omega),(cO (.cons rfl rfl (.cons rfl rfl (.cons rfl rfl (.cons rfl rfl .nil)))) (.cons rfl rfl rfl .nil)),?_⟩
    refine ⟨by show k10.k+1≤_; omega,?_⟩
    exact kb_next (H:=fun j=>difG w (c.diff.getD j default)) hi_k10 hc179 (by rw [getD_at hlt177]; exact ff (dif_k2 hj1 hj1l hj2 hj2l hq208)) hlt177
   have hq203:¬ ((w[j1].kind_:Int)=(2:Int)):=by simpa using hg203
   refine cF ⟨by omega,⟨(⟨k10.k+1,false⟩:KB),(by show c.diff.length - (k10.k+1) < c.diff.length - k10.k; omega),(cO (.cons rfl rfl (.cons rfl rfl (.cons rfl rfl (.cons rfl rfl .nil)))) (.cons rfl rfl rfl .nil)),?_⟩⟩
   refine ⟨by show k10.k+1≤_; omega,?_⟩
   exact kb_next (H:=fun j=>difG w (c.diff.getD j default)) hi_k10 hc179 (by rw [getD_at hlt177]; exact ff (dif_k1 hj1 hj1l hj2 hj2l hq203)) hlt177
  have hQ10:k10.b=true↔k8.b=true∧∀ x∈c.diff,difG w x:=kb_end (H:=fun x=>difG w x) hi_k10 (.inr hc179)
  exact rV Tryz.results26 rfl ⟨_,rfl,fun h=>by obtain ⟨h,d1⟩:=hQ10.1 h; obtain ⟨h,d2⟩:=hQ8.1 h; obtain ⟨h,d3⟩:=hQ6.1 h; obtain ⟨h,d4⟩:=hQ4.1 h; exact ⟨hnu,hnn,h,by rw [← hA0 (hb0.2 h)]; exact d4,d3,d2,d1⟩,fun h=>hQ10.2 ⟨hQ8.2 ⟨hQ6.2 ⟨hQ4.2 ⟨h.ax,by rw [hA0 (hb0.2 h.ax)]; exact h.ints⟩,h.tests⟩,h.same⟩,h.diff⟩⟩
 have hge177:¬ k10.k < c.diff.length:=fun h=>of_decide_eq_false hg177 (Int.ofNat_lt.2 h)
 have hQ10:k10.b=true↔k8.b=true∧∀ x∈c.diff,difG w x:=kb_end (H:=fun x=>difG w x) hi_k10 (.inl hge177)
 exact cF (rV Tryz.results26 rfl ⟨_,rfl,fun h=>by obtain ⟨h,d1⟩:=hQ10.1 h; obtain ⟨h,d2⟩:=hQ8.1 h; obtain ⟨h,d3⟩:=hQ6.1 h; obtain ⟨h,d4⟩:=hQ4.1 h; exact ⟨hnu,hnn,h,by rw [← hA0 (hb0.2 h)]; exact d4,d3,d2,d1⟩,fun h=>hQ10.2 ⟨hQ8.2 ⟨hQ6.2 ⟨hQ4.2 ⟨h.ax,by rw [hA0 (hb0.2 h.ax)]; exact h.ints⟩,h.tests⟩,h.same⟩,h.diff⟩⟩)
end Go.Proofs.YtbhhmbchdponjaaGreatDoor
namespace Go.Proofs.YtbhhmbchdponjaaGreatDoor
set_option linter.unusedVariables false
set_option linter.unusedSimpArgs false
open Go.RowKit
theorem row_gvA:RowF gvA 3:=⟨fun _=>rfl,fun _=>rfl,fun _ _=>rfl,fun _ _=>rfl,fun _ _=>rfl,fun _=>rfl⟩
def Bel (l:List PVar) (w:List GVal):Prop:=w.length=l.length∧∀ j (h1:j < w.length) (h2:j < l.length),fitB w[j] l[j]=true
theorem bel_z {l:List PVar} {w:List GVal} (h:Bel l w):∀ x∈w,x.kind_=2→x.int_=0:=fun x hx hk=>by
 obtain ⟨j,hj,rfl⟩:=List.getElem_of_mem hx
 have h1:=h.2 j hj (by have:=h.1; omega)
 unfold fitB at h1
 split at h1
 ·rename_i hv
  rcases valB_of hv with g | g | g
  ·omega
  ·omega
  exact g.2.1
 cases h1
theorem rg_form {f:PLin} {nn:List Int} {l:List PVar} {bs:List Int} (h:¬ fV f nn l bs < 0) (hlen:f.cs.length≤1000000000):RgF l.length bs.length f:=by
 unfold fV at h
 split at h
 ·rename_i h1
  simp only [Bool.and_eq_true,wiB,decide_eq_true_eq] at h1
  refine ⟨hlen,⟨by omega,by omega⟩,fun c hc=>?_⟩
  obtain ⟨j,hj,rfl⟩:=List.getElem_of_mem hc
  have h2:=allN_iff.1 h1.2 j hj
  unfold fOk fBad at h2
  rw [getD_at hj] at h2
  simp only [Bool.and_eq_true,Bool.not_eq_true',Bool.or_eq_false_iff,decide_eq_false_iff_not] at h2
  have h3:=h2.1.1.1.1.1
  omega
 omega
theorem rg_txt {v:Int} {nn:List Int} {l:List PVar} (h:txtB v nn l=true):0≤v∧v < ((l.length:Nat):Int):=by
 unfold txtB at h
 simp only [Bool.and_eq_true,decide_eq_true_eq] at h
 omega
theorem rg_asc {l:List Int} {n:Int} (h:ascB l n=true):∀ v∈l,0≤v∧v < n:=fun v hv=>by
 obtain ⟨j,hj,rfl⟩:=List.getElem_of_mem hv
 have h1:=allN_iff.1 h j hj
 unfold ascP at h1
 rw [getD_at hj] at h1
 simp at h1
 omega
theorem rg_pai {p:List (Int×Int)} {nn:List Int} {l:List PVar} (h:paiB p nn l=true):∀ x∈p,(0≤x.1∧x.1 < ((l.length:Nat):Int))∧(0≤x.2∧x.2 < ((l.length:Nat):Int)):=fun x hx=>by
 obtain ⟨j,hj,rfl⟩:=List.getElem_of_mem hx
 have h1:=allN_iff.1 h j hj
 unfold paiP at h1
 rw [getD_at hj] at h1
 simp only [Bool.and_eq_true] at h1
 exact ⟨rg_txt h1.1.1,rg_txt h1.1.2⟩
theorem rg_cl {c:PCl} {l:List PVar} (h:clB c l=true) (ho:c.Ok):RG c l.length:=by
 unfold clB at h
 simp only [Bool.and_eq_true] at h
 obtain ⟨⟨⟨⟨⟨h1,h2⟩,h3⟩,h4⟩,h5⟩,h6,h7⟩:=h
 refine ⟨rg_asc h1,rg_asc h2,fun k hk=>?_,fun k hk=>?_,fun t ht=>?_,rg_pai h6,rg_pai h7,ho.nul,ho.nn,ho.aux,ho.ints,ho.tests,ho.same,ho.diff⟩
 ·have g:=allN_iff.1 h3 k hk
  unfold auxP at g
  rw [getD_at hk] at g
  refine ⟨fun e=>?_,fun e=>?_⟩
  ·rw [if_pos e] at g
   simp only [Bool.and_eq_true] at g
   exact rg_txt g.2
  rw [if_neg e] at g
  simp only [Bool.and_eq_true,wiB,decide_eq_true_eq,Bool.not_eq_true',decide_eq_false_iff_not] at g
  refine ⟨by omega,?_⟩
  have:=rg_form g.2 (ho.auxc _ (List.getElem_mem hk))
  rwa [bsAt_len] at this
 ·obtain ⟨j,hj,rfl⟩:=List.getElem_of_mem hk
  have g:=allN_iff.1 h4 j hj
  unfold intP at g
  rw [getD_at hj] at g
  simp only [Bool.not_eq_true',decide_eq_false_iff_not] at g
  have:=rg_form g (ho.intc _ hk)
  rwa [bsAt_len] at this
 obtain ⟨j,hj,rfl⟩:=List.getElem_of_mem ht
 have g:=allN_iff.1 h5 j hj
 unfold tstP at g
 rw [getD_at hj] at g
 simp only [Bool.and_eq_true] at g
 have g1:=g.1
 unfold tesB at g1
 simp only [Bool.and_eq_true,decide_eq_true_eq] at g1
 exact ⟨rg_txt g.2,by omega,by have:=ho.tes _ ht; show _≤_; omega⟩
def Sat (l:List PVar) (c:PCl) (w:List GVal):Prop:=Bel l w∧HW c w
theorem eqb {P:Prop} {a b:Bool} (h1:a=true↔P) (h2:b=true↔P):(a==b)=true:=by
 cases a <;> cases b <;> simp_all
theorem by74:(Tryz.prog.info? 74).map (·.bytes)=some 32:=by kernel_rfl
theorem zr74:zeroOf Tryz.prog 74=some (.agg #[.int .i64 0,.int .i64 0,.string ⟨#[]⟩]):=by kernel_rfl
set_option maxRecDepth 100000 in
set_option maxHeartbeats 4000000 in
theorem fitsD_p (l:List PVar) (hl:FitL l (fun y=>True)) (w:List GVal) (hw:FitL w (fun y=>FitVal y)):PRet Tryz.prog 32 [.tree 5 (l.map vA),.tree 3 (w.map gvA)] (fun r=>∃ b:Bool,r=.v (.bool b)∧(b=true↔Bel l w)):=by
 refine ovT [] [] Tryz.func32 rfl rfl (LenG.of ?_)
 refine LenG.of (cB (fun hc11=>?_) (fun hc11=>?_))
 ·have hq11:¬ (((w.length:Nat):Int)=((l.length:Nat):Int)):=by simpa using hc11
  have hlen:¬ w.length=l.length:=by have h:=hc11; simp at h; omega
  exact rV Tryz.results32 rfl ⟨_,rfl,fun h=>absurd h Bool.false_ne_true,fun h=>absurd h.1 hlen⟩
 have hq11:((w.length:Nat):Int)=((l.length:Nat):Int):=by simpa using hc11
 have hlen:w.length=l.length:=by have h:=hc11; simp at h; omega
 refine LenG.of (LpG.on (fun k0:Nat=>(⟨fL [(0,.tree 5 (l.map vA)),(12,.tree 3 (w.map gvA)),(13,.v (.int .i64 ((w.length:Nat):Int))),(14,.v (.int .i64 ((k0:Nat):Int)))],hLz [],0⟩:St)) (fun k0=>(w.length - k0)) (fun k0=>(k0≤w.length∧∀ j (hl:j < w.length),j < k0→∀ h2:j < l.length,fitB w[j] l[j]=true)) 0 (cO (.cons rfl rfl (.cons rfl rfl (.cons rfl rfl (.cons rfl rfl .nil)))) .nil) ⟨Nat.zero_le _,fun j _ h=>absurd h (Nat.not_lt_zero j)⟩ ?_)
 rintro k0 hinv
 have hgr_k0:w.length≤140737488355328:=hw.1
 obtain ⟨hle_k0,hj_k0⟩:=hinv
 refine cL (fun hlt15=>?_) (fun hge15=>?_)
 ·refine IdxG.of (by assumption) (IdxG.of (by omega) ?_)
  refine ArgG.mk (fitsV_p (w[k0]) (hw.2 _ (List.getElem_mem _)) (l[k0])) rfl ?_
  rintro _ rfl
  refine ⟨by kernel_rfl,cB (fun hc25=>?_) (fun hc25=>?_)⟩
  ·exact rV Tryz.results32 rfl ⟨_,rfl,fun h=>absurd h Bool.false_ne_true,fun h=>by have h1:=h.2 k0 (by omega) (by omega); simp [h1] at hc25⟩
  refine ⟨by omega,⟨(k0+1),by omega,(cO (.cons rfl rfl (.cons rfl rfl (.cons rfl rfl (.cons rfl rfl .nil)))) .nil),?_⟩⟩
  refine ⟨by omega,fun j hl h=>?_⟩
  rcases Nat.lt_succ_iff_lt_or_eq.1 h with h | rfl
  ·exact hj_k0 j hl h
  intro h2; exact nb hc25
 exact rV Tryz.results32 rfl ⟨_,rfl,fun _=>⟨hlen,fun j h1 h2=>hj_k0 j h1 (by omega) h2⟩,fun _=>rfl⟩
set_option maxRecDepth 100000 in
set_option maxHeartbeats 4000000 in
theorem inside_p (l:List PVar) (hl:FitL l (fun y=>True)) (w:List GVal) (hw:FitL w (fun y=>FitVal y)):PRet Tryz.prog 25 [.tree 5 (l.map vA),.tree 3 (w.map gvA)] (fun r=>∃ b:Bool,r=.v (.bool b)∧(b=true↔Bel l w)):=by
 refine ovT [] [] Tryz.func25 rfl rfl (LenG.of ?_)
 refine LenG.of (cB (fun hc10=>?_) (fun hc10=>?_))
 ·have hq10:¬ (((l.length:Nat):Int)=((w.length:Nat):Int)):=by simpa using hc10
  have hlen:¬ w.length=l.length:=by have h:=hc10; simp at h; omega
  exact rV Tryz.results25 rfl ⟨_,rfl,fun h=>absurd h Bool.false_ne_true,fun h=>absurd h.1 hlen⟩
 have hq10:((l.length:Nat):Int)=((w.length:Nat):Int):=by simpa using hc10
 have hlen:w.length=l.length:=by have h:=hc10; simp at h; omega
 refine LpG.on (fun k0:Nat=>(⟨fL [(0,.tree 5 (l.map vA)),(1,.tree 3 (w.map gvA)),(5,.v (.int .i64 ((k0:Nat):Int)))],hLz [],0⟩:St)) (fun k0=>(l.length - k0)) (fun k0=>(k0≤l.length∧∀ j (hl:j < l.length),j < k0→∀ h2:j < w.length,fitB w[j] l[j]=true)) 0 (cO (.cons rfl rfl (.cons rfl rfl (.cons rfl rfl .nil))) .nil) ⟨Nat.zero_le _,fun j _ h=>absurd h (Nat.not_lt_zero j)⟩ ?_
 rintro k0 hinv
 have hgr_k0:l.length≤140737488355328:=hl.1
 obtain ⟨hle_k0,hj_k0⟩:=hinv
 refine LenG.of (cL (fun hlt14=>?_) (fun hge14=>?_))
 ·refine IdxG.of (by omega) (IdxG.of (by assumption) ?_)
  refine ArgG.mk (fits04_p (w[k0]) (hw.2 _ (List.getElem_mem _)) (l[k0])) rfl ?_
  rintro _ rfl
  refine ⟨by kernel_rfl,cB (fun hc26=>?_) (fun hc26=>?_)⟩
  ·exact rV Tryz.results25 rfl ⟨_,rfl,fun h=>absurd h Bool.false_ne_true,fun h=>by have h1:=h.2 k0 (by omega) (by omega); simp [h1] at hc26⟩
  refine ⟨by omega,⟨(k0+1),by omega,(cO (.cons rfl rfl (.cons rfl rfl (.cons rfl rfl .nil))) .nil),?_⟩⟩
  refine ⟨by omega,fun j hl h=>?_⟩
  rcases Nat.lt_succ_iff_lt_or_eq.1 h with h | rfl
  ·exact hj_k0 j hl h
  intro h2; exact nb hc26
 exact rV Tryz.results25 rfl ⟨_,rfl,fun _=>⟨hlen,fun j h1 h2=>hj_k0 j h2 (by omega) h1⟩,fun _=>rfl⟩
set_option maxRecDepth 100000 in
set_option maxHeartbeats 4000000 in
theorem satD_p (l:List PVar) (hl:FitL l (fun y=>True)) (c:PCl) (w:List GVal) (hw:FitL w (fun y=>FitVal y)) (hcl:clB c l=true) (hok:c.Ok):PRet Tryz.prog 14 [.tree 5 (l.map vA),.agg (clA c),.tree 3 (w.map gvA)] (fun r=>∃ b:Bool,r=.v (.bool b)∧(b=true↔Sat l c w)):=by
 refine ovT [] [] Tryz.func14 rfl rfl (ArgG.mk (fitsD_p l hl w hw) rfl ?_)
 rintro _ ⟨b0,rfl,hb0⟩
 refine cB (fun hg10=>?_) (fun hg10=>?_)
 ·refine ArgG.mk (holdsW_p c w hw (by rw [(hb0.1 (by assumption)).1]; exact rg_cl hcl hok)) rfl ?_
  rintro _ ⟨b1,rfl,hb1⟩
  exact rV Tryz.results14 rfl ⟨_,rfl,fun h=>⟨hb0.1 (by assumption),hb1.1 h⟩,fun h=>hb1.2 h.2⟩
 exact rV Tryz.results14 rfl ⟨_,rfl,fun h=>absurd h Bool.false_ne_true,fun h=>by have g:=hb0.2 h.1; simp_all⟩
set_option maxRecDepth 100000 in
set_option maxHeartbeats 4000000 in
theorem satR_p (l:List PVar) (hl:FitL l (fun y=>True)) (c:PCl) (w:List GVal) (hw:FitL w (fun y=>FitVal y)) (hcl:clB c l=true) (hok:c.Ok):PRet Tryz.prog 11 [.tree 5 (l.map vA),.agg (clA c),.tree 3 (w.map gvA)] (fun r=>∃ b:Bool,r=.v (.bool b)∧(b=true↔Sat l c w)):=by
 refine ovT [] [] Tryz.func11 rfl rfl (ArgG.mk (inside_p l hl w hw) rfl ?_)
 rintro _ ⟨b0,rfl,hb0⟩
 refine cB (fun hg10=>?_) (fun hg10=>?_)
 ·refine ArgG.mk (holds17_p c w hw (by rw [(hb0.1 (by assumption)).1]; exact rg_cl hcl hok) (bel_z (hb0.1 (by assumption)))) rfl ?_
  rintro _ ⟨b1,rfl,hb1⟩
  exact rV Tryz.results11 rfl ⟨_,rfl,fun h=>⟨hb0.1 (by assumption),hb1.1 h⟩,fun h=>hb1.2 h.2⟩
 exact rV Tryz.results11 rfl ⟨_,rfl,fun h=>absurd h Bool.false_ne_true,fun h=>by have g:=hb0.2 h.1; simp_all⟩
set_option maxRecDepth 100000 in
set_option maxHeartbeats 4000000 in
theorem row26_p (r:List GVal) (hr:FitL r (fun y=>FitVal y)) (hr12:r.length≤12):PRet Tryz.prog 15 [.tree 3 (r.map gvA)] (fun q=>q=.tree 3 (r.map gvA)):=by
 have hr1:=hr.1
 refine ovT [3,5] [] Tryz.func15 rfl rfl (OpG.nw (LOp.buildSlice0 0 Tryz.underlying43 sz74) rfl ?_)
 refine OpG.wr (LOp.appRowsBX row_gvA (l:=[]) (l':=r) Tryz.underlying43 sz74 zr74 by74 rfl rfl rfl rfl (by simp; omega) (by simp; omega) (by decide)) rfl ⟨.inr rfl,_,Outs.tmp Tryz.results15 ⟨[0],FzP.rowsF row_gvA (List.mem_singleton.2 rfl) rfl⟩,?_⟩
 rfl
set_option maxRecDepth 100000 in
set_option maxHeartbeats 4000000 in
theorem lawSat_p (l:List PVar) (hl:FitL l (fun y=>True)) (c:PCl) (r:List GVal) (hr:FitL r (fun y=>FitVal y)) (hc:CFit c) (haw:PRet Tryz.prog 6 [] (fun q=>q=.v (.bool true))):PRet Tryz.prog 5 [.tree 5 (l.map vA),.agg (clA c),.tree 3 (r.map gvA)] (fun q=>q=.v (.bool true)):=by
 refine ovT [] [] Tryz.func5 rfl rfl (ArgG.mk (haw) rfl ?_)
 rintro _ rfl
 refine cF (ArgG.mk (case26_p l hl c hc) rfl ?_)
 rintro _ ⟨bk,rfl,hbk⟩
 refine cB (fun hg15=>?_) (fun hg15=>?_)
 ·refine cT (ArgG.mk (haw) rfl ?_)
  rintro _ rfl
  exact rV Tryz.results5 rfl rfl
 obtain ⟨hll,hok,hcl⟩:=hbk (by simpa using hg15)
 refine LenG.of (cD (fun hq19=>?_) (fun hq19=>?_))
 ·refine ArgG.mk (haw) rfl ?_
  rintro _ rfl
  exact rV Tryz.results5 rfl rfl
 skip
 refine ArgG.mk (row26_p r hr (by omega)) rfl ?_
 rintro _ rfl
 refine ArgG.mk (satD_p l hl c r hr hcl hok) rfl ?_
 rintro _ ⟨b5,rfl,hb5⟩
 refine ArgG.mk (satR_p l hl c r hr hcl hok) rfl ?_
 rintro _ ⟨b6,rfl,hb6⟩
 exact ⟨by kernel_rfl,rV Tryz.results5 rfl (congrArg (fun z=>AV.v (.bool z)) (eqb (by assumption) (by assumption)))⟩
end Go.Proofs.YtbhhmbchdponjaaGreatDoor
namespace Go.Proofs.YtbhhmbchdponjaaGreatDoor
open Go.RowKit Go.ChangeShapes Go.WideShapes Go.Deep
set_option linter.unusedVariables false
set_option linter.unusedSimpArgs false
set_option maxRecDepth 100000
def LtB (n:Nat):Nat→Prop:=fun k=>k < n
def TRL (T:Nat→Prop) (w:World) (xs:List AV) (cs:List Value):Prop:=xs.length=cs.length∧∀ i (h:i < xs.length) (h':i < cs.length),TR T w xs[i] cs[i]
theorem TRL.one {T:Nat→Prop} {w:World} {a:AV} {x:Value} (h:TR T w a x):TRL T w [a] [x]:=⟨rfl,fun i h1 h2=>by
 have:i=0:=by simp at h1; omega
 subst this; exact h⟩
theorem TRL.append {T:Nat→Prop} {w:World} {xs ys:List AV} {cs ds:List Value} (h1:TRL T w xs cs) (h2:TRL T w ys ds):TRL T w (xs++ys) (cs++ds):=by
 refine ⟨by simp [h1.1,h2.1],fun i h h'=>?_⟩
 have e:=h1.1
 by_cases hi:i < xs.length
 ·rw [List.getElem_append_left hi,List.getElem_append_left (by omega)]
  exact h1.2 i hi (by omega)
 rw [List.getElem_append_right (by omega),List.getElem_append_right (by omega)]
 simp only [← e]
 exact h2.2 _ _ _
theorem TRL.done {T:Nat→Prop} {w:World} {cs:List Value} {n:Nat} (h:cs.length=n):TRL T w [] (cs.drop n):=by
 rw [← h,List.drop_length]; exact ⟨rfl,fun i h=>absurd h (by simp)⟩
theorem TRL.piece {T:Nat→Prop} {w:World} {xs ys:List AV} {cs:List Value} {o m:Nat} (h1:TRL T w xs ((cs.drop o).take m)) (h2:TRL T w ys (cs.drop (o+m))):TRL T w (xs++ys) (cs.drop o):=by
 have:=h1.append h2
 rwa [← List.drop_drop,List.take_append_drop] at this
theorem TRL.val {T:Nat→Prop} {w:World} {cs:List Value} {x:Value} (h:cs=[x]):TRL T w [.v x] cs:=by rw [h]; exact .one (.v x)
def OpenF {α:Type} (P:Program) (R:α→List AV) (Wf:α→Prop) (t:TypeId) (N:Nat):Prop :=
 ∀ {H:Type} (enc:TypeId×Value→H) (W:World) (fuel:Nat) (cs:List Value) (d:DataW H) (ps:List MemPlace),fuel≤N →
  DataW.trod enc P W 0 (fun _=>true) true fuel t cs=some (d,ps)→(∀ m∈d.weights P t,m≤140737488351232)→∃ a,Wf a∧TRL (LtB W.heap.size) W (R a) cs
def OpenR {α:Type} (P:Program) (R:α→List AV) (Wf:α→Prop) (t:TypeId):Prop :=
 ∀ {H:Type} (enc:TypeId×Value→H) (W:World) (fuel:Nat) (cs:List Value) (d:DataW H) (ps:List MemPlace),
  DataW.trod enc P W 0 (fun _=>true) true fuel t cs=some (d,ps)→(∀ m∈d.weights P t,m≤140737488351232)→∃ a,Wf a∧TRL (LtB W.heap.size) W (R a) cs
theorem OpenR.f {α:Type} {P:Program} {R:α→List AV} {Wf:α→Prop} {t:TypeId} (h:OpenR P R Wf t) (N:Nat):OpenF P R Wf t N:=fun enc W fuel cs d ps _ h1 h2=>h enc W fuel cs d ps h1 h2
theorem OpenR.of {α:Type} {P:Program} {R:α→List AV} {Wf:α→Prop} {t:TypeId} (h:∀ N,OpenF P R Wf t N):OpenR P R Wf t:=fun enc W fuel cs d ps h1 h2=>h fuel enc W fuel cs d ps (Nat.le_refl _) h1 h2
theorem weightsAll_mem {H:Type} {P:Program} {e:TypeId}:∀ {ds:List (DataW H)} {d:DataW H},d∈ds→∀ m∈d.weights P e,m∈DataW.weightsAll P e ds
 | x :: r,d,h,m,hm=>by
  simp only [DataW.weightsAll,List.mem_append]
  rcases List.mem_cons.1 h with rfl | h
  ·exact .inl hm
  ·exact .inr (weightsAll_mem h m hm)
theorem choose_lt' {α:Type} [Inhabited α] {m:Nat} {p:Nat→α→Prop} (h:∀ i,i < m→∃ y,p i y):∃ f:Nat→α,∀ i,i < m→p i (f i):=by
 refine ⟨fun i=>if h':i < m then Classical.choose (h i h') else default,fun i hi=>?_⟩
 simp only [hi,dif_pos]
 exact Classical.choose_spec (h i hi)
theorem OpenF.sliceB {α:Type} {P:Program} {R:α→List AV} {Wf:α→Prop} {t e q N:Nat} (hR:OpenF P R Wf e N) (ht:P.underlying t=some (.slice e)) (hn:P.cellsOf e=q) (hq:∀ a,Wf a→(R a).length=q) (hpos:1≤q) (hb:1≤P.bytesOf e) :
 OpenF P (fun l:List α=>[.tree q (l.map R)]) (fun l=>l.length * P.bytesOf e≤140737488355328∧∀ a∈l,Wf a) t (N+1):=by
 intro H enc W fuel cs d ps hN h hw
 rcases DataW.trod_slice ht h with ⟨rfl,_⟩ | ⟨a,len,m,elems,rest,n,hfu,rfl,hx,_,hl,hm,hel,hi,_,_⟩
 ·exact ⟨[],⟨by simp,fun a h=>by cases h⟩,.one (.tree0 (Nat.zero_le _))⟩
 simp only [Prod.mk.injEq] at hx
 obtain ⟨rfl,_⟩:=hx
 simp only [DataW.weights,ht,List.length_map,List.mem_cons,List.mem_append] at hw
 have hcap:=hw _ (.inl rfl)
 rw [hel] at hcap
 have hlenB:len * P.bytesOf e≤140737488355328:=by
  have:len * P.bytesOf e≤(len+rest.length) * P.bytesOf e:=Nat.mul_le_mul_right _ (by omega)
  omega
 have hlen:len≤140737488355328:=by
  have:len * 1≤(len+rest.length) * P.bytesOf e:=Nat.mul_le_mul (by omega) hb
  omega
 have hex:∀ i,i < len→∃ (y:α×List Value),(Wf y.1∧TRL (LtB W.heap.size) W (R y.1) y.2)∧W.cells? 0 (a.add (i * P.cellsOf e)) (P.cellsOf e)=some y.2:=by
  intro i hil
  have h1:=hi i hil
  have hil':i < elems.length:=by omega
  rw [List.getElem?_eq_getElem hil'] at h1
  obtain ⟨cs',hc,ht'⟩:=Option.bind_eq_some_iff.1 h1
  obtain ⟨y,hy⟩:=hR enc W n cs' elems[i].1 elems[i].2 (by omega) ht' (fun j hj=>hw j (.inr (.inl (weightsAll_mem (List.mem_map.2 ⟨elems[i],List.getElem_mem _,rfl⟩) j hj))))
  exact ⟨(y,cs'),hy,hc⟩
 by_cases h0:len=0
 ·subst h0
  exact ⟨[],⟨by simp,fun a h=>by cases h⟩,.one (.tree0 hm)⟩
 obtain ⟨y0,hy0⟩:=hex 0 (by omega)
 have:Inhabited (α×List Value):=⟨y0⟩
 obtain ⟨f,hf⟩:=choose_lt' hex
 obtain ⟨b,off,spot⟩:=a
 have hc0:=World.cells?_some hy0.2
 have hcell0:=hc0.2.2 0 (by rw [hn]; exact hpos)
 have hsome:∃ v0,W.cell? ((⟨b,off,spot⟩:Addr).add (0 * P.cellsOf e))=some v0:=by
  have hlen0:0 < y0.2.length:=by rw [hc0.2.1,hn]; exact hpos
  refine ⟨y0.2[0],?_⟩
  have:=hcell0
  rw [List.getElem?_eq_getElem hlen0] at this
  simpa [Addr.add] using this
 obtain ⟨v0,hv0⟩:=hsome
 have hspot:spot=none:=by simpa [Addr.add] using World.cell?_spot hv0
 subst hspot
 have hblk:b < W.heap.size:=by
  have:=World.block_lt_of_cell? W _ hv0
  simpa [Addr.add] using this
 refine ⟨(List.range len).map fun i=>(f i).1,⟨by simpa using hlenB,fun a ha=>?_⟩,.one ?_⟩
 ·obtain ⟨i,hi',rfl⟩:=List.mem_map.1 ha
  exact (hf i (by simpa using hi')).1.1
 have hlr:(((List.range len).map fun i=>(f i).1).map R).length=len:=by simp
 have hrow:∀ k (h:k < (((List.range len).map fun i=>(f i).1).map R).length),(((List.range len).map fun i=>(f i).1).map R)[k]=R (f k).1:=fun k h=>by simp
 have hT:=TR.tree (T:=LtB W.heap.size) (w:=W) (n:=q) (xs:=((List.range len).map fun i=>(f i).1).map R) (b:=b) (off:=off) (cap:=m) (fun k j=>(f k).2.getD j undef) hblk (by rw [hlr]; exact hl) hm (by rw [hlr]; exact hlen)
  (fun k h=>by rw [hrow k h]; exact hq _ (hf k (by rw [hlr] at h; exact h)).1.1)
  (fun k j hk hj=>by
   rw [hlr] at hk
   have hck:=World.cells?_some (hf k hk).2
   have hjl:j < P.cellsOf e:=by rw [hn]; exact hj
   have hg:=hck.2.2 j hjl
   rw [add_add,hn] at hg
   have hl2:j < (f k).2.length:=by rw [hck.2.1]; exact hjl
   have e1:(⟨b,off,none⟩:Addr).add (k * q+j)=⟨b,off+k * q+j,none⟩:=by
    by_cases hz:k * q+j=0
    ·have h1:k * q=0:=by omega
     have h2:j=0:=by omega
     rw [h1,h2]; simp [Addr.add]
    ·unfold Addr.add
     rw [if_neg hz]
     simp [Nat.add_assoc]
   rw [← e1,hg]
   simp [List.getD,hl2])
  (fun k h j h'=>by
   have hk:k < len:=by rw [hlr] at h; exact h
   have hr:=(hf k hk).1.2
   have hjr:j < (R (f k).1).length:=by rw [hrow k h] at h'; exact h'
   have hl2:j < (f k).2.length:=by rw [← hr.1]; exact hjr
   have:=hr.2 j hjr hl2
   simp only [hrow k h]
   rw [getD_at hl2]
   exact this)
 rw [hlr] at hT
 exact hT
theorem OpenF.slice {α:Type} {P:Program} {R:α→List AV} {Wf:α→Prop} {t e q N:Nat} (hR:OpenF P R Wf e N) (ht:P.underlying t=some (.slice e)) (hn:P.cellsOf e=q) (hq:∀ a,Wf a→(R a).length=q) (hpos:1≤q) (hb:1≤P.bytesOf e) :
 OpenF P (fun l:List α=>[.tree q (l.map R)]) (fun l=>l.length≤140737488355328∧∀ a∈l,Wf a) t (N+1):=fun enc W fuel cs d ps hN h hw=>by
 obtain ⟨l,⟨h1,h2⟩,h3⟩:=OpenF.sliceB hR ht hn hq hpos hb enc W fuel cs d ps hN h hw
 refine ⟨l,⟨?_,h2⟩,h3⟩
 have:l.length * 1≤l.length * P.bytesOf e:=Nat.mul_le_mul_left _ hb
 omega
theorem OpenR.slice {α:Type} {P:Program} {R:α→List AV} {Wf:α→Prop} {t e q:Nat} (hR:OpenR P R Wf e) (ht:P.underlying t=some (.slice e)) (hn:P.cellsOf e=q) (hq:∀ a,(R a).length=q) (hpos:1≤q) (hb:1≤P.bytesOf e) :
 OpenR P (fun l:List α=>[.tree q (l.map R)]) (fun l=>l.length≤140737488355328∧∀ a∈l,Wf a) t:=OpenR.of fun N=>fun enc W fuel cs d ps hN h1 h2=>OpenF.slice (hR.f N) ht hn (fun a _=>hq a) hpos hb enc W fuel cs d ps (by omega) h1 h2
theorem open_structF {P:Program} {t:TypeId} {fs:Array Field} (ht:P.underlying t=some (.struct fs)) {H:Type} {enc:TypeId×Value→H} {W:World} {fuel:Nat} {cs:List Value} {d:DataW H} {ps:List MemPlace}
 (h:DataW.trod enc P W 0 (fun _=>true) true fuel t cs=some (d,ps)) (hw:∀ m∈d.weights P t,m≤140737488351232) :
 ∃ n,fuel=n+1∧cs.length=P.cellsOf t∧∀ (i:Nat) (f:Field),fs[i]? = some f →
  ∃ (d':DataW H) (ps':List MemPlace),DataW.trod enc P W 0 (fun _=>true) true n f.type ((cs.drop f.offset).take (P.cellsOf f.type))=some (d',ps')∧∀ q∈d'.weights P f.type,q≤140737488351232:=by
 obtain ⟨xs,n,hfu,hx,hlen,hxl,hf⟩:=DataW.trod_struct ht h
 simp only [Prod.mk.injEq] at hx
 obtain ⟨rfl,_⟩:=hx
 refine ⟨n,hfu,hlen,fun i f hi=>?_⟩
 have hil:i < fs.size:=(Array.getElem?_eq_some_iff.1 hi).1
 have hx':xs[i]? = some (xs[i]'(by omega)):=List.getElem?_eq_getElem (by omega)
 have h1:=hf i f hi
 rw [hx'] at h1
 refine ⟨_,_,h1,fun q hq=>hw q ?_⟩
 simp only [DataW.weights,ht]
 refine DataW.weights_mem_each (j:=i) (t:=f.type) (d:=(xs[i]'(by omega)).1) ?_ ?_ q hq
 ·simp only [List.getElem?_map,Array.getElem?_toList,hi,Option.map_some]
 simp only [List.getElem?_map,hx',Option.map_some]
theorem openR_int {P:Program} {t:TypeId} (ht:P.underlying t=some (.int .i64)):OpenR P iA (fun x=>-9223372036854775808≤x∧x≤9223372036854775807) t:=by
 intro H enc W fuel cs d ps h hw
 obtain ⟨x,h1,_,h2⟩:=DataW.trod_int ht h
 exact ⟨x,bounds_i64 h2,.val h1⟩
theorem openR_bool {P:Program} {t:TypeId} (ht:P.underlying t=some .bool):OpenR P (fun b:Bool=>[.v (.bool b)]) (fun _=>True) t:=by
 intro H enc W fuel cs d ps h hw
 obtain ⟨x,h1,_⟩:=DataW.trod_bool ht h
 exact ⟨x,trivial,.val h1⟩
theorem openR_str {P:Program} {t:TypeId} (ht:P.underlying t=some .string):OpenR P (fun s:ByteArray=>[.v (.string s)]) (fun s=>s.size≤140737488351232) t:=by
 intro H enc W fuel cs d ps h hw
 obtain ⟨x,h1,h2,_⟩:=DataW.trod_string ht h
 simp only [Prod.mk.injEq] at h2
 obtain ⟨rfl,_⟩:=h2
 refine ⟨x,?_,.val h1⟩
 have:=hw x.data.toList.length (by simp [DataW.weights])
 have e:x.data.toList.length=x.size:=by simp
 omega
theorem oVal:OpenR Tryz.prog gvA FitVal 74:=by
 intro H enc W fuel cs d ps h hw
 obtain ⟨n,hn,hlen,hf⟩:=open_structF Tryz.underlying74 h hw
 rw [show Tryz.prog.cellsOf 74=3 by kernel_rfl] at hlen
 obtain ⟨_,_,h0,w0⟩:=hf 0 _ rfl
 obtain ⟨x0,r0,e0⟩:=(openR_int Tryz.underlying3) enc W _ _ _ _ h0 w0
 change TRL _ _ _ (List.take (Tryz.prog.cellsOf 3) (List.drop 0 cs)) at e0
 rw [show Tryz.prog.cellsOf 3=1 by kernel_rfl] at e0
 obtain ⟨_,_,h1,w1⟩:=hf 1 _ rfl
 obtain ⟨x1,r1,e1⟩:=(openR_int Tryz.underlying2) enc W _ _ _ _ h1 w1
 change TRL _ _ _ (List.take (Tryz.prog.cellsOf 2) (List.drop 1 cs)) at e1
 rw [show Tryz.prog.cellsOf 2=1 by kernel_rfl] at e1
 obtain ⟨_,_,h2,w2⟩:=hf 2 _ rfl
 obtain ⟨x2,r2,e2⟩:=(openR_str Tryz.underlying9) enc W _ _ _ _ h2 w2
 change TRL _ _ _ (List.take (Tryz.prog.cellsOf 9) (List.drop 2 cs)) at e2
 rw [show Tryz.prog.cellsOf 9=1 by kernel_rfl] at e2
 have hh:=(TRL.piece (o:=0) (m:=1) e0 (TRL.piece (o:=1) (m:=1) e1 (TRL.piece (o:=2) (m:=1) e2 (TRL.done hlen))))
 exact ⟨⟨x0,x1,x2⟩,⟨r2⟩,hh⟩
theorem oRow:OpenR Tryz.prog (fun l:List GVal=>[.tree 3 (l.map gvA)]) (fun l=>l.length≤140737488355328∧∀ a∈l,FitVal a) 43:=OpenR.slice oVal Tryz.underlying43 (show Tryz.prog.cellsOf 74=3 by kernel_rfl) (fun _=>rfl) (by decide) (Nat.le_of_ble_eq_true (by kernel_rfl))
theorem oVar:OpenR Tryz.prog vA (fun _=>True) 25:=by
 intro H enc W fuel cs d ps h hw
 obtain ⟨n,hn,hlen,hf⟩:=open_structF Tryz.underlying25 h hw
 rw [show Tryz.prog.cellsOf 25=5 by kernel_rfl] at hlen
 obtain ⟨_,_,h0,w0⟩:=hf 0 _ rfl
 obtain ⟨x0,r0,e0⟩:=(openR_int Tryz.underlying3) enc W _ _ _ _ h0 w0
 change TRL _ _ _ (List.take (Tryz.prog.cellsOf 3) (List.drop 0 cs)) at e0
 rw [show Tryz.prog.cellsOf 3=1 by kernel_rfl] at e0
 obtain ⟨_,_,h1,w1⟩:=hf 1 _ rfl
 obtain ⟨x1,r1,e1⟩:=(openR_int Tryz.underlying2) enc W _ _ _ _ h1 w1
 change TRL _ _ _ (List.take (Tryz.prog.cellsOf 2) (List.drop 1 cs)) at e1
 rw [show Tryz.prog.cellsOf 2=1 by kernel_rfl] at e1
 obtain ⟨_,_,h2,w2⟩:=hf 2 _ rfl
 obtain ⟨x2,r2,e2⟩:=(openR_int Tryz.underlying2) enc W _ _ _ _ h2 w2
 change TRL _ _ _ (List.take (Tryz.prog.cellsOf 2) (List.drop 2 cs)) at e2
 rw [show Tryz.prog.cellsOf 2=1 by kernel_rfl] at e2
 obtain ⟨_,_,h3,w3⟩:=hf 3 _ rfl
 obtain ⟨x3,r3,e3⟩:=(openR_int Tryz.underlying3) enc W _ _ _ _ h3 w3
 change TRL _ _ _ (List.take (Tryz.prog.cellsOf 3) (List.drop 3 cs)) at e3
 rw [show Tryz.prog.cellsOf 3=1 by kernel_rfl] at e3
 obtain ⟨_,_,h4,w4⟩:=hf 4 _ rfl
 obtain ⟨x4,r4,e4⟩:=(openR_bool Tryz.underlying4) enc W _ _ _ _ h4 w4
 change TRL _ _ _ (List.take (Tryz.prog.cellsOf 4) (List.drop 4 cs)) at e4
 rw [show Tryz.prog.cellsOf 4=1 by kernel_rfl] at e4
 have hh:=(TRL.piece (o:=0) (m:=1) e0 (TRL.piece (o:=1) (m:=1) e1 (TRL.piece (o:=2) (m:=1) e2 (TRL.piece (o:=3) (m:=1) e3 (TRL.piece (o:=4) (m:=1) e4 (TRL.done hlen))))))
 exact ⟨⟨x0,x1,x2,x3,x4⟩,trivial,hh⟩
theorem oVars:OpenR Tryz.prog (fun l:List PVar=>[.tree 5 (l.map vA)]) (fun l=>l.length≤140737488355328∧∀ a∈l,True) 26:=OpenR.slice oVar Tryz.underlying26 (show Tryz.prog.cellsOf 25=5 by kernel_rfl) (fun _=>rfl) (by decide) (Nat.le_of_ble_eq_true (by kernel_rfl))
theorem oInts:OpenR Tryz.prog (fun l:List Int=>[.tree 1 (l.map iA)]) (fun l=>l.length≤140737488355328∧∀ a∈l,-9223372036854775808≤a∧a≤9223372036854775807) 27:=OpenR.slice (openR_int Tryz.underlying3) Tryz.underlying27 (show Tryz.prog.cellsOf 3=1 by kernel_rfl) (fun _=>rfl) (by decide) (Nat.le_of_ble_eq_true (by kernel_rfl))
theorem oCf:OpenR Tryz.prog cfA (fun _=>True) 35:=by
 intro H enc W fuel cs d ps h hw
 obtain ⟨n,hn,hlen,hf⟩:=open_structF Tryz.underlying35 h hw
 rw [show Tryz.prog.cellsOf 35=2 by kernel_rfl] at hlen
 obtain ⟨_,_,h0,w0⟩:=hf 0 _ rfl
 obtain ⟨x0,r0,e0⟩:=(openR_int Tryz.underlying3) enc W _ _ _ _ h0 w0
 change TRL _ _ _ (List.take (Tryz.prog.cellsOf 3) (List.drop 0 cs)) at e0
 rw [show Tryz.prog.cellsOf 3=1 by kernel_rfl] at e0
 obtain ⟨_,_,h1,w1⟩:=hf 1 _ rfl
 obtain ⟨x1,r1,e1⟩:=(openR_int Tryz.underlying2) enc W _ _ _ _ h1 w1
 change TRL _ _ _ (List.take (Tryz.prog.cellsOf 2) (List.drop 1 cs)) at e1
 rw [show Tryz.prog.cellsOf 2=1 by kernel_rfl] at e1
 have hh:=(TRL.piece (o:=0) (m:=1) e0 (TRL.piece (o:=1) (m:=1) e1 (TRL.done hlen)))
 exact ⟨⟨x0,x1⟩,trivial,hh⟩
theorem oCfs:OpenR Tryz.prog (fun l:List PCoef=>[.tree 2 (l.map cfA)]) (fun l=>l.length≤140737488355328∧∀ a∈l,True) 28:=OpenR.slice oCf Tryz.underlying28 (show Tryz.prog.cellsOf 35=2 by kernel_rfl) (fun _=>rfl) (by decide) (Nat.le_of_ble_eq_true (by kernel_rfl))
theorem oLi:OpenR Tryz.prog liA (fun f=>f.cs.length≤140737488355328) 30:=by
 intro H enc W fuel cs d ps h hw
 obtain ⟨n,hn,hlen,hf⟩:=open_structF Tryz.underlying30 h hw
 rw [show Tryz.prog.cellsOf 30=2 by kernel_rfl] at hlen
 obtain ⟨_,_,h0,w0⟩:=hf 0 _ rfl
 obtain ⟨x0,r0,e0⟩:=(openR_int Tryz.underlying2) enc W _ _ _ _ h0 w0
 change TRL _ _ _ (List.take (Tryz.prog.cellsOf 2) (List.drop 0 cs)) at e0
 rw [show Tryz.prog.cellsOf 2=1 by kernel_rfl] at e0
 obtain ⟨_,_,h1,w1⟩:=hf 1 _ rfl
 obtain ⟨x1,r1,e1⟩:=(oCfs) enc W _ _ _ _ h1 w1
 change TRL _ _ _ (List.take (Tryz.prog.cellsOf 28) (List.drop 1 cs)) at e1
 rw [show Tryz.prog.cellsOf 28=1 by kernel_rfl] at e1
 have hh:=(TRL.piece (o:=0) (m:=1) e0 (TRL.piece (o:=1) (m:=1) e1 (TRL.done hlen)))
 exact ⟨⟨x0,x1⟩,r1.1,hh⟩
theorem oAx:OpenR Tryz.prog axA (fun x=>x.of_.cs.length≤140737488355328) 61:=by
 intro H enc W fuel cs d ps h hw
 obtain ⟨n,hn,hlen,hf⟩:=open_structF Tryz.underlying61 h hw
 rw [show Tryz.prog.cellsOf 61=4 by kernel_rfl] at hlen
 obtain ⟨_,_,h0,w0⟩:=hf 0 _ rfl
 obtain ⟨x0,r0,e0⟩:=(oLi) enc W _ _ _ _ h0 w0
 change TRL _ _ _ (List.take (Tryz.prog.cellsOf 30) (List.drop 0 cs)) at e0
 rw [show Tryz.prog.cellsOf 30=2 by kernel_rfl] at e0
 obtain ⟨_,_,h1,w1⟩:=hf 1 _ rfl
 obtain ⟨x1,r1,e1⟩:=(openR_int Tryz.underlying2) enc W _ _ _ _ h1 w1
 change TRL _ _ _ (List.take (Tryz.prog.cellsOf 2) (List.drop 2 cs)) at e1
 rw [show Tryz.prog.cellsOf 2=1 by kernel_rfl] at e1
 obtain ⟨_,_,h2,w2⟩:=hf 2 _ rfl
 obtain ⟨x2,r2,e2⟩:=(openR_int Tryz.underlying3) enc W _ _ _ _ h2 w2
 change TRL _ _ _ (List.take (Tryz.prog.cellsOf 3) (List.drop 3 cs)) at e2
 rw [show Tryz.prog.cellsOf 3=1 by kernel_rfl] at e2
 have hh:=(TRL.piece (o:=0) (m:=2) e0 (TRL.piece (o:=2) (m:=1) e1 (TRL.piece (o:=3) (m:=1) e2 (TRL.done hlen))))
 exact ⟨⟨x0,x1,x2⟩,r0,hh⟩
theorem oAxs:OpenR Tryz.prog (fun l:List PAux=>[.tree 4 (l.map axA)]) (fun l=>l.length≤140737488355328∧∀ a∈l,a.of_.cs.length≤140737488355328) 37:=OpenR.slice oAx Tryz.underlying37 (show Tryz.prog.cellsOf 61=4 by kernel_rfl) (fun _=>rfl) (by decide) (Nat.le_of_ble_eq_true (by kernel_rfl))
theorem oCn:OpenR Tryz.prog cnA (fun x=>x.l.cs.length≤140737488355328) 32:=by
 intro H enc W fuel cs d ps h hw
 obtain ⟨n,hn,hlen,hf⟩:=open_structF Tryz.underlying32 h hw
 rw [show Tryz.prog.cellsOf 32=3 by kernel_rfl] at hlen
 obtain ⟨_,_,h0,w0⟩:=hf 0 _ rfl
 obtain ⟨x0,r0,e0⟩:=(oLi) enc W _ _ _ _ h0 w0
 change TRL _ _ _ (List.take (Tryz.prog.cellsOf 30) (List.drop 0 cs)) at e0
 rw [show Tryz.prog.cellsOf 30=2 by kernel_rfl] at e0
 obtain ⟨_,_,h1,w1⟩:=hf 1 _ rfl
 obtain ⟨x1,r1,e1⟩:=(openR_bool Tryz.underlying4) enc W _ _ _ _ h1 w1
 change TRL _ _ _ (List.take (Tryz.prog.cellsOf 4) (List.drop 2 cs)) at e1
 rw [show Tryz.prog.cellsOf 4=1 by kernel_rfl] at e1
 have hh:=(TRL.piece (o:=0) (m:=2) e0 (TRL.piece (o:=2) (m:=1) e1 (TRL.done hlen)))
 exact ⟨⟨x0,x1⟩,r0,hh⟩
theorem oCns:OpenR Tryz.prog (fun l:List PCon=>[.tree 3 (l.map cnA)]) (fun l=>l.length≤140737488355328∧∀ a∈l,a.l.cs.length≤140737488355328) 36:=OpenR.slice oCn Tryz.underlying36 (show Tryz.prog.cellsOf 32=3 by kernel_rfl) (fun _=>rfl) (by decide) (Nat.le_of_ble_eq_true (by kernel_rfl))
theorem oTe:OpenR Tryz.prog teA (fun x=>FitS x.s) 69:=by
 intro H enc W fuel cs d ps h hw
 obtain ⟨n,hn,hlen,hf⟩:=open_structF Tryz.underlying69 h hw
 rw [show Tryz.prog.cellsOf 69=4 by kernel_rfl] at hlen
 obtain ⟨_,_,h0,w0⟩:=hf 0 _ rfl
 obtain ⟨x0,r0,e0⟩:=(openR_int Tryz.underlying3) enc W _ _ _ _ h0 w0
 change TRL _ _ _ (List.take (Tryz.prog.cellsOf 3) (List.drop 0 cs)) at e0
 rw [show Tryz.prog.cellsOf 3=1 by kernel_rfl] at e0
 obtain ⟨_,_,h1,w1⟩:=hf 1 _ rfl
 obtain ⟨x1,r1,e1⟩:=(openR_int Tryz.underlying3) enc W _ _ _ _ h1 w1
 change TRL _ _ _ (List.take (Tryz.prog.cellsOf 3) (List.drop 1 cs)) at e1
 rw [show Tryz.prog.cellsOf 3=1 by kernel_rfl] at e1
 obtain ⟨_,_,h2,w2⟩:=hf 2 _ rfl
 obtain ⟨x2,r2,e2⟩:=(openR_bool Tryz.underlying4) enc W _ _ _ _ h2 w2
 change TRL _ _ _ (List.take (Tryz.prog.cellsOf 4) (List.drop 2 cs)) at e2
 rw [show Tryz.prog.cellsOf 4=1 by kernel_rfl] at e2
 obtain ⟨_,_,h3,w3⟩:=hf 3 _ rfl
 obtain ⟨x3,r3,e3⟩:=(openR_str Tryz.underlying9) enc W _ _ _ _ h3 w3
 change TRL _ _ _ (List.take (Tryz.prog.cellsOf 9) (List.drop 3 cs)) at e3
 rw [show Tryz.prog.cellsOf 9=1 by kernel_rfl] at e3
 have hh:=(TRL.piece (o:=0) (m:=1) e0 (TRL.piece (o:=1) (m:=1) e1 (TRL.piece (o:=2) (m:=1) e2 (TRL.piece (o:=3) (m:=1) e3 (TRL.done hlen)))))
 exact ⟨⟨x0,x1,x2,x3⟩,r3,hh⟩
theorem oTes:OpenR Tryz.prog (fun l:List PTest=>[.tree 4 (l.map teA)]) (fun l=>l.length≤140737488355328∧∀ a∈l,FitS a.s) 38:=OpenR.slice oTe Tryz.underlying38 (show Tryz.prog.cellsOf 69=4 by kernel_rfl) (fun _=>rfl) (by decide) (Nat.le_of_ble_eq_true (by kernel_rfl))
theorem oPa:OpenR Tryz.prog paA (fun _=>True) 62:=by
 intro H enc W fuel cs d ps h hw
 obtain ⟨xs,m,_,hx,hlen,hxl,hf⟩:=DataW.trod_array Tryz.underlying62 h
 rw [show Tryz.prog.cellsOf 62=2 by kernel_rfl] at hlen
 simp only [show Tryz.prog.cellsOf 3=1 by kernel_rfl] at hf
 have h0:=hf 0 (by decide)
 have h1:=hf 1 (by decide)
 rw [List.getElem?_eq_getElem (by omega)] at h0 h1
 obtain ⟨x0,e0,_⟩:=DataW.trod_int Tryz.underlying3 h0
 obtain ⟨x1,e1,_⟩:=DataW.trod_int Tryz.underlying3 h1
 have hh:=(TRL.piece (T:=LtB W.heap.size) (w:=W) (o:=0) (m:=1) (.val e0) (TRL.piece (o:=1) (m:=1) (.val e1) (TRL.done hlen)))
 exact ⟨(x0,x1),trivial,hh⟩
theorem oPas:OpenR Tryz.prog (fun l:List (Int×Int)=>[.tree 2 (l.map paA)]) (fun l=>l.length≤140737488355328∧∀ a∈l,True) 39:=OpenR.slice oPa Tryz.underlying39 (show Tryz.prog.cellsOf 62=2 by kernel_rfl) (fun _=>rfl) (by decide) (Nat.le_of_ble_eq_true (by kernel_rfl))
theorem oCl:OpenR Tryz.prog clA CFit 41:=by
 intro H enc W fuel cs d ps h hw
 obtain ⟨n,hn,hlen,hf⟩:=open_structF Tryz.underlying41 h hw
 rw [show Tryz.prog.cellsOf 41=7 by kernel_rfl] at hlen
 obtain ⟨_,_,h0,w0⟩:=hf 0 _ rfl
 obtain ⟨x0,r0,e0⟩:=(oInts) enc W _ _ _ _ h0 w0
 change TRL _ _ _ (List.take (Tryz.prog.cellsOf 27) (List.drop 0 cs)) at e0
 rw [show Tryz.prog.cellsOf 27=1 by kernel_rfl] at e0
 obtain ⟨_,_,h1,w1⟩:=hf 1 _ rfl
 obtain ⟨x1,r1,e1⟩:=(oInts) enc W _ _ _ _ h1 w1
 change TRL _ _ _ (List.take (Tryz.prog.cellsOf 27) (List.drop 1 cs)) at e1
 rw [show Tryz.prog.cellsOf 27=1 by kernel_rfl] at e1
 obtain ⟨_,_,h2,w2⟩:=hf 2 _ rfl
 obtain ⟨x2,r2,e2⟩:=(oAxs) enc W _ _ _ _ h2 w2
 change TRL _ _ _ (List.take (Tryz.prog.cellsOf 37) (List.drop 2 cs)) at e2
 rw [show Tryz.prog.cellsOf 37=1 by kernel_rfl] at e2
 obtain ⟨_,_,h3,w3⟩:=hf 3 _ rfl
 obtain ⟨x3,r3,e3⟩:=(oCns) enc W _ _ _ _ h3 w3
 change TRL _ _ _ (List.take (Tryz.prog.cellsOf 36) (List.drop 3 cs)) at e3
 rw [show Tryz.prog.cellsOf 36=1 by kernel_rfl] at e3
 obtain ⟨_,_,h4,w4⟩:=hf 4 _ rfl
 obtain ⟨x4,r4,e4⟩:=(oTes) enc W _ _ _ _ h4 w4
 change TRL _ _ _ (List.take (Tryz.prog.cellsOf 38) (List.drop 4 cs)) at e4
 rw [show Tryz.prog.cellsOf 38=1 by kernel_rfl] at e4
 obtain ⟨_,_,h5,w5⟩:=hf 5 _ rfl
 obtain ⟨x5,r5,e5⟩:=(oPas) enc W _ _ _ _ h5 w5
 change TRL _ _ _ (List.take (Tryz.prog.cellsOf 39) (List.drop 5 cs)) at e5
 rw [show Tryz.prog.cellsOf 39=1 by kernel_rfl] at e5
 obtain ⟨_,_,h6,w6⟩:=hf 6 _ rfl
 obtain ⟨x6,r6,e6⟩:=(oPas) enc W _ _ _ _ h6 w6
 change TRL _ _ _ (List.take (Tryz.prog.cellsOf 39) (List.drop 6 cs)) at e6
 rw [show Tryz.prog.cellsOf 39=1 by kernel_rfl] at e6
 have hh:=(TRL.piece (o:=0) (m:=1) e0 (TRL.piece (o:=1) (m:=1) e1 (TRL.piece (o:=2) (m:=1) e2 (TRL.piece (o:=3) (m:=1) e3 (TRL.piece (o:=4) (m:=1) e4 (TRL.piece (o:=5) (m:=1) e5 (TRL.piece (o:=6) (m:=1) e6 (TRL.done hlen))))))))
 exact ⟨⟨x0,x1,x2,x3,x4,x5,x6⟩,⟨r0.1,r1.1,r2.1,r3.1,r4.1,r5.1,r6.1,r2.2,r3.2,r4.2⟩,hh⟩
theorem open_row {r:Reach} {b0:Nat} {H:Type} {enc:TypeId×Value→H} {W:World} {v:Value} {d:DataW H} {ps:List MemPlace} (hv:Value.okWide Tryz.prog W r b0 43 v)
 (h:DataW.Trod enc Tryz.prog W 0 (fun _=>true) true 43 v d ps) (hw:∀ m∈d.weights Tryz.prog 43,m≤140737488351232) :
 ∃ l:List GVal,FitL l (fun y=>FitVal y)∧TR (LtB W.heap.size) W (.tree 3 (l.map gvA)) v:=by
 obtain ⟨a,len,cap,rfl⟩:=okWide_slice Tryz.underlying43 hv
 obtain ⟨fuel,hf⟩:=h
 obtain ⟨l,h1,h3⟩:=oRow enc W fuel _ d ps hf hw
 exact ⟨l,h1,h3.2 0 (by simp) (by simp [Value.cells])⟩
theorem open_vars {r:Reach} {b0:Nat} {H:Type} {enc:TypeId×Value→H} {W:World} {v:Value} {d:DataW H} {ps:List MemPlace} (hv:Value.okWide Tryz.prog W r b0 26 v)
 (h:DataW.Trod enc Tryz.prog W 0 (fun _=>true) true 26 v d ps) (hw:∀ m∈d.weights Tryz.prog 26,m≤140737488351232) :
 ∃ l:List PVar,FitL l (fun _=>True)∧TR (LtB W.heap.size) W (.tree 5 (l.map vA)) v:=by
 obtain ⟨a,len,cap,rfl⟩:=okWide_slice Tryz.underlying26 hv
 obtain ⟨fuel,hf⟩:=h
 obtain ⟨l,h1,h3⟩:=oVars enc W fuel _ d ps hf hw
 exact ⟨l,h1,h3.2 0 (by simp) (by simp [Value.cells])⟩
theorem open_clause {r:Reach} {b0:Nat} {H:Type} {enc:TypeId×Value→H} {W:World} {v:Value} {d:DataW H} {ps:List MemPlace} (hv:Value.okWide Tryz.prog W r b0 41 v)
 (h:DataW.Trod enc Tryz.prog W 0 (fun _=>true) true 41 v d ps) (hw:∀ m∈d.weights Tryz.prog 41,m≤140737488351232) :
 ∃ c:PCl,CFit c∧TR (LtB W.heap.size) W (.agg (clA c)) v:=by
 obtain ⟨cs,rfl,hsz⟩:=okWide_struct Tryz.underlying41 hv
 obtain ⟨fuel,hf⟩:=h
 obtain ⟨c,h1,h3⟩:=oCl enc W fuel _ d ps hf hw
 refine ⟨c,h1,.agg ?_ (fun i hi hi'=>?_)⟩
 ·have:=h3.1
  simpa [Value.cells] using this
 have:=h3.2 i hi (by simpa [Value.cells] using hi')
 simpa [Value.cells] using this
end Go.Proofs.YtbhhmbchdponjaaGreatDoor
