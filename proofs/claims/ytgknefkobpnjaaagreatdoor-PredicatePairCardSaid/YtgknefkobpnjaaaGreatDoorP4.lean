/- Texts of the claim. -/
import Derived.Test.YtgknefkobpnjaaaGreatDoorP3
namespace Go.Proofs.YtgknefkobpnjaaaGreatDoor
set_option linter.unusedVariables false
set_option linter.unusedSimpArgs false
open Go.RowKit
theorem pairN_t {σ:Int→Int} {p:Int×Int} (h:σ p.1 > σ p.2):pairN σ p=(σ p.2,σ p.1):=by
 unfold pairN
 rw [Int.min_eq_right (by omega),Int.max_eq_left (by omega)]
theorem pairN_f {σ:Int→Int} {p:Int×Int} (h:¬ σ p.1 > σ p.2):pairN σ p=(σ p.1,σ p.2):=by
 unfold pairN
 rw [Int.min_eq_left (by omega),Int.max_eq_right (by omega)]
/-- The clause with other names, as the reference gives it. -/
def clR (σ:Int→Int) (c:PCl):PCl:=⟨sortL (c.nul.map σ),sortL (c.nn.map σ),c.aux.map (axN σ),c.ints.map (cnN σ),c.tests.map (teN σ),c.same.map (pairN σ),c.diff.map (pairN σ)⟩
theorem fz_clR {σ:Int→Int} {c:PCl} {η:Heap} {u v w:Nat} (h4:η 5=some ⟨u,rF axA (c.aux.map (axN σ)),4,Nat.beq (c.aux.map (axN σ)).length 0⟩) (h5:η 6=some ⟨v,rF cnA (c.ints.map (cnN σ)),3,Nat.beq (c.ints.map (cnN σ)).length 0⟩) (h6:η 7=some ⟨w,rF teA (c.tests.map (teN σ)),4,Nat.beq (c.tests.map (teN σ)).length 0⟩) :
  FzP [5,6,7] η (.agg [isA (sortL (c.nul.map σ)),isA (sortL (c.nn.map σ)),.sl 5 u 0 (c.aux.map (axN σ)).length,.sl 6 v 0 (c.ints.map (cnN σ)).length,.sl 7 w 0 (c.tests.map (teN σ)).length,psA (c.same.map (pairN σ)),psA (c.diff.map (pairN σ))]) (.agg (clA (clR σ c))) :=
 .aggL (.cons (FzP.pure rfl) (.cons (FzP.pure rfl) (.cons (FzP.rows rowAx (by decide) h4) (.cons (FzP.rows rowCn (by decide) h5) (.cons (FzP.rows rowTe (by decide) h6) (.cons (FzP.pure rfl) (.cons (FzP.pure rfl) .nil)))))))
theorem bod60:bodied Tryz.prog 60=true:=by kernel_rfl
theorem bod62:bodied Tryz.prog 62=true:=by kernel_rfl
set_option maxRecDepth 100000 in
set_option maxHeartbeats 4000000 in
theorem ordered_p (to:List Int) (w N:Int) (ht:to.length≤1000) (hn0:0≤w) (hn:w≤1000000) (hN:N≤1000000) (l:List (Int×Int)) (hl:l.length≤1000) (hr:InP N l):PCall Tryz.prog 60 [psA l,isA to,.v (.int .i64 w)] (psA (l.map (pairN (renS to w)))):=by
 refine pB Tryz.func60 rfl Tryz.ntmps60 (Nat.le_of_ble_eq_true rfl) ?_
 refine wS (wR ?_)
 refine oL (lA (a:=.v _) rfl) rfl rfl ?_
 refine oN (aN (wS (wR ?_)))
 refine oL (lA (a:=.v _) rfl) rfl rfl ?_
 refine oN (aN (wS (wS (wR ?_))))
 refine oL (lA (a:=.v _) rfl) rfl rfl ?_
 refine oN (aN (wB ?_))
 refine AWP.lazyT 7 2 rfl 1 rfl ?_
 refine wL (fun n s=>∃ k:Nat,n=(l.length - k)∧s=⟨fL [(0,psA l),(1,isA to),(2,.v (.int .i64 w)),(7,.sl 0 k 0 ((l.take k).map (pairN (renS to w))).length),(8,.v (.int .i64 ((k:Nat):Int)))],hLz [(0,⟨k,rF paA ((l.take k).map (pairN (renS to w))),2,Nat.beq ((l.take k).map (pairN (renS to w))).length 0⟩)],1⟩∧(k≤l.length∧∀ j,j < k→(fun _=>true) j=true)) (n:=(l.length - 0)) (s1:=⟨fL [(0,psA l),(1,isA to),(2,.v (.int .i64 w)),(7,.sl 0 0 0 ((l.take 0).map (pairN (renS to w))).length),(8,.v (.int .i64 ((0:Nat):Int)))],hLz [(0,⟨0,rF paA ((l.take 0).map (pairN (renS to w))),2,Nat.beq ((l.take 0).map (pairN (renS to w))).length 0⟩)],1⟩) (cO (.cons rfl rfl (.cons rfl rfl (.cons rfl rfl (.cons (by first | rfl | (rw [hstep,hpa]; rfl) | (rw [hstep,hpa,List.length_append]; rfl)) rfl (.cons rfl rfl .nil))))) (.cons (by first | rfl | (rw [hstep,hpa]; rfl) | (rw [hstep,hpa,List.length_append]; rfl)) rfl (rF_low rowPa _ _) .nil)) ⟨0,rfl,rfl,⟨Nat.zero_le _,fun j h=>absurd h (Nat.not_lt_zero j)⟩⟩ ?_
 rintro n s ⟨k,rfl,rfl,hinv⟩
 obtain ⟨hk,hj⟩:=hinv
 have hml:((l.take k).map (pairN (renS to w))).length≤1000:=by rw [List.length_map,List.length_take]; omega
 refine wS (wS (wR ?_))
 refine oL (lM (a:=.v _) rfl) rfl rfl ?_
 refine oL (lM (a:=.tree _ _) rfl) rfl rfl ?_
 refine oL (lT rfl Tryz.underlying33 rfl) rfl rfl ?_
 refine oL (lP rfl (fun _ _=>nofun) (fun _=>rfl)) rfl rfl ?_
 refine oN (aN ?_)
 refine wC rfl (fun hc14=>?_) (fun hc14=>?_)
 ·skip
  have hlt:k < l.length:=Int.ofNat_lt.1 (of_decide_eq_true hc14)
  have hstep:((l.take (k+1)).map (pairN (renS to w)))=((l.take k).map (pairN (renS to w)))++[(pairN (renS to w)) l[k]]:=by rw [List.take_succ_eq_append_getElem hlt,List.map_append]; rfl
  refine wK (aN (wS (wB (wS (AWP.regD mixed ?_)))))
  refine qL (lM (a:=.tree _ _) rfl) rfl rfl ?_
  refine qL (lM (a:=.v _) rfl) rfl rfl ?_
  refine qL (lI Tryz.underlying33 sz26 rfl rfl (by first | assumption | omega)) rfl rfl ?_
  refine qL (LOp.indexArrT Tryz.underlying26 sz3 rfl rfl rfl) rfl rfl ?_
  refine qL (lE row3 rfl rfl) rfl rfl ?_
  refine qL (lM (a:=.tree _ _) rfl) rfl rfl ?_
  refine qL (lM (a:=.v _) rfl) rfl rfl ?_
  refine qL (LOp.call bod61 rfl (move_p to w l[k].1 ht hn0 hn (hr _ (List.getElem_mem _)).1.1 (Int.le_trans (hr _ (List.getElem_mem _)).1.2 hN))) rfl rfl ?_
  refine qL (lM (a:=.tree _ _) rfl) rfl rfl ?_
  refine qL (lM (a:=.v _) rfl) rfl rfl ?_
  refine qL (lI Tryz.underlying33 sz26 rfl rfl (by first | assumption | omega)) rfl rfl ?_
  refine qL (LOp.indexArrT Tryz.underlying26 sz3 rfl rfl rfl) rfl rfl ?_
  refine qL (lE row3 rfl rfl) rfl rfl ?_
  refine qL (lM (a:=.tree _ _) rfl) rfl rfl ?_
  refine qL (lM (a:=.v _) rfl) rfl rfl ?_
  refine qL (LOp.call bod61 rfl (move_p to w l[k].2 ht hn0 hn (hr _ (List.getElem_mem _)).2.1 (Int.le_trans (hr _ (List.getElem_mem _)).2.2 hN))) rfl rfl ?_
  refine qL (lA (a:=.v _) rfl) rfl rfl ?_
  refine qL (lA (a:=.v _) rfl) rfl rfl ?_
  refine SeqC.nil ⟨by kernel_rfl,?_⟩
  refine aN (wS (wS (wR ?_)))
  refine oL (lM (a:=.v _) rfl) rfl rfl ?_
  refine oL (lM (a:=.v _) rfl) rfl rfl ?_
  refine oL (lP rfl (fun _ _=>nofun) (fun _=>rfl)) rfl rfl ?_
  refine oN (aN ?_)
  refine wC rfl (fun hc35=>?_) (fun hc35=>?_)
  ·skip
   have hpa:pairN (renS to w) l[k]=((renS to w) l[k].2,(renS to w) l[k].1):=pairN_t (of_decide_eq_true hc35)
   refine wR ?_
   refine oL (lM (a:=.v _) rfl) rfl rfl ?_
   refine oL (lM (a:=.v _) rfl) rfl rfl ?_
   refine oL (lA (a:=.v _) rfl) rfl rfl ?_
   refine oL (lA (a:=.v _) rfl) rfl rfl ?_
   refine oN (aN (wR ?_))
   refine oL (lM (a:=.sl _ _ _ _) rfl) rfl rfl ?_
   refine oL (lM (a:=.v _) rfl) rfl rfl ?_
   refine oL (lM (a:=.v _) rfl) rfl rfl ?_
   refine oL (LOp.bd zr26 pl26 rfl rfl) rfl rfl ?_
   refine oW (LOp.bs Tryz.underlying33 sz26 zr26 rfl rfl rfl rfl) rfl rfl 2 rfl ?_
   refine AOps.gv (LOp.appRow rowPa (a:=((renS to w) l[k].2,(renS to w) l[k].1)) Tryz.underlying33 sz26 zr26 by26 rfl rfl rfl (Src.slB rfl rfl rfl rfl) rfl (by omega) (by omega) (by unfold TV; omega)) rfl rfl 2 rfl rfl ?_
   refine oL (lA (a:=.sl _ _ _ _) rfl) rfl rfl ?_
   refine oN (bN (aN (wR ?_)))
   refine oL (lM (a:=.v _) rfl) rfl rfl ?_
   refine oL (lJ rfl rfl (by omega) (by omega)) rfl rfl ?_
   refine oL (lA (a:=.v _) rfl) rfl rfl ?_
   refine oN (aN ?_)
   refine ⟨(l.length - (k+1)),⟨fL [(0,psA l),(1,isA to),(2,.v (.int .i64 w)),(7,.sl 0 (k+1) 0 ((l.take (k+1)).map (pairN (renS to w))).length),(8,.v (.int .i64 (((k+1):Nat):Int)))],hLz [(0,⟨(k+1),rF paA ((l.take (k+1)).map (pairN (renS to w))),2,Nat.beq ((l.take (k+1)).map (pairN (renS to w))).length 0⟩)],1⟩,by omega,(cO (.cons rfl rfl (.cons rfl rfl (.cons rfl rfl (.cons (by first | rfl | (rw [hstep,hpa]; rfl) | (rw [hstep,hpa,List.length_append]; rfl)) rfl (.cons rfl rfl .nil))))) (.cons (by first | rfl | (rw [hstep,hpa]; rfl) | (rw [hstep,hpa,List.length_append]; rfl)) rfl (rF_low rowPa _ _) .nil)),(k+1),rfl,rfl,?_⟩
   refine ⟨by omega,fun j h=>?_⟩
   rcases Nat.lt_succ_iff_lt_or_eq.1 h with h | rfl
   ·exact hj j h
   ·rfl
  ·skip
   have hpa:pairN (renS to w) l[k]=((renS to w) l[k].1,(renS to w) l[k].2):=pairN_f (of_decide_eq_false hc35)
   refine wK (aN (wR ?_))
   refine oL (lM (a:=.sl _ _ _ _) rfl) rfl rfl ?_
   refine oL (lM (a:=.v _) rfl) rfl rfl ?_
   refine oL (lM (a:=.v _) rfl) rfl rfl ?_
   refine oL (LOp.bd zr26 pl26 rfl rfl) rfl rfl ?_
   refine oW (LOp.bs Tryz.underlying33 sz26 zr26 rfl rfl rfl rfl) rfl rfl 2 rfl ?_
   refine AOps.gv (LOp.appRow rowPa (a:=((renS to w) l[k].1,(renS to w) l[k].2)) Tryz.underlying33 sz26 zr26 by26 rfl rfl rfl (Src.slB rfl rfl rfl rfl) rfl (by omega) (by omega) (by unfold TV; omega)) rfl rfl 2 rfl rfl ?_
   refine oL (lA (a:=.sl _ _ _ _) rfl) rfl rfl ?_
   refine oN (bN (aN (wR ?_)))
   refine oL (lM (a:=.v _) rfl) rfl rfl ?_
   refine oL (lJ rfl rfl (by omega) (by omega)) rfl rfl ?_
   refine oL (lA (a:=.v _) rfl) rfl rfl ?_
   refine oN (aN ?_)
   refine ⟨(l.length - (k+1)),⟨fL [(0,psA l),(1,isA to),(2,.v (.int .i64 w)),(7,.sl 0 (k+1) 0 ((l.take (k+1)).map (pairN (renS to w))).length),(8,.v (.int .i64 (((k+1):Nat):Int)))],hLz [(0,⟨(k+1),rF paA ((l.take (k+1)).map (pairN (renS to w))),2,Nat.beq ((l.take (k+1)).map (pairN (renS to w))).length 0⟩)],1⟩,by omega,(cO (.cons rfl rfl (.cons rfl rfl (.cons rfl rfl (.cons (by first | rfl | (rw [hstep,hpa]; rfl) | (rw [hstep,hpa,List.length_append]; rfl)) rfl (.cons rfl rfl .nil))))) (.cons (by first | rfl | (rw [hstep,hpa]; rfl) | (rw [hstep,hpa,List.length_append]; rfl)) rfl (rF_low rowPa _ _) .nil)),(k+1),rfl,rfl,?_⟩
   refine ⟨by omega,fun j h=>?_⟩
   rcases Nat.lt_succ_iff_lt_or_eq.1 h with h | rfl
   ·exact hj j h
   ·rfl
 ·skip
  have hge:¬ k < l.length:=fun h=>of_decide_eq_false hc14 (Int.ofNat_lt.2 h)
  refine AWP.exit (aE (aE (bE ?_)))
  refine aN (wS (wR ?_))
  refine oL (lM (a:=.sl _ _ _ _) rfl) rfl rfl ?_
  refine oL (lA (a:=.sl _ _ _ _) rfl) rfl rfl ?_
  refine oN (aN ?_)
  refine wT (?_)
  refine ⟨.inr rfl,Outs.tmp Tryz.results60 ?_⟩
  rw [List.take_of_length_le (by omega)]
  exact ⟨[0],FzP.rows rowPa (List.mem_singleton.2 rfl) rfl⟩
set_option maxRecDepth 100000 in
set_option maxHeartbeats 4000000 in
theorem renameR_p (to:List Int) (w N:Int) (ht:to.length≤1000) (hn0:0≤w) (hn:w≤1000000) (hN:N≤1000000) (hm:MonoN (renS to w) N) (c:PCl) (hc:c.In N):PCall Tryz.prog 27 [.agg (clA c),isA to,.v (.int .i64 w)] (.agg (clA (clR (renS to w) c))):=by
 have hnul:=hc.ok.nul
 have hnn:=hc.ok.nn
 have haux:=hc.ok.aux
 have hints:=hc.ok.ints
 have htests:=hc.ok.tests
 refine pB Tryz.func27 rfl Tryz.ntmps27 (Nat.le_of_ble_eq_true rfl) ?_
 refine wS (wR ?_)
 refine oW (LOp.bx rfl) rfl rfl 1 rfl ?_
 refine oW (LOp.al zr35 rfl) rfl rfl 2 rfl ?_
 refine oN (aN (wS (AWP.regD mixed ?_)))
 refine qL (lF fi35_5 rfl rfl rfl rfl rfl) rfl rfl ?_
 refine qL (lD row33 rfl rfl rfl rfl rfl) rfl rfl ?_
 refine qL (lM (a:=.tree _ _) rfl) rfl rfl ?_
 refine qL (lM (a:=.v _) rfl) rfl rfl ?_
 refine qL (LOp.call bod60 rfl (ordered_p to w N ht hn0 hn hN c.same hc.ok.same hc.same)) rfl rfl ?_
 refine qL (lF fi35_6 rfl rfl rfl rfl rfl) rfl rfl ?_
 refine qL (lD row33 rfl rfl rfl rfl rfl) rfl rfl ?_
 refine qL (lM (a:=.tree _ _) rfl) rfl rfl ?_
 refine qL (lM (a:=.v _) rfl) rfl rfl ?_
 refine qL (LOp.call bod60 rfl (ordered_p to w N ht hn0 hn hN c.diff hc.ok.diff hc.diff)) rfl rfl ?_
 refine qL (LOp.bd zr35 pl35 rfl rfl) rfl rfl ?_
 refine SeqC.nw (LOp.al zr35 rfl) rfl rfl 3 rfl ?_
 refine SeqC.wr (LOp.st sz35 rfl rfl rfl rfl rfl rfl rfl rfl) rfl rfl rfl ?_
 refine SeqC.nil ⟨by kernel_rfl,?_⟩
 refine aN (wS (wS (wR ?_)))
 refine oL (lA (a:=.v _) rfl) rfl rfl ?_
 refine oN (aN (wB ?_))
 refine AWP.lazyC 2 0 1 rfl rfl rfl rfl rfl 4 rfl ?_
 refine wL (fun n s=>∃ k:Nat,n=(c.nul.length - k)∧s=⟨fL [(1,isA to),(2,.v (.int .i64 w)),(3,.ptr 0 0 0),(6,.ptr 1 0 0),(7,.ptr 2 0 0),(8,.v (.int .i64 ((k:Nat):Int)))],hLz [(0,⟨0,clA c,0,false⟩),(1,⟨0,[.v (.slice none 0 0),.v (.slice none 0 0),.v (.slice none 0 0),.v (.slice none 0 0),.v (.slice none 0 0),.v (.slice none 0 0),.v (.slice none 0 0)],0,false⟩),(2,⟨0,[.sl 3 k 0 ((c.nul.take k).map ((renS to w))).length,.v (.slice none 0 0),.v (.slice none 0 0),.v (.slice none 0 0),.v (.slice none 0 0),psA (c.same.map (pairN (renS to w))),psA (c.diff.map (pairN (renS to w)))],0,false⟩),(3,⟨k,rF iA ((c.nul.take k).map ((renS to w))),1,Nat.beq ((c.nul.take k).map ((renS to w))).length 0⟩)],4⟩∧(k≤c.nul.length∧∀ j,j < k→(fun _=>true) j=true)) (n:=(c.nul.length - 0)) (s1:=⟨fL [(1,isA to),(2,.v (.int .i64 w)),(3,.ptr 0 0 0),(6,.ptr 1 0 0),(7,.ptr 2 0 0),(8,.v (.int .i64 ((0:Nat):Int)))],hLz [(0,⟨0,clA c,0,false⟩),(1,⟨0,[.v (.slice none 0 0),.v (.slice none 0 0),.v (.slice none 0 0),.v (.slice none 0 0),.v (.slice none 0 0),.v (.slice none 0 0),.v (.slice none 0 0)],0,false⟩),(2,⟨0,[.sl 3 0 0 ((c.nul.take 0).map ((renS to w))).length,.v (.slice none 0 0),.v (.slice none 0 0),.v (.slice none 0 0),.v (.slice none 0 0),psA (c.same.map (pairN (renS to w))),psA (c.diff.map (pairN (renS to w)))],0,false⟩),(3,⟨0,rF iA ((c.nul.take 0).map ((renS to w))),1,Nat.beq ((c.nul.take 0).map ((renS to w))).length 0⟩)],4⟩) (cO (.cons rfl rfl (.cons rfl rfl (.cons rfl rfl (.cons rfl rfl (.cons rfl rfl (.cons rfl rfl .nil)))))) (.cons rfl rfl rfl (.cons rfl rfl rfl (.cons (by first | rfl | (rw [hstep]; rfl) | (rw [hstep,List.length_append]; rfl) | (rw [hstep,hax]; rfl) | (rw [hstep,List.length_append,hax]; rfl)) rfl rfl (.cons (by first | rfl | (rw [hstep]; rfl) | (rw [hstep,List.length_append]; rfl) | (rw [hstep,hax]; rfl) | (rw [hstep,List.length_append,hax]; rfl)) rfl (rF_low rowI _ _) .nil))))) ⟨0,rfl,rfl,⟨Nat.zero_le _,fun j h=>absurd h (Nat.not_lt_zero j)⟩⟩ ?_
 rintro n s ⟨k,rfl,rfl,hinv⟩
 obtain ⟨hk,hj⟩:=hinv
 have hml:((c.nul.take k).map ((renS to w))).length≤1000:=by rw [List.length_map,List.length_take]; omega
 refine wS (wS (wR ?_))
 refine oL (lM (a:=.v _) rfl) rfl rfl ?_
 refine oL (lF fi35_0 rfl rfl rfl rfl rfl) rfl rfl ?_
 refine oL (lD row29 rfl rfl rfl rfl rfl) rfl rfl ?_
 refine oL (lT rfl Tryz.underlying29 rfl) rfl rfl ?_
 refine oL (lP rfl (fun _ _=>nofun) (fun _=>rfl)) rfl rfl ?_
 refine oN (aN ?_)
 refine wC rfl (fun hc30=>?_) (fun hc30=>?_)
 ·skip
  have hlt:k < c.nul.length:=Int.ofNat_lt.1 (of_decide_eq_true hc30)
  have hstep:((c.nul.take (k+1)).map ((renS to w)))=((c.nul.take k).map ((renS to w)))++[((renS to w)) c.nul[k]]:=by rw [List.take_succ_eq_append_getElem hlt,List.map_append]; rfl
  refine wK (aN (wS (wB (AWP.regD mixed ?_))))
  refine qL (lF fi35_0 rfl rfl rfl rfl rfl) rfl rfl ?_
  refine qL (lD row29 rfl rfl rfl rfl rfl) rfl rfl ?_
  refine qL (lF fi35_0 rfl rfl rfl rfl rfl) rfl rfl ?_
  refine qL (lD row29 rfl rfl rfl rfl rfl) rfl rfl ?_
  refine qL (lM (a:=.v _) rfl) rfl rfl ?_
  refine qL (lI Tryz.underlying29 sz3 rfl rfl (by first | assumption | omega)) rfl rfl ?_
  refine qL (lE row3 rfl rfl) rfl rfl ?_
  refine qL (lM (a:=.tree _ _) rfl) rfl rfl ?_
  refine qL (lM (a:=.v _) rfl) rfl rfl ?_
  refine qL (LOp.call bod61 rfl (move_p to w c.nul[k] ht hn0 hn (hc.nul _ (List.getElem_mem _)).1 (Int.le_trans (hc.nul _ (List.getElem_mem _)).2 hN))) rfl rfl ?_
  refine SeqC.nw (LOp.bs Tryz.underlying29 sz3 zr3 rfl rfl rfl rfl) rfl rfl 5 rfl ?_
  refine SeqC.gv (LOp.appRow rowI (a:=(renS to w) c.nul[k]) Tryz.underlying29 sz3 zr3 by3 rfl rfl rfl (Src.slB rfl rfl rfl rfl) rfl (by omega) (by omega) (by unfold TV; omega)) rfl rfl 5 rfl rfl ?_
  refine qL (lF fi35_0 rfl rfl rfl rfl rfl) rfl rfl ?_
  refine SeqC.wr (LOp.st sz29 rfl rfl rfl rfl rfl rfl rfl rfl) rfl rfl rfl ?_
  refine SeqC.nil ⟨by kernel_rfl,?_⟩
  refine bN (aN (wR ?_))
  refine oL (lM (a:=.v _) rfl) rfl rfl ?_
  refine oL (lJ rfl rfl (by omega) (by omega)) rfl rfl ?_
  refine oL (lA (a:=.v _) rfl) rfl rfl ?_
  refine oN (aN ?_)
  refine ⟨(c.nul.length - (k+1)),⟨fL [(1,isA to),(2,.v (.int .i64 w)),(3,.ptr 0 0 0),(6,.ptr 1 0 0),(7,.ptr 2 0 0),(8,.v (.int .i64 (((k+1):Nat):Int)))],hLz [(0,⟨0,clA c,0,false⟩),(1,⟨0,[.v (.slice none 0 0),.v (.slice none 0 0),.v (.slice none 0 0),.v (.slice none 0 0),.v (.slice none 0 0),.v (.slice none 0 0),.v (.slice none 0 0)],0,false⟩),(2,⟨0,[.sl 3 (k+1) 0 ((c.nul.take (k+1)).map ((renS to w))).length,.v (.slice none 0 0),.v (.slice none 0 0),.v (.slice none 0 0),.v (.slice none 0 0),psA (c.same.map (pairN (renS to w))),psA (c.diff.map (pairN (renS to w)))],0,false⟩),(3,⟨(k+1),rF iA ((c.nul.take (k+1)).map ((renS to w))),1,Nat.beq ((c.nul.take (k+1)).map ((renS to w))).length 0⟩)],4⟩,by omega,(cO (.cons rfl rfl (.cons rfl rfl (.cons rfl rfl (.cons rfl rfl (.cons rfl rfl (.cons rfl rfl .nil)))))) (.cons rfl rfl rfl (.cons rfl rfl rfl (.cons (by first | rfl | (rw [hstep]; rfl) | (rw [hstep,List.length_append]; rfl) | (rw [hstep,hax]; rfl) | (rw [hstep,List.length_append,hax]; rfl)) rfl rfl (.cons (by first | rfl | (rw [hstep]; rfl) | (rw [hstep,List.length_append]; rfl) | (rw [hstep,hax]; rfl) | (rw [hstep,List.length_append,hax]; rfl)) rfl (rF_low rowI _ _) .nil))))),(k+1),rfl,rfl,?_⟩
  refine ⟨by omega,fun j h=>?_⟩
  rcases Nat.lt_succ_iff_lt_or_eq.1 h with h | rfl
  ·exact hj j h
  ·rfl
 ·skip
  have hge:¬ k < c.nul.length:=fun h=>of_decide_eq_false hc30 (Int.ofNat_lt.2 h)
  have hkl:k=c.nul.length:=by omega
  subst hkl
  clear hj hk hge
  refine AWP.exit (aE (aE (bE ?_)))
  refine aN (wS (wS (wR ?_)))
  refine oL (lA (a:=.v _) rfl) rfl rfl ?_
  refine oN (aN (wB ?_))
  refine AWP.lazyC 2 1 1 rfl rfl rfl rfl rfl 5 rfl ?_
  refine wL (fun n s=>∃ k2:Nat,n=(c.nn.length - k2)∧s=⟨fL [(1,isA to),(2,.v (.int .i64 w)),(3,.ptr 0 0 0),(6,.ptr 1 0 0),(7,.ptr 2 0 0),(9,.v (.int .i64 ((k2:Nat):Int)))],hLz [(0,⟨0,clA c,0,false⟩),(1,⟨0,[.v (.slice none 0 0),.v (.slice none 0 0),.v (.slice none 0 0),.v (.slice none 0 0),.v (.slice none 0 0),.v (.slice none 0 0),.v (.slice none 0 0)],0,false⟩),(2,⟨0,[.sl 3 c.nul.length 0 ((c.nul.take c.nul.length).map ((renS to w))).length,.sl 4 k2 0 ((c.nn.take k2).map ((renS to w))).length,.v (.slice none 0 0),.v (.slice none 0 0),.v (.slice none 0 0),psA (c.same.map (pairN (renS to w))),psA (c.diff.map (pairN (renS to w)))],0,false⟩),(3,⟨c.nul.length,rF iA ((c.nul.take c.nul.length).map ((renS to w))),1,Nat.beq ((c.nul.take c.nul.length).map ((renS to w))).length 0⟩),(4,⟨k2,rF iA ((c.nn.take k2).map ((renS to w))),1,Nat.beq ((c.nn.take k2).map ((renS to w))).length 0⟩)],5⟩∧(k2≤c.nn.length∧∀ j,j < k2→(fun _=>true) j=true)) (n:=(c.nn.length - 0)) (s1:=⟨fL [(1,isA to),(2,.v (.int .i64 w)),(3,.ptr 0 0 0),(6,.ptr 1 0 0),(7,.ptr 2 0 0),(9,.v (.int .i64 ((0:Nat):Int)))],hLz [(0,⟨0,clA c,0,false⟩),(1,⟨0,[.v (.slice none 0 0),.v (.slice none 0 0),.v (.slice none 0 0),.v (.slice none 0 0),.v (.slice none 0 0),.v (.slice none 0 0),.v (.slice none 0 0)],0,false⟩),(2,⟨0,[.sl 3 c.nul.length 0 ((c.nul.take c.nul.length).map ((renS to w))).length,.sl 4 0 0 ((c.nn.take 0).map ((renS to w))).length,.v (.slice none 0 0),.v (.slice none 0 0),.v (.slice none 0 0),psA (c.same.map (pairN (renS to w))),psA (c.diff.map (pairN (renS to w)))],0,false⟩),(3,⟨c.nul.length,rF iA ((c.nul.take c.nul.length).map ((renS to w))),1,Nat.beq ((c.nul.take c.nul.length).map ((renS to w))).length 0⟩),(4,⟨0,rF iA ((c.nn.take 0).map ((renS to w))),1,Nat.beq ((c.nn.take 0).map ((renS to w))).length 0⟩)],5⟩) (cO (.cons rfl rfl (.cons rfl rfl (.cons rfl rfl (.cons rfl rfl (.cons rfl rfl (.cons rfl rfl .nil)))))) (.cons rfl rfl rfl (.cons rfl rfl rfl (.cons (by first | rfl | (rw [hstep]; rfl) | (rw [hstep,List.length_append]; rfl) | (rw [hstep,hax]; rfl) | (rw [hstep,List.length_append,hax]; rfl)) rfl rfl (.cons rfl rfl (rF_low rowI _ _) (.cons (by first | rfl | (rw [hstep]; rfl) | (rw [hstep,List.length_append]; rfl) | (rw [hstep,hax]; rfl) | (rw [hstep,List.length_append,hax]; rfl)) rfl (rF_low rowI _ _) .nil)))))) ⟨0,rfl,rfl,⟨Nat.zero_le _,fun j h=>absurd h (Nat.not_lt_zero j)⟩⟩ ?_
  rintro n s ⟨k2,rfl,rfl,hinv⟩
  obtain ⟨hk,hj⟩:=hinv
  have hml:((c.nn.take k2).map ((renS to w))).length≤1000:=by rw [List.length_map,List.length_take]; omega
  refine wS (wS (wR ?_))
  refine oL (lM (a:=.v _) rfl) rfl rfl ?_
  refine oL (lF fi35_1 rfl rfl rfl rfl rfl) rfl rfl ?_
  refine oL (lD row29 rfl rfl rfl rfl rfl) rfl rfl ?_
  refine oL (lT rfl Tryz.underlying29 rfl) rfl rfl ?_
  refine oL (lP rfl (fun _ _=>nofun) (fun _=>rfl)) rfl rfl ?_
  refine oN (aN ?_)
  refine wC rfl (fun hc50=>?_) (fun hc50=>?_)
  ·skip
   have hlt:k2 < c.nn.length:=Int.ofNat_lt.1 (of_decide_eq_true hc50)
   have hstep:((c.nn.take (k2+1)).map ((renS to w)))=((c.nn.take k2).map ((renS to w)))++[((renS to w)) c.nn[k2]]:=by rw [List.take_succ_eq_append_getElem hlt,List.map_append]; rfl
   refine wK (aN (wS (wB (AWP.regD mixed ?_))))
   refine qL (lF fi35_1 rfl rfl rfl rfl rfl) rfl rfl ?_
   refine qL (lD row29 rfl rfl rfl rfl rfl) rfl rfl ?_
   refine qL (lF fi35_1 rfl rfl rfl rfl rfl) rfl rfl ?_
   refine qL (lD row29 rfl rfl rfl rfl rfl) rfl rfl ?_
   refine qL (lM (a:=.v _) rfl) rfl rfl ?_
   refine qL (lI Tryz.underlying29 sz3 rfl rfl (by first | assumption | omega)) rfl rfl ?_
   refine qL (lE row3 rfl rfl) rfl rfl ?_
   refine qL (lM (a:=.tree _ _) rfl) rfl rfl ?_
   refine qL (lM (a:=.v _) rfl) rfl rfl ?_
   refine qL (LOp.call bod61 rfl (move_p to w c.nn[k2] ht hn0 hn (hc.nn _ (List.getElem_mem _)).1 (Int.le_trans (hc.nn _ (List.getElem_mem _)).2 hN))) rfl rfl ?_
   refine SeqC.nw (LOp.bs Tryz.underlying29 sz3 zr3 rfl rfl rfl rfl) rfl rfl 6 rfl ?_
   refine SeqC.gv (LOp.appRow rowI (a:=(renS to w) c.nn[k2]) Tryz.underlying29 sz3 zr3 by3 rfl rfl rfl (Src.slB rfl rfl rfl rfl) rfl (by omega) (by omega) (by unfold TV; omega)) rfl rfl 6 rfl rfl ?_
   refine qL (lF fi35_1 rfl rfl rfl rfl rfl) rfl rfl ?_
   refine SeqC.wr (LOp.st sz29 rfl rfl rfl rfl rfl rfl rfl rfl) rfl rfl rfl ?_
   refine SeqC.nil ⟨by kernel_rfl,?_⟩
   refine bN (aN (wR ?_))
   refine oL (lM (a:=.v _) rfl) rfl rfl ?_
   refine oL (lJ rfl rfl (by omega) (by omega)) rfl rfl ?_
   refine oL (lA (a:=.v _) rfl) rfl rfl ?_
   refine oN (aN ?_)
   refine ⟨(c.nn.length - (k2+1)),⟨fL [(1,isA to),(2,.v (.int .i64 w)),(3,.ptr 0 0 0),(6,.ptr 1 0 0),(7,.ptr 2 0 0),(9,.v (.int .i64 (((k2+1):Nat):Int)))],hLz [(0,⟨0,clA c,0,false⟩),(1,⟨0,[.v (.slice none 0 0),.v (.slice none 0 0),.v (.slice none 0 0),.v (.slice none 0 0),.v (.slice none 0 0),.v (.slice none 0 0),.v (.slice none 0 0)],0,false⟩),(2,⟨0,[.sl 3 c.nul.length 0 ((c.nul.take c.nul.length).map ((renS to w))).length,.sl 4 (k2+1) 0 ((c.nn.take (k2+1)).map ((renS to w))).length,.v (.slice none 0 0),.v (.slice none 0 0),.v (.slice none 0 0),psA (c.same.map (pairN (renS to w))),psA (c.diff.map (pairN (renS to w)))],0,false⟩),(3,⟨c.nul.length,rF iA ((c.nul.take c.nul.length).map ((renS to w))),1,Nat.beq ((c.nul.take c.nul.length).map ((renS to w))).length 0⟩),(4,⟨(k2+1),rF iA ((c.nn.take (k2+1)).map ((renS to w))),1,Nat.beq ((c.nn.take (k2+1)).map ((renS to w))).length 0⟩)],5⟩,by omega,(cO (.cons rfl rfl (.cons rfl rfl (.cons rfl rfl (.cons rfl rfl (.cons rfl rfl (.cons rfl rfl .nil)))))) (.cons rfl rfl rfl (.cons rfl rfl rfl (.cons (by first | rfl | (rw [hstep]; rfl) | (rw [hstep,List.length_append]; rfl) | (rw [hstep,hax]; rfl) | (rw [hstep,List.length_append,hax]; rfl)) rfl rfl (.cons rfl rfl (rF_low rowI _ _) (.cons (by first | rfl | (rw [hstep]; rfl) | (rw [hstep,List.length_append]; rfl) | (rw [hstep,hax]; rfl) | (rw [hstep,List.length_append,hax]; rfl)) rfl (rF_low rowI _ _) .nil)))))),(k2+1),rfl,rfl,?_⟩
   refine ⟨by omega,fun j h=>?_⟩
   rcases Nat.lt_succ_iff_lt_or_eq.1 h with h | rfl
   ·exact hj j h
   ·rfl
  ·skip
   have hge:¬ k2 < c.nn.length:=fun h=>of_decide_eq_false hc50 (Int.ofNat_lt.2 h)
   have hkl:k2=c.nn.length:=by omega
   subst hkl
   clear hj hk hge
   rw [List.take_length,List.take_length]
   refine AWP.exit (aE (aE (bE ?_)))
   refine aN (wS (AWP.regD mixed ?_))
   refine qL (lF fi35_0 rfl rfl rfl rfl rfl) rfl rfl ?_
   refine qL (lD row29 rfl rfl rfl rfl rfl) rfl rfl ?_
   refine SeqC.gv (LOp.callF [3] bod59 rfl (fun j h h'=>match j,h with | 0,_=>FzP.rows rowI (List.mem_singleton.2 rfl) rfl) (use1 rfl) (sortR_p (c.nul.map (renS to w)) (by rw [List.length_map]; exact Nat.le_trans hc.ok.nul (by decide)))) rfl rfl 5 rfl rfl ?_
   refine qL (lF fi35_1 rfl rfl rfl rfl rfl) rfl rfl ?_
   refine qL (lD row29 rfl rfl rfl rfl rfl) rfl rfl ?_
   refine SeqC.gv (LOp.callF [4] bod59 rfl (fun j h h'=>match j,h with | 0,_=>FzP.rows rowI (List.mem_singleton.2 rfl) rfl) (use1 rfl) (sortR_p (c.nn.map (renS to w)) (by rw [List.length_map]; exact Nat.le_trans hc.ok.nn (by decide)))) rfl rfl 5 rfl rfl ?_
   refine qL (lF fi35_0 rfl rfl rfl rfl rfl) rfl rfl ?_
   refine SeqC.wr (LOp.st sz29 rfl rfl rfl rfl rfl rfl rfl rfl) rfl rfl rfl ?_
   refine qL (lF fi35_1 rfl rfl rfl rfl rfl) rfl rfl ?_
   refine SeqC.wr (LOp.st sz29 rfl rfl rfl rfl rfl rfl rfl rfl) rfl rfl rfl ?_
   refine SeqC.nil ⟨by kernel_rfl,?_⟩
   refine aN (wS (wS (wR ?_)))
   refine oL (lA (a:=.v _) rfl) rfl rfl ?_
   refine oN (aN (wB ?_))
   refine AWP.lazyC 2 2 4 rfl rfl rfl rfl rfl 6 rfl ?_
   refine wL (fun n s=>∃ k3:Nat,n=(c.aux.length - k3)∧s=⟨fL [(1,isA to),(2,.v (.int .i64 w)),(3,.ptr 0 0 0),(6,.ptr 1 0 0),(7,.ptr 2 0 0),(10,.v (.int .i64 ((k3:Nat):Int)))],hLz [(0,⟨0,clA c,0,false⟩),(1,⟨0,[.v (.slice none 0 0),.v (.slice none 0 0),.v (.slice none 0 0),.v (.slice none 0 0),.v (.slice none 0 0),.v (.slice none 0 0),.v (.slice none 0 0)],0,false⟩),(2,⟨0,[isA (sortL (c.nul.map (renS to w))),isA (sortL (c.nn.map (renS to w))),.sl 5 k3 0 ((c.aux.take k3).map (axN (renS to w))).length,.v (.slice none 0 0),.v (.slice none 0 0),psA (c.same.map (pairN (renS to w))),psA (c.diff.map (pairN (renS to w)))],0,false⟩),(5,⟨k3,rF axA ((c.aux.take k3).map (axN (renS to w))),4,Nat.beq ((c.aux.take k3).map (axN (renS to w))).length 0⟩)],6⟩∧(k3≤c.aux.length∧∀ j,j < k3→(fun _=>true) j=true)) (n:=(c.aux.length - 0)) (s1:=⟨fL [(1,isA to),(2,.v (.int .i64 w)),(3,.ptr 0 0 0),(6,.ptr 1 0 0),(7,.ptr 2 0 0),(10,.v (.int .i64 ((0:Nat):Int)))],hLz [(0,⟨0,clA c,0,false⟩),(1,⟨0,[.v (.slice none 0 0),.v (.slice none 0 0),.v (.slice none 0 0),.v (.slice none 0 0),.v (.slice none 0 0),.v (.slice none 0 0),.v (.slice none 0 0)],0,false⟩),(2,⟨0,[isA (sortL (c.nul.map (renS to w))),isA (sortL (c.nn.map (renS to w))),.sl 5 0 0 ((c.aux.take 0).map (axN (renS to w))).length,.v (.slice none 0 0),.v (.slice none 0 0),psA (c.same.map (pairN (renS to w))),psA (c.diff.map (pairN (renS to w)))],0,false⟩),(5,⟨0,rF axA ((c.aux.take 0).map (axN (renS to w))),4,Nat.beq ((c.aux.take 0).map (axN (renS to w))).length 0⟩)],6⟩) (cO (.cons rfl rfl (.cons rfl rfl (.cons rfl rfl (.cons rfl rfl (.cons rfl rfl (.cons rfl rfl .nil)))))) (.cons rfl rfl rfl (.cons rfl rfl rfl (.cons (by first | rfl | (rw [hstep]; rfl) | (rw [hstep,List.length_append]; rfl) | (rw [hstep,hax]; rfl) | (rw [hstep,List.length_append,hax]; rfl)) rfl rfl (.cons (by first | rfl | (rw [hstep]; rfl) | (rw [hstep,List.length_append]; rfl) | (rw [hstep,hax]; rfl) | (rw [hstep,List.length_append,hax]; rfl)) rfl (rF_low rowAx _ _) .nil))))) ⟨0,rfl,rfl,⟨Nat.zero_le _,fun j h=>absurd h (Nat.not_lt_zero j)⟩⟩ ?_
   rintro n s ⟨k3,rfl,rfl,hinv⟩
   obtain ⟨hk,hj⟩:=hinv
   have hml:((c.aux.take k3).map (axN (renS to w))).length≤1000:=by rw [List.length_map,List.length_take]; omega
   refine wS (wS (wR ?_))
   refine oL (lM (a:=.v _) rfl) rfl rfl ?_
   refine oL (lF fi35_2 rfl rfl rfl rfl rfl) rfl rfl ?_
   refine oL (lD row30 rfl rfl rfl rfl rfl) rfl rfl ?_
   refine oL (lT rfl Tryz.underlying30 rfl) rfl rfl ?_
   refine oL (lP rfl (fun _ _=>nofun) (fun _=>rfl)) rfl rfl ?_
   refine oN (aN ?_)
   refine wC rfl (fun hc78=>?_) (fun hc78=>?_)
   ·skip
    have hlt:k3 < c.aux.length:=Int.ofNat_lt.1 (of_decide_eq_true hc78)
    have hstep:((c.aux.take (k3+1)).map (axN (renS to w)))=((c.aux.take k3).map (axN (renS to w)))++[(axN (renS to w)) c.aux[k3]]:=by rw [List.take_succ_eq_append_getElem hlt,List.map_append]; rfl
    refine wK (aN (wS (wB (wS (wR ?_)))))
    refine oL (lF fi35_2 rfl rfl rfl rfl rfl) rfl rfl ?_
    refine oL (lD row30 rfl rfl rfl rfl rfl) rfl rfl ?_
    refine oL (lM (a:=.v _) rfl) rfl rfl ?_
    refine oL (lI Tryz.underlying30 sz81 rfl rfl (by first | assumption | omega)) rfl rfl ?_
    refine oL (LOp.ldTN row81 rfl rfl) rfl rfl ?_
    refine oW (LOp.al zr81 rfl) rfl rfl 7 rfl ?_
    refine AOps.wr (LOp.st sz81 rfl rfl rfl rfl rfl rfl rfl rfl) rfl rfl rfl ?_
    refine oN (aN (wS (wR ?_)))
    refine oL (lF fi81_0 rfl rfl rfl rfl rfl) rfl rfl ?_
    refine oL (LOp.ldN row79 rfl rfl rfl rfl rfl) rfl rfl ?_
    refine oL (lM (a:=.tree _ _) rfl) rfl rfl ?_
    refine oL (lM (a:=.v _) rfl) rfl rfl ?_
    refine oL (LOp.call bod62 rfl (moved_p to w N ht hn0 hn hN hm c.aux[k3].of_ (hc.auxf _ (List.getElem_mem _)))) rfl rfl ?_
    refine oL (lF fi81_0 rfl rfl rfl rfl rfl) rfl rfl ?_
    refine AOps.wr (LOp.st sz79 rfl rfl rfl rfl rfl rfl rfl rfl) rfl rfl rfl ?_
    refine oN (aN (wS (wS (wR ?_))))
    refine oL (lF fi81_1 rfl rfl rfl rfl rfl) rfl rfl ?_
    refine oL (lD row2 rfl rfl rfl rfl rfl) rfl rfl ?_
    refine oL (lP rfl (fun _ _=>nofun) (fun _=>rfl)) rfl rfl ?_
    refine oN (aN ?_)
    refine wC rfl (fun hc94=>?_) (fun hc94=>?_)
    ·skip
     have hby:c.aux[k3].by_=0:=by simpa using hc94
     have hax:=ax_t (σ:=(renS to w)) hby
     refine wR ?_
     refine oL (lF fi81_2 rfl rfl rfl rfl rfl) rfl rfl ?_
     refine oL (lD row3 rfl rfl rfl rfl rfl) rfl rfl ?_
     refine oL (lM (a:=.tree _ _) rfl) rfl rfl ?_
     refine oL (lM (a:=.v _) rfl) rfl rfl ?_
     refine oL (LOp.call bod61 rfl (move_p to w c.aux[k3].tx ht hn0 hn (hc.auxt _ (List.getElem_mem _) hby).1 (Int.le_trans (hc.auxt _ (List.getElem_mem _) hby).2 hN))) rfl rfl ?_
     refine oL (lF fi81_2 rfl rfl rfl rfl rfl) rfl rfl ?_
     refine AOps.wr (LOp.st sz3 rfl rfl rfl rfl rfl rfl rfl rfl) rfl rfl rfl ?_
     refine oN (aN (wR ?_))
     refine oL (lF fi35_2 rfl rfl rfl rfl rfl) rfl rfl ?_
     refine oL (lD row30 rfl rfl rfl rfl rfl) rfl rfl ?_
     refine oL (LOp.ldN row81 rfl rfl rfl rfl rfl) rfl rfl ?_
     refine oW (LOp.bs Tryz.underlying30 sz81 zr81 rfl rfl rfl rfl) rfl rfl 8 rfl ?_
     refine AOps.gv (LOp.appRow rowAx (a:=⟨liN (renS to w) c.aux[k3].of_,c.aux[k3].by_,(renS to w) c.aux[k3].tx⟩) Tryz.underlying30 sz81 zr81 by81 rfl rfl rfl (Src.slB rfl rfl rfl rfl) rfl (by omega) (by omega) (by unfold TV; omega)) rfl rfl 8 rfl rfl ?_
     refine oL (lF fi35_2 rfl rfl rfl rfl rfl) rfl rfl ?_
     refine AOps.wr (LOp.st sz30 rfl rfl rfl rfl rfl rfl rfl rfl) rfl rfl rfl ?_
     refine oN (bN (aN (wR ?_)))
     refine oL (lM (a:=.v _) rfl) rfl rfl ?_
     refine oL (lJ rfl rfl (by omega) (by omega)) rfl rfl ?_
     refine oL (lA (a:=.v _) rfl) rfl rfl ?_
     refine oN (aN ?_)
     refine ⟨(c.aux.length - (k3+1)),⟨fL [(1,isA to),(2,.v (.int .i64 w)),(3,.ptr 0 0 0),(6,.ptr 1 0 0),(7,.ptr 2 0 0),(10,.v (.int .i64 (((k3+1):Nat):Int)))],hLz [(0,⟨0,clA c,0,false⟩),(1,⟨0,[.v (.slice none 0 0),.v (.slice none 0 0),.v (.slice none 0 0),.v (.slice none 0 0),.v (.slice none 0 0),.v (.slice none 0 0),.v (.slice none 0 0)],0,false⟩),(2,⟨0,[isA (sortL (c.nul.map (renS to w))),isA (sortL (c.nn.map (renS to w))),.sl 5 (k3+1) 0 ((c.aux.take (k3+1)).map (axN (renS to w))).length,.v (.slice none 0 0),.v (.slice none 0 0),psA (c.same.map (pairN (renS to w))),psA (c.diff.map (pairN (renS to w)))],0,false⟩),(5,⟨(k3+1),rF axA ((c.aux.take (k3+1)).map (axN (renS to w))),4,Nat.beq ((c.aux.take (k3+1)).map (axN (renS to w))).length 0⟩)],6⟩,by omega,(cO (.cons rfl rfl (.cons rfl rfl (.cons rfl rfl (.cons rfl rfl (.cons rfl rfl (.cons rfl rfl .nil)))))) (.cons rfl rfl rfl (.cons rfl rfl rfl (.cons (by first | rfl | (rw [hstep]; rfl) | (rw [hstep,List.length_append]; rfl) | (rw [hstep,hax]; rfl) | (rw [hstep,List.length_append,hax]; rfl)) rfl rfl (.cons (by first | rfl | (rw [hstep]; rfl) | (rw [hstep,List.length_append]; rfl) | (rw [hstep,hax]; rfl) | (rw [hstep,List.length_append,hax]; rfl)) rfl (rF_low rowAx _ _) .nil))))),(k3+1),rfl,rfl,?_⟩
     refine ⟨by omega,fun j h=>?_⟩
     rcases Nat.lt_succ_iff_lt_or_eq.1 h with h | rfl
     ·exact hj j h
     ·rfl
    ·skip
     have hby:¬ c.aux[k3].by_=0:=by simpa using hc94
     have hax:=ax_f (σ:=(renS to w)) hby
     refine wK (aN (wR ?_))
     refine oL (lF fi35_2 rfl rfl rfl rfl rfl) rfl rfl ?_
     refine oL (lD row30 rfl rfl rfl rfl rfl) rfl rfl ?_
     refine oL (LOp.ldN row81 rfl rfl rfl rfl rfl) rfl rfl ?_
     refine oW (LOp.bs Tryz.underlying30 sz81 zr81 rfl rfl rfl rfl) rfl rfl 8 rfl ?_
     refine AOps.gv (LOp.appRow rowAx (a:=⟨liN (renS to w) c.aux[k3].of_,c.aux[k3].by_,c.aux[k3].tx⟩) Tryz.underlying30 sz81 zr81 by81 rfl rfl rfl (Src.slB rfl rfl rfl rfl) rfl (by omega) (by omega) (by unfold TV; omega)) rfl rfl 8 rfl rfl ?_
     refine oL (lF fi35_2 rfl rfl rfl rfl rfl) rfl rfl ?_
     refine AOps.wr (LOp.st sz30 rfl rfl rfl rfl rfl rfl rfl rfl) rfl rfl rfl ?_
     refine oN (bN (aN (wR ?_)))
     refine oL (lM (a:=.v _) rfl) rfl rfl ?_
     refine oL (lJ rfl rfl (by omega) (by omega)) rfl rfl ?_
     refine oL (lA (a:=.v _) rfl) rfl rfl ?_
     refine oN (aN ?_)
     refine ⟨(c.aux.length - (k3+1)),⟨fL [(1,isA to),(2,.v (.int .i64 w)),(3,.ptr 0 0 0),(6,.ptr 1 0 0),(7,.ptr 2 0 0),(10,.v (.int .i64 (((k3+1):Nat):Int)))],hLz [(0,⟨0,clA c,0,false⟩),(1,⟨0,[.v (.slice none 0 0),.v (.slice none 0 0),.v (.slice none 0 0),.v (.slice none 0 0),.v (.slice none 0 0),.v (.slice none 0 0),.v (.slice none 0 0)],0,false⟩),(2,⟨0,[isA (sortL (c.nul.map (renS to w))),isA (sortL (c.nn.map (renS to w))),.sl 5 (k3+1) 0 ((c.aux.take (k3+1)).map (axN (renS to w))).length,.v (.slice none 0 0),.v (.slice none 0 0),psA (c.same.map (pairN (renS to w))),psA (c.diff.map (pairN (renS to w)))],0,false⟩),(5,⟨(k3+1),rF axA ((c.aux.take (k3+1)).map (axN (renS to w))),4,Nat.beq ((c.aux.take (k3+1)).map (axN (renS to w))).length 0⟩)],6⟩,by omega,(cO (.cons rfl rfl (.cons rfl rfl (.cons rfl rfl (.cons rfl rfl (.cons rfl rfl (.cons rfl rfl .nil)))))) (.cons rfl rfl rfl (.cons rfl rfl rfl (.cons (by first | rfl | (rw [hstep]; rfl) | (rw [hstep,List.length_append]; rfl) | (rw [hstep,hax]; rfl) | (rw [hstep,List.length_append,hax]; rfl)) rfl rfl (.cons (by first | rfl | (rw [hstep]; rfl) | (rw [hstep,List.length_append]; rfl) | (rw [hstep,hax]; rfl) | (rw [hstep,List.length_append,hax]; rfl)) rfl (rF_low rowAx _ _) .nil))))),(k3+1),rfl,rfl,?_⟩
     refine ⟨by omega,fun j h=>?_⟩
     rcases Nat.lt_succ_iff_lt_or_eq.1 h with h | rfl
     ·exact hj j h
     ·rfl
   ·skip
    have hge:¬ k3 < c.aux.length:=fun h=>of_decide_eq_false hc78 (Int.ofNat_lt.2 h)
    have hkl:k3=c.aux.length:=by omega
    subst hkl
    clear hj hk hge
    refine AWP.exit (aE (aE (bE ?_)))
    refine aN (wS (wS (wR ?_)))
    refine oL (lA (a:=.v _) rfl) rfl rfl ?_
    refine oN (aN (wB ?_))
    refine AWP.lazyC 2 3 3 rfl rfl rfl rfl rfl 7 rfl ?_
    refine wL (fun n s=>∃ k4:Nat,n=(c.ints.length - k4)∧s=⟨fL [(1,isA to),(2,.v (.int .i64 w)),(3,.ptr 0 0 0),(6,.ptr 1 0 0),(7,.ptr 2 0 0),(12,.v (.int .i64 ((k4:Nat):Int)))],hLz [(0,⟨0,clA c,0,false⟩),(1,⟨0,[.v (.slice none 0 0),.v (.slice none 0 0),.v (.slice none 0 0),.v (.slice none 0 0),.v (.slice none 0 0),.v (.slice none 0 0),.v (.slice none 0 0)],0,false⟩),(2,⟨0,[isA (sortL (c.nul.map (renS to w))),isA (sortL (c.nn.map (renS to w))),.sl 5 c.aux.length 0 ((c.aux.take c.aux.length).map (axN (renS to w))).length,.sl 6 k4 0 ((c.ints.take k4).map (cnN (renS to w))).length,.v (.slice none 0 0),psA (c.same.map (pairN (renS to w))),psA (c.diff.map (pairN (renS to w)))],0,false⟩),(5,⟨c.aux.length,rF axA ((c.aux.take c.aux.length).map (axN (renS to w))),4,Nat.beq ((c.aux.take c.aux.length).map (axN (renS to w))).length 0⟩),(6,⟨k4,rF cnA ((c.ints.take k4).map (cnN (renS to w))),3,Nat.beq ((c.ints.take k4).map (cnN (renS to w))).length 0⟩)],7⟩∧(k4≤c.ints.length∧∀ j,j < k4→(fun _=>true) j=true)) (n:=(c.ints.length - 0)) (s1:=⟨fL [(1,isA to),(2,.v (.int .i64 w)),(3,.ptr 0 0 0),(6,.ptr 1 0 0),(7,.ptr 2 0 0),(12,.v (.int .i64 ((0:Nat):Int)))],hLz [(0,⟨0,clA c,0,false⟩),(1,⟨0,[.v (.slice none 0 0),.v (.slice none 0 0),.v (.slice none 0 0),.v (.slice none 0 0),.v (.slice none 0 0),.v (.slice none 0 0),.v (.slice none 0 0)],0,false⟩),(2,⟨0,[isA (sortL (c.nul.map (renS to w))),isA (sortL (c.nn.map (renS to w))),.sl 5 c.aux.length 0 ((c.aux.take c.aux.length).map (axN (renS to w))).length,.sl 6 0 0 ((c.ints.take 0).map (cnN (renS to w))).length,.v (.slice none 0 0),psA (c.same.map (pairN (renS to w))),psA (c.diff.map (pairN (renS to w)))],0,false⟩),(5,⟨c.aux.length,rF axA ((c.aux.take c.aux.length).map (axN (renS to w))),4,Nat.beq ((c.aux.take c.aux.length).map (axN (renS to w))).length 0⟩),(6,⟨0,rF cnA ((c.ints.take 0).map (cnN (renS to w))),3,Nat.beq ((c.ints.take 0).map (cnN (renS to w))).length 0⟩)],7⟩) (cO (.cons rfl rfl (.cons rfl rfl (.cons rfl rfl (.cons rfl rfl (.cons rfl rfl (.cons rfl rfl .nil)))))) (.cons rfl rfl rfl (.cons rfl rfl rfl (.cons (by first | rfl | (rw [hstep]; rfl) | (rw [hstep,List.length_append]; rfl) | (rw [hstep,hax]; rfl) | (rw [hstep,List.length_append,hax]; rfl)) rfl rfl (.cons rfl rfl (rF_low rowAx _ _) (.cons (by first | rfl | (rw [hstep]; rfl) | (rw [hstep,List.length_append]; rfl) | (rw [hstep,hax]; rfl) | (rw [hstep,List.length_append,hax]; rfl)) rfl (rF_low rowCn _ _) .nil)))))) ⟨0,rfl,rfl,⟨Nat.zero_le _,fun j h=>absurd h (Nat.not_lt_zero j)⟩⟩ ?_
    rintro n s ⟨k4,rfl,rfl,hinv⟩
    obtain ⟨hk,hj⟩:=hinv
    have hml:((c.ints.take k4).map (cnN (renS to w))).length≤1000:=by rw [List.length_map,List.length_take]; omega
    refine wS (wS (wR ?_))
    refine oL (lM (a:=.v _) rfl) rfl rfl ?_
    refine oL (lF fi35_3 rfl rfl rfl rfl rfl) rfl rfl ?_
    refine oL (lD row31 rfl rfl rfl rfl rfl) rfl rfl ?_
    refine oL (lT rfl Tryz.underlying31 rfl) rfl rfl ?_
    refine oL (lP rfl (fun _ _=>nofun) (fun _=>rfl)) rfl rfl ?_
    refine oN (aN ?_)
    refine wC rfl (fun hc111=>?_) (fun hc111=>?_)
    ·skip
     have hlt:k4 < c.ints.length:=Int.ofNat_lt.1 (of_decide_eq_true hc111)
     have hstep:((c.ints.take (k4+1)).map (cnN (renS to w)))=((c.ints.take k4).map (cnN (renS to w)))++[(cnN (renS to w)) c.ints[k4]]:=by rw [List.take_succ_eq_append_getElem hlt,List.map_append]; rfl
     refine wK (aN (wS (wB (AWP.regD mixed ?_))))
     refine qL (lF fi35_3 rfl rfl rfl rfl rfl) rfl rfl ?_
     refine qL (lD row31 rfl rfl rfl rfl rfl) rfl rfl ?_
     refine qL (lF fi35_3 rfl rfl rfl rfl rfl) rfl rfl ?_
     refine qL (lD row31 rfl rfl rfl rfl rfl) rfl rfl ?_
     refine qL (lM (a:=.v _) rfl) rfl rfl ?_
     refine qL (lI Tryz.underlying31 sz84 rfl rfl (by first | assumption | omega)) rfl rfl ?_
     refine qL (LOp.fieldAddrT fi84_0 rfl rfl) rfl rfl ?_
     refine qL (LOp.ldTN row79 rfl rfl) rfl rfl ?_
     refine qL (lM (a:=.tree _ _) rfl) rfl rfl ?_
     refine qL (lM (a:=.v _) rfl) rfl rfl ?_
     refine qL (LOp.call bod62 rfl (moved_p to w N ht hn0 hn hN hm c.ints[k4].l (hc.ints _ (List.getElem_mem _)))) rfl rfl ?_
     refine qL (lF fi35_3 rfl rfl rfl rfl rfl) rfl rfl ?_
     refine qL (lD row31 rfl rfl rfl rfl rfl) rfl rfl ?_
     refine qL (lM (a:=.v _) rfl) rfl rfl ?_
     refine qL (lI Tryz.underlying31 sz84 rfl rfl (by first | assumption | omega)) rfl rfl ?_
     refine qL (LOp.fieldAddrT fi84_1 rfl rfl) rfl rfl ?_
     refine qL (lE row4 rfl rfl) rfl rfl ?_
     refine qL (LOp.bd zr84 pl84 rfl rfl) rfl rfl ?_
     refine SeqC.nw (LOp.bs Tryz.underlying31 sz84 zr84 rfl rfl rfl rfl) rfl rfl 8 rfl ?_
     refine SeqC.gv (LOp.appRow rowCn (a:=cnN (renS to w) c.ints[k4]) Tryz.underlying31 sz84 zr84 by84 rfl rfl rfl (Src.slB rfl rfl rfl rfl) rfl (by omega) (by omega) (by unfold TV; omega)) rfl rfl 8 rfl rfl ?_
     refine qL (lF fi35_3 rfl rfl rfl rfl rfl) rfl rfl ?_
     refine SeqC.wr (LOp.st sz31 rfl rfl rfl rfl rfl rfl rfl rfl) rfl rfl rfl ?_
     refine SeqC.nil ⟨by kernel_rfl,?_⟩
     refine bN (aN (wR ?_))
     refine oL (lM (a:=.v _) rfl) rfl rfl ?_
     refine oL (lJ rfl rfl (by omega) (by omega)) rfl rfl ?_
     refine oL (lA (a:=.v _) rfl) rfl rfl ?_
     refine oN (aN ?_)
     refine ⟨(c.ints.length - (k4+1)),⟨fL [(1,isA to),(2,.v (.int .i64 w)),(3,.ptr 0 0 0),(6,.ptr 1 0 0),(7,.ptr 2 0 0),(12,.v (.int .i64 (((k4+1):Nat):Int)))],hLz [(0,⟨0,clA c,0,false⟩),(1,⟨0,[.v (.slice none 0 0),.v (.slice none 0 0),.v (.slice none 0 0),.v (.slice none 0 0),.v (.slice none 0 0),.v (.slice none 0 0),.v (.slice none 0 0)],0,false⟩),(2,⟨0,[isA (sortL (c.nul.map (renS to w))),isA (sortL (c.nn.map (renS to w))),.sl 5 c.aux.length 0 ((c.aux.take c.aux.length).map (axN (renS to w))).length,.sl 6 (k4+1) 0 ((c.ints.take (k4+1)).map (cnN (renS to w))).length,.v (.slice none 0 0),psA (c.same.map (pairN (renS to w))),psA (c.diff.map (pairN (renS to w)))],0,false⟩),(5,⟨c.aux.length,rF axA ((c.aux.take c.aux.length).map (axN (renS to w))),4,Nat.beq ((c.aux.take c.aux.length).map (axN (renS to w))).length 0⟩),(6,⟨(k4+1),rF cnA ((c.ints.take (k4+1)).map (cnN (renS to w))),3,Nat.beq ((c.ints.take (k4+1)).map (cnN (renS to w))).length 0⟩)],7⟩,by omega,(cO (.cons rfl rfl (.cons rfl rfl (.cons rfl rfl (.cons rfl rfl (.cons rfl rfl (.cons rfl rfl .nil)))))) (.cons rfl rfl rfl (.cons rfl rfl rfl (.cons (by first | rfl | (rw [hstep]; rfl) | (rw [hstep,List.length_append]; rfl) | (rw [hstep,hax]; rfl) | (rw [hstep,List.length_append,hax]; rfl)) rfl rfl (.cons rfl rfl (rF_low rowAx _ _) (.cons (by first | rfl | (rw [hstep]; rfl) | (rw [hstep,List.length_append]; rfl) | (rw [hstep,hax]; rfl) | (rw [hstep,List.length_append,hax]; rfl)) rfl (rF_low rowCn _ _) .nil)))))),(k4+1),rfl,rfl,?_⟩
     refine ⟨by omega,fun j h=>?_⟩
     rcases Nat.lt_succ_iff_lt_or_eq.1 h with h | rfl
     ·exact hj j h
     ·rfl
    ·skip
     have hge:¬ k4 < c.ints.length:=fun h=>of_decide_eq_false hc111 (Int.ofNat_lt.2 h)
     have hkl:k4=c.ints.length:=by omega
     subst hkl
     clear hj hk hge
     refine AWP.exit (aE (aE (bE ?_)))
     refine aN (wS (wS (wR ?_)))
     refine oL (lA (a:=.v _) rfl) rfl rfl ?_
     refine oN (aN (wB ?_))
     refine AWP.lazyC 2 4 4 rfl rfl rfl rfl rfl 8 rfl ?_
     refine wL (fun n s=>∃ k5:Nat,n=(c.tests.length - k5)∧s=⟨fL [(1,isA to),(2,.v (.int .i64 w)),(3,.ptr 0 0 0),(6,.ptr 1 0 0),(7,.ptr 2 0 0),(13,.v (.int .i64 ((k5:Nat):Int)))],hLz [(0,⟨0,clA c,0,false⟩),(1,⟨0,[.v (.slice none 0 0),.v (.slice none 0 0),.v (.slice none 0 0),.v (.slice none 0 0),.v (.slice none 0 0),.v (.slice none 0 0),.v (.slice none 0 0)],0,false⟩),(2,⟨0,[isA (sortL (c.nul.map (renS to w))),isA (sortL (c.nn.map (renS to w))),.sl 5 c.aux.length 0 ((c.aux.take c.aux.length).map (axN (renS to w))).length,.sl 6 c.ints.length 0 ((c.ints.take c.ints.length).map (cnN (renS to w))).length,.sl 7 k5 0 ((c.tests.take k5).map (teN (renS to w))).length,psA (c.same.map (pairN (renS to w))),psA (c.diff.map (pairN (renS to w)))],0,false⟩),(5,⟨c.aux.length,rF axA ((c.aux.take c.aux.length).map (axN (renS to w))),4,Nat.beq ((c.aux.take c.aux.length).map (axN (renS to w))).length 0⟩),(6,⟨c.ints.length,rF cnA ((c.ints.take c.ints.length).map (cnN (renS to w))),3,Nat.beq ((c.ints.take c.ints.length).map (cnN (renS to w))).length 0⟩),(7,⟨k5,rF teA ((c.tests.take k5).map (teN (renS to w))),4,Nat.beq ((c.tests.take k5).map (teN (renS to w))).length 0⟩)],8⟩∧(k5≤c.tests.length∧∀ j,j < k5→(fun _=>true) j=true)) (n:=(c.tests.length - 0)) (s1:=⟨fL [(1,isA to),(2,.v (.int .i64 w)),(3,.ptr 0 0 0),(6,.ptr 1 0 0),(7,.ptr 2 0 0),(13,.v (.int .i64 ((0:Nat):Int)))],hLz [(0,⟨0,clA c,0,false⟩),(1,⟨0,[.v (.slice none 0 0),.v (.slice none 0 0),.v (.slice none 0 0),.v (.slice none 0 0),.v (.slice none 0 0),.v (.slice none 0 0),.v (.slice none 0 0)],0,false⟩),(2,⟨0,[isA (sortL (c.nul.map (renS to w))),isA (sortL (c.nn.map (renS to w))),.sl 5 c.aux.length 0 ((c.aux.take c.aux.length).map (axN (renS to w))).length,.sl 6 c.ints.length 0 ((c.ints.take c.ints.length).map (cnN (renS to w))).length,.sl 7 0 0 ((c.tests.take 0).map (teN (renS to w))).length,psA (c.same.map (pairN (renS to w))),psA (c.diff.map (pairN (renS to w)))],0,false⟩),(5,⟨c.aux.length,rF axA ((c.aux.take c.aux.length).map (axN (renS to w))),4,Nat.beq ((c.aux.take c.aux.length).map (axN (renS to w))).length 0⟩),(6,⟨c.ints.length,rF cnA ((c.ints.take c.ints.length).map (cnN (renS to w))),3,Nat.beq ((c.ints.take c.ints.length).map (cnN (renS to w))).length 0⟩),(7,⟨0,rF teA ((c.tests.take 0).map (teN (renS to w))),4,Nat.beq ((c.tests.take 0).map (teN (renS to w))).length 0⟩)],8⟩) (cO (.cons rfl rfl (.cons rfl rfl (.cons rfl rfl (.cons rfl rfl (.cons rfl rfl (.cons rfl rfl .nil)))))) (.cons rfl rfl rfl (.cons rfl rfl rfl (.cons (by first | rfl | (rw [hstep]; rfl) | (rw [hstep,List.length_append]; rfl) | (rw [hstep,hax]; rfl) | (rw [hstep,List.length_append,hax]; rfl)) rfl rfl (.cons rfl rfl (rF_low rowAx _ _) (.cons rfl rfl (rF_low rowCn _ _) (.cons (by first | rfl | (rw [hstep]; rfl) | (rw [hstep,List.length_append]; rfl) | (rw [hstep,hax]; rfl) | (rw [hstep,List.length_append,hax]; rfl)) rfl (rF_low rowTe _ _) .nil))))))) ⟨0,rfl,rfl,⟨Nat.zero_le _,fun j h=>absurd h (Nat.not_lt_zero j)⟩⟩ ?_
     rintro n s ⟨k5,rfl,rfl,hinv⟩
     obtain ⟨hk,hj⟩:=hinv
     have hml:((c.tests.take k5).map (teN (renS to w))).length≤1000:=by rw [List.length_map,List.length_take]; omega
     refine wS (wS (wR ?_))
     refine oL (lM (a:=.v _) rfl) rfl rfl ?_
     refine oL (lF fi35_4 rfl rfl rfl rfl rfl) rfl rfl ?_
     refine oL (lD row32 rfl rfl rfl rfl rfl) rfl rfl ?_
     refine oL (lT rfl Tryz.underlying32 rfl) rfl rfl ?_
     refine oL (lP rfl (fun _ _=>nofun) (fun _=>rfl)) rfl rfl ?_
     refine oN (aN ?_)
     refine wC rfl (fun hc139=>?_) (fun hc139=>?_)
     ·skip
      have hlt:k5 < c.tests.length:=Int.ofNat_lt.1 (of_decide_eq_true hc139)
      have hstep:((c.tests.take (k5+1)).map (teN (renS to w)))=((c.tests.take k5).map (teN (renS to w)))++[(teN (renS to w)) c.tests[k5]]:=by rw [List.take_succ_eq_append_getElem hlt,List.map_append]; rfl
      refine wK (aN (wS (wB (wS (wR ?_)))))
      refine oL (lF fi35_4 rfl rfl rfl rfl rfl) rfl rfl ?_
      refine oL (lD row32 rfl rfl rfl rfl rfl) rfl rfl ?_
      refine oL (lM (a:=.v _) rfl) rfl rfl ?_
      refine oL (lI Tryz.underlying32 sz52 rfl rfl (by first | assumption | omega)) rfl rfl ?_
      refine oL (LOp.ldTN row52 rfl rfl) rfl rfl ?_
      refine oW (LOp.al zr52 rfl) rfl rfl 9 rfl ?_
      refine AOps.wr (LOp.st sz52 rfl rfl rfl rfl rfl rfl rfl rfl) rfl rfl rfl ?_
      refine oN (aN (wS (wR ?_)))
      refine oL (lF fi52_0 rfl rfl rfl rfl rfl) rfl rfl ?_
      refine oL (lD row3 rfl rfl rfl rfl rfl) rfl rfl ?_
      refine oL (lM (a:=.tree _ _) rfl) rfl rfl ?_
      refine oL (lM (a:=.v _) rfl) rfl rfl ?_
      refine oL (LOp.call bod61 rfl (move_p to w c.tests[k5].v ht hn0 hn (hc.tests _ (List.getElem_mem _)).1 (Int.le_trans (hc.tests _ (List.getElem_mem _)).2 hN))) rfl rfl ?_
      refine oL (lF fi52_0 rfl rfl rfl rfl rfl) rfl rfl ?_
      refine AOps.wr (LOp.st sz3 rfl rfl rfl rfl rfl rfl rfl rfl) rfl rfl rfl ?_
      refine oN (aN (wR ?_))
      refine oL (lF fi35_4 rfl rfl rfl rfl rfl) rfl rfl ?_
      refine oL (lD row32 rfl rfl rfl rfl rfl) rfl rfl ?_
      refine oL (LOp.ldN row52 rfl rfl rfl rfl rfl) rfl rfl ?_
      refine oW (LOp.bs Tryz.underlying32 sz52 zr52 rfl rfl rfl rfl) rfl rfl 10 rfl ?_
      refine AOps.gv (LOp.appRow rowTe (a:=teN (renS to w) c.tests[k5]) Tryz.underlying32 sz52 zr52 by52 rfl rfl rfl (Src.slB rfl rfl rfl rfl) rfl (by omega) (by omega) (by unfold TV; omega)) rfl rfl 10 rfl rfl ?_
      refine oL (lF fi35_4 rfl rfl rfl rfl rfl) rfl rfl ?_
      refine AOps.wr (LOp.st sz32 rfl rfl rfl rfl rfl rfl rfl rfl) rfl rfl rfl ?_
      refine oN (bN (aN (wR ?_)))
      refine oL (lM (a:=.v _) rfl) rfl rfl ?_
      refine oL (lJ rfl rfl (by omega) (by omega)) rfl rfl ?_
      refine oL (lA (a:=.v _) rfl) rfl rfl ?_
      refine oN (aN ?_)
      refine ⟨(c.tests.length - (k5+1)),⟨fL [(1,isA to),(2,.v (.int .i64 w)),(3,.ptr 0 0 0),(6,.ptr 1 0 0),(7,.ptr 2 0 0),(13,.v (.int .i64 (((k5+1):Nat):Int)))],hLz [(0,⟨0,clA c,0,false⟩),(1,⟨0,[.v (.slice none 0 0),.v (.slice none 0 0),.v (.slice none 0 0),.v (.slice none 0 0),.v (.slice none 0 0),.v (.slice none 0 0),.v (.slice none 0 0)],0,false⟩),(2,⟨0,[isA (sortL (c.nul.map (renS to w))),isA (sortL (c.nn.map (renS to w))),.sl 5 c.aux.length 0 ((c.aux.take c.aux.length).map (axN (renS to w))).length,.sl 6 c.ints.length 0 ((c.ints.take c.ints.length).map (cnN (renS to w))).length,.sl 7 (k5+1) 0 ((c.tests.take (k5+1)).map (teN (renS to w))).length,psA (c.same.map (pairN (renS to w))),psA (c.diff.map (pairN (renS to w)))],0,false⟩),(5,⟨c.aux.length,rF axA ((c.aux.take c.aux.length).map (axN (renS to w))),4,Nat.beq ((c.aux.take c.aux.length).map (axN (renS to w))).length 0⟩),(6,⟨c.ints.length,rF cnA ((c.ints.take c.ints.length).map (cnN (renS to w))),3,Nat.beq ((c.ints.take c.ints.length).map (cnN (renS to w))).length 0⟩),(7,⟨(k5+1),rF teA ((c.tests.take (k5+1)).map (teN (renS to w))),4,Nat.beq ((c.tests.take (k5+1)).map (teN (renS to w))).length 0⟩)],8⟩,by omega,(cO (.cons rfl rfl (.cons rfl rfl (.cons rfl rfl (.cons rfl rfl (.cons rfl rfl (.cons rfl rfl .nil)))))) (.cons rfl rfl rfl (.cons rfl rfl rfl (.cons (by first | rfl | (rw [hstep]; rfl) | (rw [hstep,List.length_append]; rfl) | (rw [hstep,hax]; rfl) | (rw [hstep,List.length_append,hax]; rfl)) rfl rfl (.cons rfl rfl (rF_low rowAx _ _) (.cons rfl rfl (rF_low rowCn _ _) (.cons (by first | rfl | (rw [hstep]; rfl) | (rw [hstep,List.length_append]; rfl) | (rw [hstep,hax]; rfl) | (rw [hstep,List.length_append,hax]; rfl)) rfl (rF_low rowTe _ _) .nil))))))),(k5+1),rfl,rfl,?_⟩
      refine ⟨by omega,fun j h=>?_⟩
      rcases Nat.lt_succ_iff_lt_or_eq.1 h with h | rfl
      ·exact hj j h
      ·rfl
     ·skip
      have hge:¬ k5 < c.tests.length:=fun h=>of_decide_eq_false hc139 (Int.ofNat_lt.2 h)
      have hkl:k5=c.tests.length:=by omega
      subst hkl
      clear hj hk hge
      refine AWP.exit (aE (aE (bE ?_)))
      refine aN (wS (wR ?_))
      refine oL (LOp.ldN row35 rfl rfl rfl rfl rfl) rfl rfl ?_
      refine AOps.wr (LOp.st sz35 rfl rfl rfl rfl rfl rfl rfl rfl) rfl rfl rfl ?_
      refine oN (aN ?_)
      refine wT (?_)
      refine ⟨.inr rfl,Outs.cell Tryz.results27 row35 rfl rfl rfl rfl rfl ?_⟩
      rw [List.take_length,List.take_length,List.take_length]
      exact ⟨[5,6,7],fz_clR rfl rfl rfl⟩
end Go.Proofs.YtgknefkobpnjaaaGreatDoor
namespace Go.Proofs.YtgknefkobpnjaaaGreatDoor
set_option linter.unusedVariables false
set_option linter.unusedSimpArgs false
open Go.RowKit
section
variable {P:Program} {τ:Nat→AV} {η:Heap} {d:Option Tmp} {ty:TypeId} {pos:String} {af:Array Edge} {g:Option (Nat×Bool)}
theorem LOp.unstill {o:Oper} {fp:List Nat} {v:AV} {id:Nat} {b:Option Blk} (h:LOp P o τ η fp [] v) (hid:id∈fp) (hb:η id=b) (hbs:b.isSome=true):LOp P o τ η fp [(id,b)] v:=by
 intro C a hg hxs hfp _ K Q hK
 refine h C a hg hxs hfp (fun p hp=>absurd hp (by simp)) K Q fun x C' h1 h2 h3 h4 h5=>hK x C' ?_ (fun i=>?_) h3 h4 h5
 ·rw [h1]
  funext k
  have e:C.η id=b:=(hfp id hid).trans hb
  simp only [Heap.put]
  by_cases hk:k=id
  ·subst hk; rw [Heap.set_same]; exact e
  ·rw [Heap.set_other _ _ hk]
 ·rw [h2]
  simp only [List.map_nil,List.not_mem_nil,or_false,List.map_cons,List.mem_singleton]
  refine ⟨fun h=>.inl h,fun h=>?_⟩
  rcases h with h | h
  ·exact h
  ·subst h
   have e:C.η i=b:=(hfp i hid).trans hb
   cases b with
   | none=>cases hbs
   | some b=>exact hg.used e
/-- The version after an append of any number. -/
def vb (ver n:Nat):Nat:=bif Nat.beq n 0 then ver else ver+1
variable {α:Type} {f:α→List AV} {q:Nat}
theorem LOp.appRowsB (hf:RowF f q) {t e by_:Nat} {s x:Operand} {z:Value} {id ver:Nat} {l l':List α} (ht:P.underlying t=some (.slice e)) (hs:sizeInfo P e=some q) (hz:zeroOf P e=some z) (hby:(P.info? e).map (·.bytes)=some by_) (hzs:z.cells.size=q)
  (hx:aev τ s=.sl id ver 0 l.length) (hb:η id=some ⟨ver,rF f l,q,false⟩) (hy:aev τ x=.tree q (l'.map f)) (hmax:(l.length+l'.length) * by_≤140737488355328) (hmax2:l.length+l'.length≤140737488355328) (htv:ver+1≠TV) :
  LOp P ⟨d,.call { callee:=.builtin .append,args:=#[s,x],argTypes:=#[t,t] },ty,pos,af,g⟩ τ η [id] [(id,some ⟨ver+1,rF f (l++l'),q,false⟩)] (.sl id (ver+1) 0 (l++l').length):=by
 have:=LOp.append (d:=d) (ty:=ty) (pos:=pos) (af:=af) (g:=g) (m:=l'.length) (news:=rF f l') ht hs hz hby hzs hx hb rfl rfl rfl (Nat.le_of_eq (rF_len hf l).symm) (by rw [hy]; exact Src.treeMap rfl) (rF_len hf l') (rF_one hf l') hmax hmax2 htv
 rw [← List.length_append,← rF_len hf l,List.take_length,← rF_app] at this
 exact this
theorem LOp.appRows (hf:RowF f q) {t e by_:Nat} {s x:Operand} {z:Value} {id ver:Nat} {l l':List α} (ht:P.underlying t=some (.slice e)) (hs:sizeInfo P e=some q) (hz:zeroOf P e=some z) (hby:(P.info? e).map (·.bytes)=some by_) (hzs:z.cells.size=q)
  (hx:aev τ s=.sl id ver 0 l.length) (hb:η id=some ⟨ver,rF f l,q,Nat.beq l.length 0⟩) (hy:aev τ x=.tree q (l'.map f)) (hmax:(l.length+l'.length) * by_≤140737488355328) (hmax2:l.length+l'.length≤140737488355328) (htv:ver+1≠TV) :
  LOp P ⟨d,.call { callee:=.builtin .append,args:=#[s,x],argTypes:=#[t,t] },ty,pos,af,g⟩ τ η [id] [(id,some ⟨vb ver (l++l').length,rF f (l++l'),q,Nat.beq (l++l').length 0⟩)] (.sl id (vb ver (l++l').length) 0 (l++l').length):=by
 by_cases h0:(l++l').length=0
 ·have e0:=List.eq_nil_of_length_eq_zero h0
  obtain ⟨rfl,rfl⟩:=List.append_eq_nil_iff.1 e0
  refine LOp.unstill (.look [id] fun C a hg hxs hfp=>?_) (List.mem_singleton.2 rfl) hb rfl
  have hbC:C.η id=some ⟨ver,[],q,true⟩:=(hfp id (List.mem_singleton.2 rfl)).trans hb
  have e1:=hxs s (by simp [Op.operands,Call.operands])
  rw [hx] at e1
  obtain ⟨e2,_,_⟩:=e1.slnil_inv hbC rfl rfl
  unfold sizeInfo at hs
  cases hi:P.info? e with
  | none=>rw [hi] at hs; cases hs
  | some inf=>
   have hv:VR C (.sl id (vb ver 0) 0 0) (.slice none 0 0):=.slnil (b:=⟨ver,[],q,true⟩) hbC rfl rfl
   have hsrc:Src η [] (aev τ x) 0 []:=by rw [hy]; exact Src.treeMap (f:=f) (l:=([]:List α)) rfl
   rcases hsrc C hg (fun i hi=>absurd hi (by simp)) _ (hxs x (by simp [Op.operands,Call.operands])) with ⟨_,_,ad,c,hx2⟩ | ⟨ad,c,vals,hx2,_⟩
   ·refine ⟨.slice none 0 0,exec_append C.w ?_,hv⟩
    rw [e2,hx2]
    exact run_append_zero (P:=P) (ty:=ty) ht hi C.w none ad 0 0 c (Nat.le_refl _)
   ·refine ⟨.slice none 0 0,exec_append C.w ?_,hv⟩
    rw [e2,hx2]
    exact run_append_zero (P:=P) (ty:=ty) ht hi C.w none (some ad) 0 0 c (Nat.le_refl _)
 ·have e1:Nat.beq (l++l').length 0=false:=beq_ne h0
  have e2:vb ver (l++l').length=ver+1:=by unfold vb; rw [e1]; rfl
  rw [e1,e2]
  cases l with
  | cons a r=>exact LOp.appRowsB hf ht hs hz hby hzs hx hb hy hmax hmax2 htv
  | nil=>
   have hm:0 < l'.length:=by simpa using Nat.pos_of_ne_zero h0
   have:=LOp.appendA (d:=d) (ty:=ty) (pos:=pos) (af:=af) (g:=g) (m:=l'.length) (fp:=[]) (news:=rF f l') ht hs hz hby hzs hx hb rfl (rF_len hf []) (by rw [hy]; exact Src.treeMap rfl) hm (rF_len hf l') (rF_one hf l') hmax hmax2 htv
   rw [← List.length_append,← rF_app] at this
   exact this
end
/-- Both clauses at once, as the reference gives them. -/
def joR (A B:PCl):PCl:=⟨sortL (A.nul++B.nul),sortL (A.nn++B.nn),A.aux++B.aux,A.ints++B.ints,A.tests++B.tests,A.same++B.same,A.diff++B.diff⟩
theorem sortL_le {l:List Int}:(sortL l).length≤l.length:=by
 have:=sortL_len (l:=l) (Nat.le_refl l.length)
 rwa [List.take_length] at this
theorem clR_ok {c:PCl} {σ:Int→Int} (h:c.Ok):(clR σ c).Ok:=by
 have h2:=clN_ok (σ:=σ) h
 have e1:(sortL (c.nul.map σ)).length≤1000:=Nat.le_trans sortL_le (by rw [List.length_map]; exact h.nul)
 have e2:(sortL (c.nn.map σ)).length≤1000:=Nat.le_trans sortL_le (by rw [List.length_map]; exact h.nn)
 exact ⟨e1,e2,h2.aux,h2.ints,h2.tests,h2.same,h2.diff,h2.auxc,h2.intc,h2.tes⟩
theorem bod27:bodied Tryz.prog 27=true:=by kernel_rfl
theorem fz_joR {A B:PCl} {η:Heap} {u v w x y:Nat} (h1:η 8=some ⟨u,rF axA (A.aux++B.aux),4,Nat.beq (A.aux++B.aux).length 0⟩) (h2:η 9=some ⟨v,rF cnA (A.ints++B.ints),3,Nat.beq (A.ints++B.ints).length 0⟩) (h3:η 10=some ⟨w,rF teA (A.tests++B.tests),4,Nat.beq (A.tests++B.tests).length 0⟩) (h4:η 11=some ⟨x,rF paA (A.same++B.same),2,Nat.beq (A.same++B.same).length 0⟩) (h5:η 12=some ⟨y,rF paA (A.diff++B.diff),2,Nat.beq (A.diff++B.diff).length 0⟩) :
  FzP [8,9,10,11,12] η (.agg [isA (sortL (A.nul++B.nul)),isA (sortL (A.nn++B.nn)),.sl 8 u 0 (A.aux++B.aux).length,.sl 9 v 0 (A.ints++B.ints).length,.sl 10 w 0 (A.tests++B.tests).length,.sl 11 x 0 (A.same++B.same).length,.sl 12 y 0 (A.diff++B.diff).length]) (.agg (clA (joR A B))) :=
 .aggL (.cons (FzP.pure rfl) (.cons (FzP.pure rfl) (.cons (FzP.rows rowAx (by decide) h1) (.cons (FzP.rows rowCn (by decide) h2) (.cons (FzP.rows rowTe (by decide) h3) (.cons (FzP.rows rowPa (by decide) h4) (.cons (FzP.rows rowPa (by decide) h5) .nil)))))))
set_option maxRecDepth 100000 in
set_option maxHeartbeats 4000000 in
theorem joinR_p (a b:PCl) (m:Nat) (N:Int) (hm1000:m≤1000) (hN:N≤1000000) (ha:a.Ok) (hb:b.In N):PCall Tryz.prog 26 [.agg (clA a),.agg (clA b),.v (.int .i64 ((m:Nat):Int))] (.agg (clA (joR a (clR (renS (idL m) (((m:Nat):Int)+((a.aux.length:Nat):Int))) b)))):=by
 have hB:(clR (renS (idL m) (((m:Nat):Int)+((a.aux.length:Nat):Int))) b).Ok:=clR_ok hb.ok
 have hA2:=ha
 have hB2:=hB
 have haux:=ha.aux
 refine pB Tryz.func26 rfl Tryz.ntmps26 (Nat.le_of_ble_eq_true rfl) ?_
 refine wS (wR ?_)
 refine oW (LOp.bx rfl) rfl rfl 1 rfl ?_
 refine oW (LOp.bx rfl) rfl rfl 2 rfl ?_
 refine oW (LOp.al zr35 rfl) rfl rfl 3 rfl ?_
 refine oN (aN (wS (wR ?_)))
 refine oL (lA (a:=.v _) rfl) rfl rfl ?_
 refine oN (aN (wS (wS (wR ?_))))
 refine oL (lA (a:=.v _) rfl) rfl rfl ?_
 refine oN (aN (wB ?_))
 refine AWP.lazyT 7 1 rfl 4 rfl ?_
 refine wL (fun n s=>∃ k:Nat,n=(m - k)∧s=⟨fL [(2,.v (.int .i64 ((m:Nat):Int))),(3,.ptr 0 0 0),(4,.ptr 1 0 0),(6,.ptr 2 0 0),(7,.sl 3 k 0 (idL k).length),(8,.v (.int .i64 ((k:Nat):Int)))],hLz [(0,⟨0,clA a,0,false⟩),(1,⟨0,clA b,0,false⟩),(2,⟨0,[.v (.slice none 0 0),.v (.slice none 0 0),.v (.slice none 0 0),.v (.slice none 0 0),.v (.slice none 0 0),.v (.slice none 0 0),.v (.slice none 0 0)],0,false⟩),(3,⟨k,rF iA (idL k),1,Nat.beq (idL k).length 0⟩)],4⟩∧(k≤m∧∀ j,j < k→(fun _=>true) j=true)) (n:=(m - 0)) (s1:=⟨fL [(2,.v (.int .i64 ((m:Nat):Int))),(3,.ptr 0 0 0),(4,.ptr 1 0 0),(6,.ptr 2 0 0),(7,.sl 3 0 0 (idL 0).length),(8,.v (.int .i64 ((0:Nat):Int)))],hLz [(0,⟨0,clA a,0,false⟩),(1,⟨0,clA b,0,false⟩),(2,⟨0,[.v (.slice none 0 0),.v (.slice none 0 0),.v (.slice none 0 0),.v (.slice none 0 0),.v (.slice none 0 0),.v (.slice none 0 0),.v (.slice none 0 0)],0,false⟩),(3,⟨0,rF iA (idL 0),1,Nat.beq (idL 0).length 0⟩)],4⟩) (cO (.cons rfl rfl (.cons rfl rfl (.cons rfl rfl (.cons rfl rfl (.cons (by first | rfl | (rw [hstep]; rfl) | (rw [hstep,List.length_append]; rfl)) rfl (.cons rfl rfl .nil)))))) (.cons rfl rfl rfl (.cons rfl rfl rfl (.cons rfl rfl rfl (.cons (by first | rfl | (rw [hstep]; rfl) | (rw [hstep,List.length_append]; rfl)) rfl (rF_low rowI _ _) .nil))))) ⟨0,rfl,rfl,⟨Nat.zero_le _,fun j h=>absurd h (Nat.not_lt_zero j)⟩⟩ ?_
 rintro n s ⟨k,rfl,rfl,hinv⟩
 obtain ⟨hk,hj⟩:=hinv
 have hil:=idL_len (n:=k)
 refine wS (wS (wR ?_))
 refine oL (lM (a:=.v _) rfl) rfl rfl ?_
 refine oL (lM (a:=.v _) rfl) rfl rfl ?_
 refine oL (lP rfl (fun _ _=>nofun) (fun _=>rfl)) rfl rfl ?_
 refine oN (aN ?_)
 refine wC rfl (fun hc13=>?_) (fun hc13=>?_)
 ·skip
  have hlt:k < m:=Int.ofNat_lt.1 (of_decide_eq_true hc13)
  have hstep:=idL_next (n:=k)
  refine wK (aN (wS (wB (wR ?_))))
  refine oL (lM (a:=.sl _ _ _ _) rfl) rfl rfl ?_
  refine oL (lM (a:=.v _) rfl) rfl rfl ?_
  refine oW (LOp.bs Tryz.underlying29 sz3 zr3 rfl rfl rfl rfl) rfl rfl 5 rfl ?_
  refine AOps.gv (LOp.appRow rowI (a:=((k:Nat):Int)) Tryz.underlying29 sz3 zr3 by3 rfl rfl rfl (Src.slB rfl rfl rfl rfl) rfl (by omega) (by omega) (by unfold TV; omega)) rfl rfl 5 rfl rfl ?_
  refine oL (lA (a:=.sl _ _ _ _) rfl) rfl rfl ?_
  refine oN (bN (aN (wR ?_)))
  refine oL (lM (a:=.v _) rfl) rfl rfl ?_
  refine oL (lJ rfl rfl (by omega) (by omega)) rfl rfl ?_
  refine oL (lA (a:=.v _) rfl) rfl rfl ?_
  refine oN (aN ?_)
  refine ⟨(m - (k+1)),⟨fL [(2,.v (.int .i64 ((m:Nat):Int))),(3,.ptr 0 0 0),(4,.ptr 1 0 0),(6,.ptr 2 0 0),(7,.sl 3 (k+1) 0 (idL (k+1)).length),(8,.v (.int .i64 (((k+1):Nat):Int)))],hLz [(0,⟨0,clA a,0,false⟩),(1,⟨0,clA b,0,false⟩),(2,⟨0,[.v (.slice none 0 0),.v (.slice none 0 0),.v (.slice none 0 0),.v (.slice none 0 0),.v (.slice none 0 0),.v (.slice none 0 0),.v (.slice none 0 0)],0,false⟩),(3,⟨(k+1),rF iA (idL (k+1)),1,Nat.beq (idL (k+1)).length 0⟩)],4⟩,by omega,(cO (.cons rfl rfl (.cons rfl rfl (.cons rfl rfl (.cons rfl rfl (.cons (by first | rfl | (rw [hstep]; rfl) | (rw [hstep,List.length_append]; rfl)) rfl (.cons rfl rfl .nil)))))) (.cons rfl rfl rfl (.cons rfl rfl rfl (.cons rfl rfl rfl (.cons (by first | rfl | (rw [hstep]; rfl) | (rw [hstep,List.length_append]; rfl)) rfl (rF_low rowI _ _) .nil))))),(k+1),rfl,rfl,?_⟩
  refine ⟨by omega,fun j h=>?_⟩
  rcases Nat.lt_succ_iff_lt_or_eq.1 h with h | rfl
  ·exact hj j h
  ·rfl
 ·skip
  have hge:¬ k < m:=fun h=>of_decide_eq_false hc13 (Int.ofNat_lt.2 h)
  have hkl:m=k:=by omega
  subst hkl
  clear hj hk hge
  refine AWP.exit (aE (aE (bE ?_)))
  refine aN (wS (wR ?_))
  refine oL (LOp.ldN row35 rfl rfl rfl rfl rfl) rfl rfl ?_
  refine oL (lM (a:=.sl _ _ _ _) rfl) rfl rfl ?_
  refine oL (lM (a:=.v _) rfl) rfl rfl ?_
  refine oL (lF fi35_2 rfl rfl rfl rfl rfl) rfl rfl ?_
  refine oL (lD row30 rfl rfl rfl rfl rfl) rfl rfl ?_
  refine oL (lT rfl Tryz.underlying30 rfl) rfl rfl ?_
  refine oL (lJ rfl rfl (by omega) (by omega)) rfl rfl ?_
  refine AOps.gv (LOp.callF [3] bod27 rfl (fun j h h'=>match j,h with | 0,_=>FzP.pure rfl | 1,_=>FzP.rows rowI (List.mem_singleton.2 rfl) rfl | 2,_=>FzP.pure rfl) (use1 rfl) (renameR_p (idL m) (((m:Nat):Int)+((a.aux.length:Nat):Int)) N (by rw [idL_len]; exact hm1000) (by omega) (by omega) hN (mono_ren1 (by omega)) b hb)) rfl rfl 4 rfl rfl ?_
  refine oW (LOp.al zr35 rfl) rfl rfl 5 rfl ?_
  refine AOps.wr (LOp.st sz35 rfl rfl rfl rfl rfl rfl rfl rfl) rfl rfl rfl ?_
  refine oN (aN (wS (AWP.regD mixed ?_)))
  refine SeqC.nw (LOp.buildSlice0 5 Tryz.underlying29 sz3) rfl rfl 6 rfl ?_
  refine qL (lF fi35_0 rfl rfl rfl rfl rfl) rfl rfl ?_
  refine qL (lD row29 rfl rfl rfl rfl rfl) rfl rfl ?_
  refine SeqC.gv (LOp.appRowsB rowI (l:=[]) (l':=a.nul) Tryz.underlying29 sz3 zr3 by3 rfl rfl rfl rfl (by first | (have:=ha.nul; have:=hB.nul; simp only [List.length_append,List.length_nil]; omega) | omega) (by first | (have:=ha.nul; have:=hB.nul; simp only [List.length_append,List.length_nil]; omega) | omega) (by unfold TV; omega)) rfl rfl 6 rfl rfl ?_
  refine qL (lF fi35_0 rfl rfl rfl rfl rfl) rfl rfl ?_
  refine qL (lD row29 rfl rfl rfl rfl rfl) rfl rfl ?_
  refine SeqC.gv (LOp.appRowsB rowI (l:=[]++a.nul) (l':=(clR (renS (idL m) (((m:Nat):Int)+((a.aux.length:Nat):Int))) b).nul) Tryz.underlying29 sz3 zr3 by3 rfl rfl rfl rfl (by first | (have:=ha.nul; have:=hB.nul; simp only [List.length_append,List.length_nil]; omega) | omega) (by first | (have:=ha.nul; have:=hB.nul; simp only [List.length_append,List.length_nil]; omega) | omega) (by unfold TV; omega)) rfl rfl 6 rfl rfl ?_
  refine SeqC.gv (LOp.callF [5] bod59 rfl (fun j h h'=>match j,h with | 0,_=>FzP.rowsF rowI (l:=[]++a.nul++(clR (renS (idL m) (((m:Nat):Int)+((a.aux.length:Nat):Int))) b).nul) (List.mem_singleton.2 rfl) rfl) (use1 rfl) (sortR_p (a.nul++(clR (renS (idL m) (((m:Nat):Int)+((a.aux.length:Nat):Int))) b).nul) (by have:=hA2.nul; have:=hB2.nul; rw [List.length_append]; omega))) rfl rfl 6 rfl rfl ?_
  refine SeqC.nw (LOp.buildSlice0 6 Tryz.underlying29 sz3) rfl rfl 7 rfl ?_
  refine qL (lF fi35_1 rfl rfl rfl rfl rfl) rfl rfl ?_
  refine qL (lD row29 rfl rfl rfl rfl rfl) rfl rfl ?_
  refine SeqC.gv (LOp.appRowsB rowI (l:=[]) (l':=a.nn) Tryz.underlying29 sz3 zr3 by3 rfl rfl rfl rfl (by first | (have:=ha.nn; have:=hB.nn; simp only [List.length_append,List.length_nil]; omega) | omega) (by first | (have:=ha.nn; have:=hB.nn; simp only [List.length_append,List.length_nil]; omega) | omega) (by unfold TV; omega)) rfl rfl 7 rfl rfl ?_
  refine qL (lF fi35_1 rfl rfl rfl rfl rfl) rfl rfl ?_
  refine qL (lD row29 rfl rfl rfl rfl rfl) rfl rfl ?_
  refine SeqC.gv (LOp.appRowsB rowI (l:=[]++a.nn) (l':=(clR (renS (idL m) (((m:Nat):Int)+((a.aux.length:Nat):Int))) b).nn) Tryz.underlying29 sz3 zr3 by3 rfl rfl rfl rfl (by first | (have:=ha.nn; have:=hB.nn; simp only [List.length_append,List.length_nil]; omega) | omega) (by first | (have:=ha.nn; have:=hB.nn; simp only [List.length_append,List.length_nil]; omega) | omega) (by unfold TV; omega)) rfl rfl 7 rfl rfl ?_
  refine SeqC.gv (LOp.callF [6] bod59 rfl (fun j h h'=>match j,h with | 0,_=>FzP.rowsF rowI (l:=[]++a.nn++(clR (renS (idL m) (((m:Nat):Int)+((a.aux.length:Nat):Int))) b).nn) (List.mem_singleton.2 rfl) rfl) (use1 rfl) (sortR_p (a.nn++(clR (renS (idL m) (((m:Nat):Int)+((a.aux.length:Nat):Int))) b).nn) (by have:=hA2.nn; have:=hB2.nn; rw [List.length_append]; omega))) rfl rfl 7 rfl rfl ?_
  refine qL (LOp.bd zr35 pl35 rfl rfl) rfl rfl ?_
  refine SeqC.nw (LOp.al zr35 rfl) rfl rfl 8 rfl ?_
  refine SeqC.wr (LOp.st sz35 rfl rfl rfl rfl rfl rfl rfl rfl) rfl rfl rfl ?_
  refine SeqC.nil ⟨by kernel_rfl,?_⟩
  refine aN (wS ?_)
  refine AWP.lazyC 7 2 4 rfl rfl rfl rfl rfl 9 rfl ?_
  refine AWP.regD mixed ?_
  refine qL (lF fi35_2 rfl rfl rfl rfl rfl) rfl rfl ?_
  refine qL (lD row30 rfl rfl rfl rfl rfl) rfl rfl ?_
  refine qL (lF fi35_2 rfl rfl rfl rfl rfl) rfl rfl ?_
  refine qL (lD row30 rfl rfl rfl rfl rfl) rfl rfl ?_
  refine SeqC.gv (LOp.appRows rowAx (l:=[]) (l':=a.aux) Tryz.underlying30 sz81 zr81 by81 rfl rfl rfl rfl (by first | (have:=ha.aux; have:=hB.aux; simp only [List.length_append,List.length_nil]; omega) | omega) (by first | (have:=ha.aux; have:=hB.aux; simp only [List.length_append,List.length_nil]; omega) | omega) (by unfold TV; omega)) rfl rfl 9 rfl rfl ?_
  refine qL (lF fi35_2 rfl rfl rfl rfl rfl) rfl rfl ?_
  refine qL (lD row30 rfl rfl rfl rfl rfl) rfl rfl ?_
  refine SeqC.gv (LOp.appRows rowAx (l:=[]++a.aux) (l':=(clR (renS (idL m) (((m:Nat):Int)+((a.aux.length:Nat):Int))) b).aux) Tryz.underlying30 sz81 zr81 by81 rfl rfl rfl rfl (by first | (have:=ha.aux; have:=hB.aux; simp only [List.length_append,List.length_nil]; omega) | omega) (by first | (have:=ha.aux; have:=hB.aux; simp only [List.length_append,List.length_nil]; omega) | omega) (by have:∀ n,vb 0 n≤1:=(fun n=>by unfold vb; cases Nat.beq n 0 <;> simp); have:=this ([]++a.aux).length; unfold TV; omega)) rfl rfl 9 rfl rfl ?_
  refine qL (lF fi35_2 rfl rfl rfl rfl rfl) rfl rfl ?_
  refine SeqC.wr (LOp.st sz30 rfl rfl rfl rfl rfl rfl rfl rfl) rfl rfl rfl ?_
  refine SeqC.nil ⟨by kernel_rfl,?_⟩
  refine aN (wS ?_)
  refine AWP.lazyC 7 3 3 rfl rfl rfl rfl rfl 10 rfl ?_
  refine AWP.regD mixed ?_
  refine qL (lF fi35_3 rfl rfl rfl rfl rfl) rfl rfl ?_
  refine qL (lD row31 rfl rfl rfl rfl rfl) rfl rfl ?_
  refine qL (lF fi35_3 rfl rfl rfl rfl rfl) rfl rfl ?_
  refine qL (lD row31 rfl rfl rfl rfl rfl) rfl rfl ?_
  refine SeqC.gv (LOp.appRows rowCn (l:=[]) (l':=a.ints) Tryz.underlying31 sz84 zr84 by84 rfl rfl rfl rfl (by first | (have:=ha.ints; have:=hB.ints; simp only [List.length_append,List.length_nil]; omega) | omega) (by first | (have:=ha.ints; have:=hB.ints; simp only [List.length_append,List.length_nil]; omega) | omega) (by unfold TV; omega)) rfl rfl 10 rfl rfl ?_
  refine qL (lF fi35_3 rfl rfl rfl rfl rfl) rfl rfl ?_
  refine qL (lD row31 rfl rfl rfl rfl rfl) rfl rfl ?_
  refine SeqC.gv (LOp.appRows rowCn (l:=[]++a.ints) (l':=(clR (renS (idL m) (((m:Nat):Int)+((a.aux.length:Nat):Int))) b).ints) Tryz.underlying31 sz84 zr84 by84 rfl rfl rfl rfl (by first | (have:=ha.ints; have:=hB.ints; simp only [List.length_append,List.length_nil]; omega) | omega) (by first | (have:=ha.ints; have:=hB.ints; simp only [List.length_append,List.length_nil]; omega) | omega) (by have:∀ n,vb 0 n≤1:=(fun n=>by unfold vb; cases Nat.beq n 0 <;> simp); have:=this ([]++a.ints).length; unfold TV; omega)) rfl rfl 10 rfl rfl ?_
  refine qL (lF fi35_3 rfl rfl rfl rfl rfl) rfl rfl ?_
  refine SeqC.wr (LOp.st sz31 rfl rfl rfl rfl rfl rfl rfl rfl) rfl rfl rfl ?_
  refine SeqC.nil ⟨by kernel_rfl,?_⟩
  refine aN (wS ?_)
  refine AWP.lazyC 7 4 4 rfl rfl rfl rfl rfl 11 rfl ?_
  refine AWP.regD mixed ?_
  refine qL (lF fi35_4 rfl rfl rfl rfl rfl) rfl rfl ?_
  refine qL (lD row32 rfl rfl rfl rfl rfl) rfl rfl ?_
  refine qL (lF fi35_4 rfl rfl rfl rfl rfl) rfl rfl ?_
  refine qL (lD row32 rfl rfl rfl rfl rfl) rfl rfl ?_
  refine SeqC.gv (LOp.appRows rowTe (l:=[]) (l':=a.tests) Tryz.underlying32 sz52 zr52 by52 rfl rfl rfl rfl (by first | (have:=ha.tests; have:=hB.tests; simp only [List.length_append,List.length_nil]; omega) | omega) (by first | (have:=ha.tests; have:=hB.tests; simp only [List.length_append,List.length_nil]; omega) | omega) (by unfold TV; omega)) rfl rfl 11 rfl rfl ?_
  refine qL (lF fi35_4 rfl rfl rfl rfl rfl) rfl rfl ?_
  refine qL (lD row32 rfl rfl rfl rfl rfl) rfl rfl ?_
  refine SeqC.gv (LOp.appRows rowTe (l:=[]++a.tests) (l':=(clR (renS (idL m) (((m:Nat):Int)+((a.aux.length:Nat):Int))) b).tests) Tryz.underlying32 sz52 zr52 by52 rfl rfl rfl rfl (by first | (have:=ha.tests; have:=hB.tests; simp only [List.length_append,List.length_nil]; omega) | omega) (by first | (have:=ha.tests; have:=hB.tests; simp only [List.length_append,List.length_nil]; omega) | omega) (by have:∀ n,vb 0 n≤1:=(fun n=>by unfold vb; cases Nat.beq n 0 <;> simp); have:=this ([]++a.tests).length; unfold TV; omega)) rfl rfl 11 rfl rfl ?_
  refine qL (lF fi35_4 rfl rfl rfl rfl rfl) rfl rfl ?_
  refine SeqC.wr (LOp.st sz32 rfl rfl rfl rfl rfl rfl rfl rfl) rfl rfl rfl ?_
  refine SeqC.nil ⟨by kernel_rfl,?_⟩
  refine aN (wS ?_)
  refine AWP.lazyC 7 5 2 rfl rfl rfl rfl rfl 12 rfl ?_
  refine AWP.regD mixed ?_
  refine qL (lF fi35_5 rfl rfl rfl rfl rfl) rfl rfl ?_
  refine qL (lD row33 rfl rfl rfl rfl rfl) rfl rfl ?_
  refine qL (lF fi35_5 rfl rfl rfl rfl rfl) rfl rfl ?_
  refine qL (lD row33 rfl rfl rfl rfl rfl) rfl rfl ?_
  refine SeqC.gv (LOp.appRows rowPa (l:=[]) (l':=a.same) Tryz.underlying33 sz26 zr26 by26 rfl rfl rfl rfl (by first | (have:=ha.same; have:=hB.same; simp only [List.length_append,List.length_nil]; omega) | omega) (by first | (have:=ha.same; have:=hB.same; simp only [List.length_append,List.length_nil]; omega) | omega) (by unfold TV; omega)) rfl rfl 12 rfl rfl ?_
  refine qL (lF fi35_5 rfl rfl rfl rfl rfl) rfl rfl ?_
  refine qL (lD row33 rfl rfl rfl rfl rfl) rfl rfl ?_
  refine SeqC.gv (LOp.appRows rowPa (l:=[]++a.same) (l':=(clR (renS (idL m) (((m:Nat):Int)+((a.aux.length:Nat):Int))) b).same) Tryz.underlying33 sz26 zr26 by26 rfl rfl rfl rfl (by first | (have:=ha.same; have:=hB.same; simp only [List.length_append,List.length_nil]; omega) | omega) (by first | (have:=ha.same; have:=hB.same; simp only [List.length_append,List.length_nil]; omega) | omega) (by have:∀ n,vb 0 n≤1:=(fun n=>by unfold vb; cases Nat.beq n 0 <;> simp); have:=this ([]++a.same).length; unfold TV; omega)) rfl rfl 12 rfl rfl ?_
  refine qL (lF fi35_5 rfl rfl rfl rfl rfl) rfl rfl ?_
  refine SeqC.wr (LOp.st sz33 rfl rfl rfl rfl rfl rfl rfl rfl) rfl rfl rfl ?_
  refine SeqC.nil ⟨by kernel_rfl,?_⟩
  refine aN (wS ?_)
  refine AWP.lazyC 7 6 2 rfl rfl rfl rfl rfl 13 rfl ?_
  refine AWP.regD mixed ?_
  refine qL (lF fi35_6 rfl rfl rfl rfl rfl) rfl rfl ?_
  refine qL (lD row33 rfl rfl rfl rfl rfl) rfl rfl ?_
  refine qL (lF fi35_6 rfl rfl rfl rfl rfl) rfl rfl ?_
  refine qL (lD row33 rfl rfl rfl rfl rfl) rfl rfl ?_
  refine SeqC.gv (LOp.appRows rowPa (l:=[]) (l':=a.diff) Tryz.underlying33 sz26 zr26 by26 rfl rfl rfl rfl (by first | (have:=ha.diff; have:=hB.diff; simp only [List.length_append,List.length_nil]; omega) | omega) (by first | (have:=ha.diff; have:=hB.diff; simp only [List.length_append,List.length_nil]; omega) | omega) (by unfold TV; omega)) rfl rfl 13 rfl rfl ?_
  refine qL (lF fi35_6 rfl rfl rfl rfl rfl) rfl rfl ?_
  refine qL (lD row33 rfl rfl rfl rfl rfl) rfl rfl ?_
  refine SeqC.gv (LOp.appRows rowPa (l:=[]++a.diff) (l':=(clR (renS (idL m) (((m:Nat):Int)+((a.aux.length:Nat):Int))) b).diff) Tryz.underlying33 sz26 zr26 by26 rfl rfl rfl rfl (by first | (have:=ha.diff; have:=hB.diff; simp only [List.length_append,List.length_nil]; omega) | omega) (by first | (have:=ha.diff; have:=hB.diff; simp only [List.length_append,List.length_nil]; omega) | omega) (by have:∀ n,vb 0 n≤1:=(fun n=>by unfold vb; cases Nat.beq n 0 <;> simp); have:=this ([]++a.diff).length; unfold TV; omega)) rfl rfl 13 rfl rfl ?_
  refine qL (lF fi35_6 rfl rfl rfl rfl rfl) rfl rfl ?_
  refine SeqC.wr (LOp.st sz33 rfl rfl rfl rfl rfl rfl rfl rfl) rfl rfl rfl ?_
  refine SeqC.nil ⟨by kernel_rfl,?_⟩
  refine aN (wS (wR ?_))
  refine oL (LOp.ldN row35 rfl rfl rfl rfl rfl) rfl rfl ?_
  refine AOps.wr (LOp.st sz35 rfl rfl rfl rfl rfl rfl rfl rfl) rfl rfl rfl ?_
  refine oN (aN ?_)
  refine wT (?_)
  refine ⟨.inr rfl,Outs.cell Tryz.results26 row35 rfl rfl rfl rfl rfl ?_⟩
  exact ⟨[8,9,10,11,12],fz_joR rfl rfl rfl rfl rfl⟩
end Go.Proofs.YtgknefkobpnjaaaGreatDoor
namespace Go.Proofs.YtgknefkobpnjaaaGreatDoor
set_option linter.unusedVariables false
set_option linter.unusedSimpArgs false
open Go.RowKit
def insR (x:Int):List Int→List Int
 | []=>[x]
 | o :: r=>if o < x then o :: insR x r else if o > x then x :: o :: r else o :: r
def finI (x:Int) (s:Bool×List Int):List Int:=if s.1=false then s.2++[x] else s.2
theorem fold_t {x:Int}:∀ (out acc:List Int),out.foldl (stepI x) (true,acc)=(true,acc++out)
 | [],acc=>by simp
 | o :: r,acc=>by
  rw [List.foldl_cons]
  have:stepI x (true,acc) o=(true,acc++[o]):=by unfold stepI; rw [if_neg (fun e=>by cases e.1)]
  rw [this,fold_t r]; simp
theorem fold_f {x:Int}:∀ (out acc:List Int),finI x (out.foldl (stepI x) (false,acc))=acc++insR x out
 | [],acc=>by simp [finI,insR]
 | o :: r,acc=>by
  rw [List.foldl_cons]
  by_cases h:o < x
  ·have:stepI x (false,acc) o=(false,acc++[o]):=by unfold stepI; rw [if_neg (fun e=>by have:=e.2; omega)]
   rw [this,fold_f r]; simp [insR,h]
  ·by_cases h2:o > x
   ·have:stepI x (false,acc) o=(true,acc++[x]++[o]):=by unfold stepI; rw [if_pos ⟨rfl,by omega⟩,if_pos h2]
    rw [this,fold_t r]; simp [insR,h,h2,finI]
   ·have:stepI x (false,acc) o=(true,acc++[o]):=by unfold stepI; rw [if_pos ⟨rfl,by omega⟩,if_neg h2]
    rw [this,fold_t r]; simp [insR,h,h2,finI]
theorem insL_R {x:Int} {out:List Int}:insL out x=insR x out:=by
 have:=fold_f (x:=x) out []
 rw [List.nil_append] at this
 rw [← this]
 unfold insL insP finI
 rw [List.take_length]
theorem mem_insR {x y:Int}:∀ {out:List Int},y∈insR x out↔y=x∨y∈out
 | []=>by simp [insR]
 | o :: r=>by
  have ih:=mem_insR (x:=x) (y:=y) (out:=r)
  unfold insR
  split
  ·simp only [List.mem_cons,ih]; grind
  ·split
   ·simp
   ·have:o=x:=by omega
    simp only [List.mem_cons]; grind
theorem insR_asc {x:Int}:∀ {out:List Int},out.Pairwise (· < ·)→(insR x out).Pairwise (· < ·)
 | [],_=>by simp [insR]
 | o :: r,h=>by
  rw [List.pairwise_cons] at h
  unfold insR
  split
  ·rename_i h1
   refine List.pairwise_cons.2 ⟨fun y hy=>?_,insR_asc h.2⟩
   rcases mem_insR.1 hy with rfl | hy
   ·exact h1
   ·exact h.1 y hy
  ·split
   ·rename_i h1 h2
    refine List.pairwise_cons.2 ⟨fun y hy=>?_,List.pairwise_cons.2 h⟩
    rcases List.mem_cons.1 hy with rfl | hy
    ·exact h2
    ·have:=h.1 y hy; omega
   ·exact List.pairwise_cons.2 h
theorem fold_insR:∀ (l acc:List Int),acc.Pairwise (· < ·)→(l.foldl insL acc).Pairwise (· < ·)∧∀ y,y∈l.foldl insL acc↔y∈l∨y∈acc
 | [],acc,h=>⟨h,fun y=>by simp⟩
 | x :: r,acc,h=>by
  rw [List.foldl_cons]
  have h1:=fold_insR r (insL acc x) (by rw [insL_R]; exact insR_asc h)
  refine ⟨h1.1,fun y=>?_⟩
  rw [h1.2,insL_R,mem_insR,List.mem_cons]
  grind
theorem sortL_lt {l:List Int}:(sortL l).Pairwise (· < ·):=(fold_insR l [] List.Pairwise.nil).1
theorem mem_sortL {l:List Int} {y:Int}:y∈sortL l↔y∈l:=by
 have:=(fold_insR l [] List.Pairwise.nil).2 y
 rw [or_iff_left List.not_mem_nil] at this
 exact this
theorem compact_lt {l:List Int} (h:l.Pairwise (·≤·)):(Lib.compact l).Pairwise (· < ·):=by
 unfold Lib.compact Lib.compactUpTo
 rw [List.pairwise_map]
 refine (List.Pairwise.filter _ List.pairwise_lt_range).imp_of_mem ?_
 intro i j hi hj hij
 have hj1:=List.mem_range.1 (List.mem_filter.1 hj).1
 have hj2:=(List.mem_filter.1 hj).2
 have hi1:i < l.length:=by omega
 unfold Lib.keeps at hj2
 have hne:l.toArray[j]! ≠ l.toArray[j - 1]!:=by
  rcases of_decide_eq_true hj2 with h | h
  ·omega
  ·exact h
 have hp:=List.pairwise_iff_getElem.1 h
 have e1:l.toArray[i]! = l[i]:=by simp [hi1]
 have e2:l.toArray[j]! = l[j]:=by simp [hj1]
 have e3:l.toArray[j - 1]! = l[j - 1]'(by omega):=by simp [show j - 1 < l.length by omega]
 rw [e2,e3] at hne
 rw [e1,e2]
 have h1:=hp (j - 1) j (by omega) hj1 (by omega)
 have h2:l[i]≤l[j - 1]'(by omega):=by
  by_cases e:i=j - 1
  ·subst e; exact Int.le_refl _
  ·exact hp i (j - 1) hi1 (by omega) (by omega)
 omega
theorem mem_compact {l:List Int} {y:Int}:y∈Lib.compact l↔y∈l:=by
 refine ⟨compact_sub,fun hy=>?_⟩
 obtain ⟨j,hj,e,hmin⟩:∃ j,∃ hj:j < l.length,l[j]=y∧∀ i (hi:i < l.length),i < j→l[i]≠y:=by
  have:∃ j,∃ hj:j < l.length,l[j]=y:=List.getElem_of_mem hy
  have hdec:∀ n,(∃ hj:n < l.length,l[n]=y)∨¬ ∃ hj:n < l.length,l[n]=y:=fun n=>Classical.em _
  obtain ⟨j,hj⟩:=this
  induction j using Nat.strongRecOn with
  | _ j ih=>
   by_cases h:∃ i,i < j∧∃ hi:i < l.length,l[i]=y
   ·obtain ⟨i,h1,h2⟩:=h
    exact ih i h1 h2
   ·exact ⟨j,hj.1,hj.2,fun i hi hij e=>h ⟨i,hij,hi,e⟩⟩
 unfold Lib.compact Lib.compactUpTo
 refine List.mem_map.2 ⟨j,List.mem_filter.2 ⟨List.mem_range.2 hj,?_⟩,by simp [hj,e]⟩
 unfold Lib.keeps
 refine decide_eq_true ?_
 by_cases h0:j=0
 ·exact .inl h0
 ·right
  have:=hmin (j - 1) (by omega) (by omega)
  simp [hj,e,show j - 1 < l.length by omega]
  exact fun e=>this e.symm
theorem srt_le {l:List Int}:(srt l).Pairwise (·≤·):=by
 have tr:∀ a b c:Int,decide (a≤b)=true→decide (b≤c)=true→decide (a≤c)=true:=fun a b c h1 h2=>by simp only [decide_eq_true_eq] at *; omega
 have to:∀ a b:Int,(decide (a≤b)||decide (b≤a))=true:=fun a b=>by simp only [Bool.or_eq_true,decide_eq_true_eq]; omega
 exact (List.pairwise_mergeSort tr to l).imp fun h=>by simpa using h
theorem asc_eq {l m:List Int} (hl:l.Pairwise (· < ·)) (hm:m.Pairwise (· < ·)) (h:∀ y,y∈l↔y∈m):l=m:=by
 have hp:l.Perm m:=(List.perm_ext_iff_of_nodup (hl.imp fun h=>by omega) (hm.imp fun h=>by omega)).2 h
 exact List.Perm.eq_of_pairwise (le:=fun a b=>a < b) (fun a b _ _ h1 h2=>by omega) hl hm hp
theorem srtU_lt {l:List Int}:(srtU l).Pairwise (· < ·):=compact_lt srt_le
theorem mem_srtU {l:List Int} {y:Int}:y∈srtU l↔y∈l:=mem_compact.trans (List.mergeSort_perm _ _).mem_iff
/-- The program's sorting and the reference's give the same. -/
theorem srtU_sortL {l:List Int}:srtU l=sortL l:=asc_eq srtU_lt sortL_lt fun y=>by rw [mem_srtU,mem_sortL]
theorem srtU_id {l:List Int} (h:l.Pairwise (· < ·)):srtU l=l:=asc_eq srtU_lt h fun y=>mem_srtU
theorem clR_N {σ:Int→Int} {c:PCl}:clR σ c=clN σ c:=by unfold clR clN; rw [srtU_sortL,srtU_sortL]
theorem joR_C {A B:PCl}:joR A B=joC A B:=by unfold joR joC; rw [srtU_sortL,srtU_sortL]
theorem seL_next {m n:Int} {k:Nat} (h:¬ (k:Int) < m):seL m n (k+1)=seL m n k++[(k:Int)+n - m]:=by
 rw [seL_t (by omega)]
 congr 2; omega
theorem bod26:bodied Tryz.prog 26=true:=by kernel_rfl
set_option maxRecDepth 100000 in
set_option maxHeartbeats 4000000 in
theorem pairR_h (p q:PPred) (a b m:Nat) (ht:p.tab=q.tab) (ha:a < p.cls.length) (hb:b < q.cls.length) (hmc:q.cols=((m:Nat):Int)) (hmp:m≤p.vars.length) (hmq:m≤q.vars.length) (hp:p.vars.length≤500) (hq:q.vars.length≤500) (hpc:p.cls.length≤1000) (hqc:q.cls.length≤1000) (hA:p.cls[a].In 100000) (hB:q.cls[b].In 100000):HCall Tryz.prog 8 [.agg (prA p),.agg (prA q),.v (.int .i64 ((a:Nat):Int)),.v (.int .i64 ((b:Nat):Int))] [] [] (.tup [vsA (p.vars++q.vars.drop m),.agg (clA (joR (clR (renS (idL p.vars.length) ((((p.vars++q.vars.drop m).length:Nat):Int))) p.cls[a]) (clR (renS (idL (p.vars++q.vars.drop m).length) (((((p.vars++q.vars.drop m).length:Nat):Int))+(((clR (renS (idL p.vars.length) ((((p.vars++q.vars.drop m).length:Nat):Int))) p.cls[a]).aux.length:Nat):Int))) (clR (renS (seL q.cols ((p.vars.length:Nat):Int) q.vars.length) ((((p.vars++q.vars.drop m).length:Nat):Int))) q.cls[b]))))]):=by
 have hn:(p.vars++q.vars.drop m).length=p.vars.length+(q.vars.length - m):=by rw [List.length_append,List.length_drop]
 have hm1:MonoN (renS (idL p.vars.length) ((((p.vars++q.vars.drop m).length:Nat):Int))) 100000:=mono_ren1 (by omega)
 have hm2:MonoN (renS (seL q.cols ((p.vars.length:Nat):Int) q.vars.length) ((((p.vars++q.vars.drop m).length:Nat):Int))) 100000:=by rw [hn,hmc]; exact mono_ren2 hmp hmq
 have hA2:(clR (renS (idL p.vars.length) ((((p.vars++q.vars.drop m).length:Nat):Int))) p.cls[a]).Ok:=clR_ok hA.ok
 have hB2:(clR (renS (seL q.cols ((p.vars.length:Nat):Int) q.vars.length) ((((p.vars++q.vars.drop m).length:Nat):Int))) q.cls[b]).In 1000000:=by rw [clR_N]; exact clN_in hB hm2 fun v h1 h2=>by rw [hn,hmc,ren_se h1 hmq]; split <;> omega
 refine HCall.of_body Tryz.func8 rfl Tryz.ntmps8 (Nat.le_of_ble_eq_true rfl) ?_
 refine wS (wR ?_)
 refine oW (LOp.bx rfl) rfl rfl 1 rfl ?_
 refine oW (LOp.bx rfl) rfl rfl 2 rfl ?_
 refine oL (lA (a:=.v _) rfl) rfl rfl ?_
 refine oW (LOp.al zr35 rfl) rfl rfl 3 rfl ?_
 refine oN (aN (wS (wS (wR ?_))))
 refine oL (lF fi25_0 rfl rfl rfl rfl rfl) rfl rfl ?_
 refine oL (lD row3 rfl rfl rfl rfl rfl) rfl rfl ?_
 refine oL (lF fi25_0 rfl rfl rfl rfl rfl) rfl rfl ?_
 refine oL (lD row3 rfl rfl rfl rfl rfl) rfl rfl ?_
 refine oL (lP rfl (fun _ _=>nofun) (fun _=>rfl)) rfl rfl ?_
 refine oL (lM (a:=.v _) rfl) rfl rfl ?_
 refine oB 20 rfl (fun hg20=>?_) (fun hg20=>?_)
 ·skip
  exact absurd hg20 (by simp [ht])
 ·skip
  refine oL (lM (a:=.v _) rfl) rfl rfl ?_
  refine oL (lP rfl (fun _ _=>nofun) (fun _=>rfl)) rfl rfl ?_
  refine oL (lK rfl rfl rfl) rfl rfl ?_
  refine oL (lM (a:=.v _) rfl) rfl rfl ?_
  refine oB 24 rfl (fun hg24=>?_) (fun hg24=>?_)
  ·skip
   exact absurd hg24 (by simp <;> omega)
  ·skip
   refine oL (lM (a:=.v _) rfl) rfl rfl ?_
   refine oL (lP rfl (fun _ _=>nofun) (fun _=>rfl)) rfl rfl ?_
   refine oL (lK rfl rfl rfl) rfl rfl ?_
   refine oL (lM (a:=.v _) rfl) rfl rfl ?_
   refine oB 28 rfl (fun hg28=>?_) (fun hg28=>?_)
   ·skip
    exact absurd hg28 (by simp <;> omega)
   ·skip
    refine oL (lM (a:=.v _) rfl) rfl rfl ?_
    refine oL (lF fi25_3 rfl rfl rfl rfl rfl) rfl rfl ?_
    refine oL (lD row23 rfl rfl rfl rfl rfl) rfl rfl ?_
    refine oL (lT rfl Tryz.underlying23 rfl) rfl rfl ?_
    refine oL (lP rfl (fun _ _=>nofun) (fun _=>rfl)) rfl rfl ?_
    refine oL (lK rfl rfl rfl) rfl rfl ?_
    refine oL (lM (a:=.v _) rfl) rfl rfl ?_
    refine oB 35 rfl (fun hg35=>?_) (fun hg35=>?_)
    ·skip
     exact absurd hg35 (by simp <;> omega)
    ·skip
     refine oL (lM (a:=.v _) rfl) rfl rfl ?_
     refine oL (lF fi25_3 rfl rfl rfl rfl rfl) rfl rfl ?_
     refine oL (lD row23 rfl rfl rfl rfl rfl) rfl rfl ?_
     refine oL (lT rfl Tryz.underlying23 rfl) rfl rfl ?_
     refine oL (lP rfl (fun _ _=>nofun) (fun _=>rfl)) rfl rfl ?_
     refine oL (lK rfl rfl rfl) rfl rfl ?_
     refine oN (aN ?_)
     refine wC rfl (fun hc41=>?_) (fun hc41=>?_)
     ·skip
      exact absurd hc41 (by simp <;> omega)
     ·skip
      refine wK (aN (wS (AWP.regD mixed ?_)))
      refine SeqC.nw (LOp.buildSlice0 3 Tryz.underlying22 sz44) rfl rfl 4 rfl ?_
      refine qL (lF fi25_2 rfl rfl rfl rfl rfl) rfl rfl ?_
      refine qL (lD row22 rfl rfl rfl rfl rfl) rfl rfl ?_
      refine SeqC.gv (LOp.appRowsB rowV (l:=[]) (l':=p.vars) Tryz.underlying22 sz44 zr44 by44 rfl rfl rfl rfl (by simp only [List.length_append,List.length_nil,List.length_drop]; omega) (by simp only [List.length_append,List.length_nil,List.length_drop]; omega) (by unfold TV; omega)) rfl rfl 4 rfl rfl ?_
      refine qL (lF fi25_2 rfl rfl rfl rfl rfl) rfl rfl ?_
      refine qL (lD row22 rfl rfl rfl rfl rfl) rfl rfl ?_
      refine qL (lF fi25_1 rfl rfl rfl rfl rfl) rfl rfl ?_
      refine qL (lD row3 rfl rfl rfl rfl rfl) rfl rfl ?_
      refine qL (LOp.dropT Tryz.underlying22 sz44 rfl rfl hmc hmq) rfl rfl ?_
      refine SeqC.gv (LOp.appRowsB rowV (l:=[]++p.vars) (l':=q.vars.drop m) Tryz.underlying22 sz44 zr44 by44 rfl rfl rfl rfl (by simp only [List.length_append,List.length_nil,List.length_drop]; omega) (by simp only [List.length_append,List.length_nil,List.length_drop]; omega) (by unfold TV; omega)) rfl rfl 4 rfl rfl ?_
      refine qL (lA (a:=.sl _ _ _ _) rfl) rfl rfl ?_
      refine SeqC.nil ⟨by kernel_rfl,?_⟩
      refine aN (wS ?_)
      refine AWP.freeze [3] 10 (vsA (p.vars++q.vars.drop m)) (FzP.rowsF rowV (l:=[]++p.vars++q.vars.drop m) (List.mem_singleton.2 rfl) rfl) rfl ?_
      refine wR ?_
      refine oL (lA (a:=.v _) rfl) rfl rfl ?_
      refine oL (lA (a:=.v _) rfl) rfl rfl ?_
      refine oN (aN (wS (wS (wR ?_))))
      refine oL (lA (a:=.v _) rfl) rfl rfl ?_
      refine oN (aN (wB ?_))
      refine AWP.lazyT 11 1 rfl 5 rfl ?_
      refine wL (fun n s=>∃ k:Nat,n=(p.vars.length - k)∧s=⟨fL [(2,.v (.int .i64 ((a:Nat):Int))),(3,.v (.int .i64 ((b:Nat):Int))),(4,.ptr 0 0 0),(5,.ptr 1 0 0),(9,.ptr 2 0 0),(10,vsA (p.vars++q.vars.drop m)),(11,.sl 4 k 0 (idL k).length),(12,.v (.slice none 0 0)),(13,.v (.int .i64 ((k:Nat):Int)))],hLz [(0,⟨0,prA p,0,false⟩),(1,⟨0,prA q,0,false⟩),(2,⟨0,[.v (.slice none 0 0),.v (.slice none 0 0),.v (.slice none 0 0),.v (.slice none 0 0),.v (.slice none 0 0),.v (.slice none 0 0),.v (.slice none 0 0)],0,false⟩),(4,⟨k,rF iA (idL k),1,Nat.beq (idL k).length 0⟩)],5⟩∧(k≤p.vars.length∧∀ j,j < k→(fun _=>true) j=true)) (n:=(p.vars.length - 0)) (s1:=⟨fL [(2,.v (.int .i64 ((a:Nat):Int))),(3,.v (.int .i64 ((b:Nat):Int))),(4,.ptr 0 0 0),(5,.ptr 1 0 0),(9,.ptr 2 0 0),(10,vsA (p.vars++q.vars.drop m)),(11,.sl 4 0 0 (idL 0).length),(12,.v (.slice none 0 0)),(13,.v (.int .i64 ((0:Nat):Int)))],hLz [(0,⟨0,prA p,0,false⟩),(1,⟨0,prA q,0,false⟩),(2,⟨0,[.v (.slice none 0 0),.v (.slice none 0 0),.v (.slice none 0 0),.v (.slice none 0 0),.v (.slice none 0 0),.v (.slice none 0 0),.v (.slice none 0 0)],0,false⟩),(4,⟨0,rF iA (idL 0),1,Nat.beq (idL 0).length 0⟩)],5⟩) (cO (.cons rfl rfl (.cons rfl rfl (.cons rfl rfl (.cons rfl rfl (.cons rfl rfl (.cons rfl rfl (.cons (by first | rfl | (rw [hstep]; rfl) | (rw [hstep,List.length_append]; rfl)) rfl (.cons rfl rfl (.cons rfl rfl .nil))))))))) (.cons rfl rfl rfl (.cons rfl rfl rfl (.cons rfl rfl rfl (.cons (by first | rfl | (rw [hstep]; rfl) | (rw [hstep,List.length_append]; rfl)) rfl (rF_low rowI _ _) .nil))))) ⟨0,rfl,rfl,⟨Nat.zero_le _,fun j h=>absurd h (Nat.not_lt_zero j)⟩⟩ ?_
      rintro n s ⟨k,rfl,rfl,hinv⟩
      obtain ⟨hk,hj⟩:=hinv
      have hil:=idL_len (n:=k)
      refine wS (wS (wR ?_))
      refine oL (lM (a:=.v _) rfl) rfl rfl ?_
      refine oL (lF fi25_2 rfl rfl rfl rfl rfl) rfl rfl ?_
      refine oL (lD row22 rfl rfl rfl rfl rfl) rfl rfl ?_
      refine oL (lT rfl Tryz.underlying22 rfl) rfl rfl ?_
      refine oL (lP rfl (fun _ _=>nofun) (fun _=>rfl)) rfl rfl ?_
      refine oN (aN ?_)
      refine wC rfl (fun hc57=>?_) (fun hc57=>?_)
      ·skip
       have hlt:k < p.vars.length:=Int.ofNat_lt.1 (of_decide_eq_true hc57)
       have hstep:=idL_next (n:=k)
       refine wK (aN (wS (wB (wR ?_))))
       refine oL (lM (a:=.sl _ _ _ _) rfl) rfl rfl ?_
       refine oL (lM (a:=.v _) rfl) rfl rfl ?_
       refine oW (LOp.bs Tryz.underlying29 sz3 zr3 rfl rfl rfl rfl) rfl rfl 6 rfl ?_
       refine AOps.gv (LOp.appRow rowI (a:=((k:Nat):Int)) Tryz.underlying29 sz3 zr3 by3 rfl rfl rfl (Src.slB rfl rfl rfl rfl) rfl (by omega) (by omega) (by unfold TV; omega)) rfl rfl 6 rfl rfl ?_
       refine oL (lA (a:=.sl _ _ _ _) rfl) rfl rfl ?_
       refine oN (bN (aN (wR ?_)))
       refine oL (lM (a:=.v _) rfl) rfl rfl ?_
       refine oL (lJ rfl rfl (by omega) (by omega)) rfl rfl ?_
       refine oL (lA (a:=.v _) rfl) rfl rfl ?_
       refine oN (aN ?_)
       refine ⟨(p.vars.length - (k+1)),⟨fL [(2,.v (.int .i64 ((a:Nat):Int))),(3,.v (.int .i64 ((b:Nat):Int))),(4,.ptr 0 0 0),(5,.ptr 1 0 0),(9,.ptr 2 0 0),(10,vsA (p.vars++q.vars.drop m)),(11,.sl 4 (k+1) 0 (idL (k+1)).length),(12,.v (.slice none 0 0)),(13,.v (.int .i64 (((k+1):Nat):Int)))],hLz [(0,⟨0,prA p,0,false⟩),(1,⟨0,prA q,0,false⟩),(2,⟨0,[.v (.slice none 0 0),.v (.slice none 0 0),.v (.slice none 0 0),.v (.slice none 0 0),.v (.slice none 0 0),.v (.slice none 0 0),.v (.slice none 0 0)],0,false⟩),(4,⟨(k+1),rF iA (idL (k+1)),1,Nat.beq (idL (k+1)).length 0⟩)],5⟩,by omega,(cO (.cons rfl rfl (.cons rfl rfl (.cons rfl rfl (.cons rfl rfl (.cons rfl rfl (.cons rfl rfl (.cons (by first | rfl | (rw [hstep]; rfl) | (rw [hstep,List.length_append]; rfl)) rfl (.cons rfl rfl (.cons rfl rfl .nil))))))))) (.cons rfl rfl rfl (.cons rfl rfl rfl (.cons rfl rfl rfl (.cons (by first | rfl | (rw [hstep]; rfl) | (rw [hstep,List.length_append]; rfl)) rfl (rF_low rowI _ _) .nil))))),(k+1),rfl,rfl,?_⟩
       refine ⟨by omega,fun j h=>?_⟩
       rcases Nat.lt_succ_iff_lt_or_eq.1 h with h | rfl
       ·exact hj j h
       ·rfl
      ·skip
       have hge:¬ k < p.vars.length:=fun h=>of_decide_eq_false hc57 (Int.ofNat_lt.2 h)
       have hkl:k=p.vars.length:=by omega
       subst hkl
       clear hj hk hge
       refine AWP.exit (aE (aE (bE ?_)))
       refine aN (wS (wS (wR ?_)))
       refine oL (lA (a:=.v _) rfl) rfl rfl ?_
       refine oN (aN (wB ?_))
       refine AWP.lazyT 12 1 rfl 6 rfl ?_
       refine wL (fun n s=>∃ k2:Nat,n=(q.vars.length - k2)∧s=⟨fL [(2,.v (.int .i64 ((a:Nat):Int))),(3,.v (.int .i64 ((b:Nat):Int))),(4,.ptr 0 0 0),(5,.ptr 1 0 0),(9,.ptr 2 0 0),(10,vsA (p.vars++q.vars.drop m)),(11,.sl 4 p.vars.length 0 (idL p.vars.length).length),(12,.sl 5 k2 0 (seL q.cols ((p.vars.length:Nat):Int) k2).length),(14,.v (.int .i64 ((k2:Nat):Int)))],hLz [(0,⟨0,prA p,0,false⟩),(1,⟨0,prA q,0,false⟩),(2,⟨0,[.v (.slice none 0 0),.v (.slice none 0 0),.v (.slice none 0 0),.v (.slice none 0 0),.v (.slice none 0 0),.v (.slice none 0 0),.v (.slice none 0 0)],0,false⟩),(4,⟨p.vars.length,rF iA (idL p.vars.length),1,Nat.beq (idL p.vars.length).length 0⟩),(5,⟨k2,rF iA (seL q.cols ((p.vars.length:Nat):Int) k2),1,Nat.beq (seL q.cols ((p.vars.length:Nat):Int) k2).length 0⟩)],6⟩∧(k2≤q.vars.length∧∀ j,j < k2→(fun _=>true) j=true)) (n:=(q.vars.length - 0)) (s1:=⟨fL [(2,.v (.int .i64 ((a:Nat):Int))),(3,.v (.int .i64 ((b:Nat):Int))),(4,.ptr 0 0 0),(5,.ptr 1 0 0),(9,.ptr 2 0 0),(10,vsA (p.vars++q.vars.drop m)),(11,.sl 4 p.vars.length 0 (idL p.vars.length).length),(12,.sl 5 0 0 (seL q.cols ((p.vars.length:Nat):Int) 0).length),(14,.v (.int .i64 ((0:Nat):Int)))],hLz [(0,⟨0,prA p,0,false⟩),(1,⟨0,prA q,0,false⟩),(2,⟨0,[.v (.slice none 0 0),.v (.slice none 0 0),.v (.slice none 0 0),.v (.slice none 0 0),.v (.slice none 0 0),.v (.slice none 0 0),.v (.slice none 0 0)],0,false⟩),(4,⟨p.vars.length,rF iA (idL p.vars.length),1,Nat.beq (idL p.vars.length).length 0⟩),(5,⟨0,rF iA (seL q.cols ((p.vars.length:Nat):Int) 0),1,Nat.beq (seL q.cols ((p.vars.length:Nat):Int) 0).length 0⟩)],6⟩) (cO (.cons rfl rfl (.cons rfl rfl (.cons rfl rfl (.cons rfl rfl (.cons rfl rfl (.cons rfl rfl (.cons rfl rfl (.cons (by first | rfl | (rw [hstep]; rfl) | (rw [hstep,List.length_append]; rfl)) rfl (.cons rfl rfl .nil))))))))) (.cons rfl rfl rfl (.cons rfl rfl rfl (.cons rfl rfl rfl (.cons rfl rfl (rF_low rowI _ _) (.cons (by first | rfl | (rw [hstep]; rfl) | (rw [hstep,List.length_append]; rfl)) rfl (rF_low rowI _ _) .nil)))))) ⟨0,rfl,rfl,⟨Nat.zero_le _,fun j h=>absurd h (Nat.not_lt_zero j)⟩⟩ ?_
       rintro n s ⟨k2,rfl,rfl,hinv⟩
       obtain ⟨hk,hj⟩:=hinv
       have hil:=seL_len (m:=q.cols) (n:=((p.vars.length:Nat):Int)) (k:=k2)
       refine wS (wS (wR ?_))
       refine oL (lM (a:=.v _) rfl) rfl rfl ?_
       refine oL (lF fi25_2 rfl rfl rfl rfl rfl) rfl rfl ?_
       refine oL (lD row22 rfl rfl rfl rfl rfl) rfl rfl ?_
       refine oL (lT rfl Tryz.underlying22 rfl) rfl rfl ?_
       refine oL (lP rfl (fun _ _=>nofun) (fun _=>rfl)) rfl rfl ?_
       refine oN (aN ?_)
       refine wC rfl (fun hc68=>?_) (fun hc68=>?_)
       ·skip
        have hlt:k2 < q.vars.length:=Int.ofNat_lt.1 (of_decide_eq_true hc68)
        refine wK (aN (wS (wB (wS (wR ?_)))))
        refine oL (lM (a:=.v _) rfl) rfl rfl ?_
        refine oL (lF fi25_1 rfl rfl rfl rfl rfl) rfl rfl ?_
        refine oL (lD row3 rfl rfl rfl rfl rfl) rfl rfl ?_
        refine oL (lP rfl (fun _ _=>nofun) (fun _=>rfl)) rfl rfl ?_
        refine oN (aN ?_)
        refine wC rfl (fun hc74=>?_) (fun hc74=>?_)
        ·skip
         have hc74b:((k2:Nat):Int) < q.cols:=of_decide_eq_true hc74
         have hstep:=seL_f (n:=((p.vars.length:Nat):Int)) (k:=k2) (m:=q.cols) (by omega)
         refine wR ?_
         refine oL (lM (a:=.sl _ _ _ _) rfl) rfl rfl ?_
         refine oL (lM (a:=.v _) rfl) rfl rfl ?_
         refine oW (LOp.bs Tryz.underlying29 sz3 zr3 rfl rfl rfl rfl) rfl rfl 7 rfl ?_
         refine AOps.gv (LOp.appRow rowI (a:=((k2:Nat):Int)) Tryz.underlying29 sz3 zr3 by3 rfl rfl rfl (Src.slB rfl rfl rfl rfl) rfl (by omega) (by omega) (by unfold TV; omega)) rfl rfl 7 rfl rfl ?_
         refine oL (lA (a:=.sl _ _ _ _) rfl) rfl rfl ?_
         refine oN (bN (aN (wR ?_)))
         refine oL (lM (a:=.v _) rfl) rfl rfl ?_
         refine oL (lJ rfl rfl (by omega) (by omega)) rfl rfl ?_
         refine oL (lA (a:=.v _) rfl) rfl rfl ?_
         refine oN (aN ?_)
         refine ⟨(q.vars.length - (k2+1)),⟨fL [(2,.v (.int .i64 ((a:Nat):Int))),(3,.v (.int .i64 ((b:Nat):Int))),(4,.ptr 0 0 0),(5,.ptr 1 0 0),(9,.ptr 2 0 0),(10,vsA (p.vars++q.vars.drop m)),(11,.sl 4 p.vars.length 0 (idL p.vars.length).length),(12,.sl 5 (k2+1) 0 (seL q.cols ((p.vars.length:Nat):Int) (k2+1)).length),(14,.v (.int .i64 (((k2+1):Nat):Int)))],hLz [(0,⟨0,prA p,0,false⟩),(1,⟨0,prA q,0,false⟩),(2,⟨0,[.v (.slice none 0 0),.v (.slice none 0 0),.v (.slice none 0 0),.v (.slice none 0 0),.v (.slice none 0 0),.v (.slice none 0 0),.v (.slice none 0 0)],0,false⟩),(4,⟨p.vars.length,rF iA (idL p.vars.length),1,Nat.beq (idL p.vars.length).length 0⟩),(5,⟨(k2+1),rF iA (seL q.cols ((p.vars.length:Nat):Int) (k2+1)),1,Nat.beq (seL q.cols ((p.vars.length:Nat):Int) (k2+1)).length 0⟩)],6⟩,by omega,(cO (.cons rfl rfl (.cons rfl rfl (.cons rfl rfl (.cons rfl rfl (.cons rfl rfl (.cons rfl rfl (.cons rfl rfl (.cons (by first | rfl | (rw [hstep]; rfl) | (rw [hstep,List.length_append]; rfl)) rfl (.cons rfl rfl .nil))))))))) (.cons rfl rfl rfl (.cons rfl rfl rfl (.cons rfl rfl rfl (.cons rfl rfl (rF_low rowI _ _) (.cons (by first | rfl | (rw [hstep]; rfl) | (rw [hstep,List.length_append]; rfl)) rfl (rF_low rowI _ _) .nil)))))),(k2+1),rfl,rfl,?_⟩
         refine ⟨by omega,fun j h=>?_⟩
         rcases Nat.lt_succ_iff_lt_or_eq.1 h with h | rfl
         ·exact hj j h
         ·rfl
        ·skip
         have hstep:=seL_next (n:=((p.vars.length:Nat):Int)) (of_decide_eq_false hc74)
         refine wR ?_
         refine oL (lM (a:=.sl _ _ _ _) rfl) rfl rfl ?_
         refine oL (lM (a:=.v _) rfl) rfl rfl ?_
         refine oL (lF fi25_2 rfl rfl rfl rfl rfl) rfl rfl ?_
         refine oL (lD row22 rfl rfl rfl rfl rfl) rfl rfl ?_
         refine oL (lT rfl Tryz.underlying22 rfl) rfl rfl ?_
         refine oL (lJ rfl rfl (by omega) (by omega)) rfl rfl ?_
         refine oL (lF fi25_1 rfl rfl rfl rfl rfl) rfl rfl ?_
         refine oL (lD row3 rfl rfl rfl rfl rfl) rfl rfl ?_
         refine oL (LOp.subI rfl rfl (by omega) (by omega)) rfl rfl ?_
         refine oW (LOp.bs Tryz.underlying29 sz3 zr3 rfl rfl rfl rfl) rfl rfl 7 rfl ?_
         refine AOps.gv (LOp.appRow rowI (a:=((k2:Nat):Int)+((p.vars.length:Nat):Int) - q.cols) Tryz.underlying29 sz3 zr3 by3 rfl rfl rfl (Src.slB rfl rfl rfl rfl) rfl (by omega) (by omega) (by unfold TV; omega)) rfl rfl 7 rfl rfl ?_
         refine oL (lA (a:=.sl _ _ _ _) rfl) rfl rfl ?_
         refine oN (bN (aN (wR ?_)))
         refine oL (lM (a:=.v _) rfl) rfl rfl ?_
         refine oL (lJ rfl rfl (by omega) (by omega)) rfl rfl ?_
         refine oL (lA (a:=.v _) rfl) rfl rfl ?_
         refine oN (aN ?_)
         refine ⟨(q.vars.length - (k2+1)),⟨fL [(2,.v (.int .i64 ((a:Nat):Int))),(3,.v (.int .i64 ((b:Nat):Int))),(4,.ptr 0 0 0),(5,.ptr 1 0 0),(9,.ptr 2 0 0),(10,vsA (p.vars++q.vars.drop m)),(11,.sl 4 p.vars.length 0 (idL p.vars.length).length),(12,.sl 5 (k2+1) 0 (seL q.cols ((p.vars.length:Nat):Int) (k2+1)).length),(14,.v (.int .i64 (((k2+1):Nat):Int)))],hLz [(0,⟨0,prA p,0,false⟩),(1,⟨0,prA q,0,false⟩),(2,⟨0,[.v (.slice none 0 0),.v (.slice none 0 0),.v (.slice none 0 0),.v (.slice none 0 0),.v (.slice none 0 0),.v (.slice none 0 0),.v (.slice none 0 0)],0,false⟩),(4,⟨p.vars.length,rF iA (idL p.vars.length),1,Nat.beq (idL p.vars.length).length 0⟩),(5,⟨(k2+1),rF iA (seL q.cols ((p.vars.length:Nat):Int) (k2+1)),1,Nat.beq (seL q.cols ((p.vars.length:Nat):Int) (k2+1)).length 0⟩)],6⟩,by omega,(cO (.cons rfl rfl (.cons rfl rfl (.cons rfl rfl (.cons rfl rfl (.cons rfl rfl (.cons rfl rfl (.cons rfl rfl (.cons (by first | rfl | (rw [hstep]; rfl) | (rw [hstep,List.length_append]; rfl)) rfl (.cons rfl rfl .nil))))))))) (.cons rfl rfl rfl (.cons rfl rfl rfl (.cons rfl rfl rfl (.cons rfl rfl (rF_low rowI _ _) (.cons (by first | rfl | (rw [hstep]; rfl) | (rw [hstep,List.length_append]; rfl)) rfl (rF_low rowI _ _) .nil)))))),(k2+1),rfl,rfl,?_⟩
         refine ⟨by omega,fun j h=>?_⟩
         rcases Nat.lt_succ_iff_lt_or_eq.1 h with h | rfl
         ·exact hj j h
         ·rfl
       ·skip
        have hge:¬ k2 < q.vars.length:=fun h=>of_decide_eq_false hc68 (Int.ofNat_lt.2 h)
        have hkl:k2=q.vars.length:=by omega
        subst hkl
        clear hj hk hge
        refine AWP.exit (aE (aE (bE ?_)))
        refine aN (wS (AWP.regD mixed ?_))
        refine qL (lM (a:=.tree _ _) rfl) rfl rfl ?_
        refine qL (lF fi25_3 rfl rfl rfl rfl rfl) rfl rfl ?_
        refine qL (lD row23 rfl rfl rfl rfl rfl) rfl rfl ?_
        refine qL (lM (a:=.v _) rfl) rfl rfl ?_
        refine qL (lI Tryz.underlying23 sz35 rfl rfl (by first | assumption | omega)) rfl rfl ?_
        refine qL (LOp.ldTN row35 rfl rfl) rfl rfl ?_
        refine qL (lM (a:=.sl _ _ _ _) rfl) rfl rfl ?_
        refine qL (lM (a:=.tree _ _) rfl) rfl rfl ?_
        refine qL (lT rfl Tryz.underlying22 rfl) rfl rfl ?_
        refine SeqC.gv (LOp.callF [4] bod27 rfl (fun j h h'=>match j,h with | 0,_=>FzP.pure rfl | 1,_=>FzP.rows rowI (List.mem_singleton.2 rfl) rfl | 2,_=>FzP.pure rfl) (use1 rfl) (renameR_p (idL p.vars.length) _ 100000 (by rw [idL_len]; omega) (by omega) (by omega) (by omega) hm1 p.cls[a] hA)) rfl rfl 6 rfl rfl ?_
        refine qL (lF fi25_3 rfl rfl rfl rfl rfl) rfl rfl ?_
        refine qL (lD row23 rfl rfl rfl rfl rfl) rfl rfl ?_
        refine qL (lM (a:=.v _) rfl) rfl rfl ?_
        refine qL (lI Tryz.underlying23 sz35 rfl rfl (by first | assumption | omega)) rfl rfl ?_
        refine qL (LOp.ldTN row35 rfl rfl) rfl rfl ?_
        refine qL (lM (a:=.sl _ _ _ _) rfl) rfl rfl ?_
        refine qL (lM (a:=.tree _ _) rfl) rfl rfl ?_
        refine qL (lT rfl Tryz.underlying22 rfl) rfl rfl ?_
        refine SeqC.gv (LOp.callF [5] bod27 rfl (fun j h h'=>match j,h with | 0,_=>FzP.pure rfl | 1,_=>FzP.rows rowI (List.mem_singleton.2 rfl) rfl | 2,_=>FzP.pure rfl) (use1 rfl) (renameR_p (seL q.cols ((p.vars.length:Nat):Int) q.vars.length) _ 100000 (by rw [seL_len]; omega) (by omega) (by omega) (by omega) hm2 q.cls[b] hB)) rfl rfl 6 rfl rfl ?_
        refine qL (lM (a:=.tree _ _) rfl) rfl rfl ?_
        refine qL (lT rfl Tryz.underlying22 rfl) rfl rfl ?_
        refine qL (LOp.call bod26 rfl (joinR_p (clR (renS (idL p.vars.length) ((((p.vars++q.vars.drop m).length:Nat):Int))) p.cls[a]) (clR (renS (seL q.cols ((p.vars.length:Nat):Int) q.vars.length) ((((p.vars++q.vars.drop m).length:Nat):Int))) q.cls[b]) (p.vars++q.vars.drop m).length 1000000 (by omega) (by omega) hA2 hB2)) rfl rfl ?_
        refine qL (lA (a:=.tree _ _) rfl) rfl rfl ?_
        refine SeqC.wr (LOp.st sz35 rfl rfl rfl rfl rfl rfl rfl rfl) rfl rfl rfl ?_
        refine SeqC.nil ⟨by kernel_rfl,?_⟩
        refine aN ?_
        refine wT (?_)
        refine ⟨.inr rfl,OutsH.of [] (ResIs.res Tryz.results8 (.cons (OutX.tmp rfl) (.cons (OutX.cellN row35 rfl rfl trivial rfl rfl rfl) .nil))) rfl trivial (.tup (.same (.fz (FzP.pure rfl) .nil)))⟩
set_option maxRecDepth 100000 in
set_option maxHeartbeats 4000000 in
theorem pairR0_h (p q:PPred) (i j:Int) (hno:noPair p q i j) (hpc:p.cls.length≤1000) (hqc:q.cls.length≤1000):HCall Tryz.prog 8 [.agg (prA p),.agg (prA q),.v (.int .i64 i),.v (.int .i64 j)] [] [] (.tup [vsA [],.agg (clA default)]):=by
 refine HCall.of_body Tryz.func8 rfl Tryz.ntmps8 (Nat.le_of_ble_eq_true rfl) ?_
 refine wS (wR ?_)
 refine oW (LOp.bx rfl) rfl rfl 1 rfl ?_
 refine oW (LOp.bx rfl) rfl rfl 2 rfl ?_
 refine oL (lA (a:=.v _) rfl) rfl rfl ?_
 refine oW (LOp.al zr35 rfl) rfl rfl 3 rfl ?_
 refine oN (aN (wS (wS (wR ?_))))
 refine oL (lF fi25_0 rfl rfl rfl rfl rfl) rfl rfl ?_
 refine oL (lD row3 rfl rfl rfl rfl rfl) rfl rfl ?_
 refine oL (lF fi25_0 rfl rfl rfl rfl rfl) rfl rfl ?_
 refine oL (lD row3 rfl rfl rfl rfl rfl) rfl rfl ?_
 refine oL (lP rfl (fun _ _=>nofun) (fun _=>rfl)) rfl rfl ?_
 refine oL (lM (a:=.v _) rfl) rfl rfl ?_
 refine oB 20 rfl (fun hg20=>?_) (fun hg20=>?_)
 ·skip
  refine oS rfl rfl ?_
  refine oS rfl rfl ?_
  refine oL (LOp.pkT (a:=.v _) rfl (by first | rfl | assumption) rfl) rfl rfl ?_
  refine oL (lM (a:=.v _) rfl) rfl rfl ?_
  refine oS rfl rfl ?_
  refine oS rfl rfl ?_
  refine oL (LOp.pkT (a:=.v _) rfl (by first | rfl | assumption) rfl) rfl rfl ?_
  refine oL (lM (a:=.v _) rfl) rfl rfl ?_
  refine oS rfl rfl ?_
  refine oS rfl rfl ?_
  refine oS rfl rfl ?_
  refine oS rfl rfl ?_
  refine oS rfl rfl ?_
  refine oL (LOp.pkT (a:=.v _) rfl (by first | rfl | assumption) rfl) rfl rfl ?_
  refine oL (lM (a:=.v _) rfl) rfl rfl ?_
  refine oS rfl rfl ?_
  refine oS rfl rfl ?_
  refine oS rfl rfl ?_
  refine oS rfl rfl ?_
  refine oS rfl rfl ?_
  refine oL (LOp.pkT (a:=.v _) rfl (by first | rfl | assumption) rfl) rfl rfl ?_
  refine oN (aN ?_)
  refine AWP.condT rfl ?_
  refine wS (wR ?_)
  refine oL (LOp.bd zr35 pl35 rfl rfl) rfl rfl ?_
  refine oL (lA (a:=.v _) rfl) rfl rfl ?_
  refine AOps.wr (LOp.st sz35 rfl rfl rfl rfl rfl rfl rfl rfl) rfl rfl rfl ?_
  refine oN (aN ?_)
  refine wT (aR (?_))
  refine ⟨.inr rfl,OutsH.of [] (ResIs.res Tryz.results8 (.cons (OutX.tmp rfl) (.cons (OutX.cellN row35 rfl rfl trivial rfl rfl rfl) .nil))) rfl trivial (.tup (.fz FzP.nil (.fz fz_nilC .nil)))⟩
 ·skip
  refine oL (lM (a:=.v _) rfl) rfl rfl ?_
  refine oL (lP rfl (fun _ _=>nofun) (fun _=>rfl)) rfl rfl ?_
  refine oL (lK rfl rfl rfl) rfl rfl ?_
  refine oL (lM (a:=.v _) rfl) rfl rfl ?_
  refine oB 24 rfl (fun hg24=>?_) (fun hg24=>?_)
  ·skip
   refine oS rfl rfl ?_
   refine oS rfl rfl ?_
   refine oL (LOp.pkT (a:=.v _) rfl (by first | rfl | assumption) rfl) rfl rfl ?_
   refine oL (lM (a:=.v _) rfl) rfl rfl ?_
   refine oS rfl rfl ?_
   refine oS rfl rfl ?_
   refine oS rfl rfl ?_
   refine oS rfl rfl ?_
   refine oS rfl rfl ?_
   refine oL (LOp.pkT (a:=.v _) rfl (by first | rfl | assumption) rfl) rfl rfl ?_
   refine oL (lM (a:=.v _) rfl) rfl rfl ?_
   refine oS rfl rfl ?_
   refine oS rfl rfl ?_
   refine oS rfl rfl ?_
   refine oS rfl rfl ?_
   refine oS rfl rfl ?_
   refine oL (LOp.pkT (a:=.v _) rfl (by first | rfl | assumption) rfl) rfl rfl ?_
   refine oN (aN ?_)
   refine AWP.condT rfl ?_
   refine wS (wR ?_)
   refine oL (LOp.bd zr35 pl35 rfl rfl) rfl rfl ?_
   refine oL (lA (a:=.v _) rfl) rfl rfl ?_
   refine AOps.wr (LOp.st sz35 rfl rfl rfl rfl rfl rfl rfl rfl) rfl rfl rfl ?_
   refine oN (aN ?_)
   refine wT (aR (?_))
   refine ⟨.inr rfl,OutsH.of [] (ResIs.res Tryz.results8 (.cons (OutX.tmp rfl) (.cons (OutX.cellN row35 rfl rfl trivial rfl rfl rfl) .nil))) rfl trivial (.tup (.fz FzP.nil (.fz fz_nilC .nil)))⟩
  ·skip
   refine oL (lM (a:=.v _) rfl) rfl rfl ?_
   refine oL (lP rfl (fun _ _=>nofun) (fun _=>rfl)) rfl rfl ?_
   refine oL (lK rfl rfl rfl) rfl rfl ?_
   refine oL (lM (a:=.v _) rfl) rfl rfl ?_
   refine oB 28 rfl (fun hg28=>?_) (fun hg28=>?_)
   ·skip
    refine oS rfl rfl ?_
    refine oS rfl rfl ?_
    refine oS rfl rfl ?_
    refine oS rfl rfl ?_
    refine oS rfl rfl ?_
    refine oL (LOp.pkT (a:=.v _) rfl (by first | rfl | assumption) rfl) rfl rfl ?_
    refine oL (lM (a:=.v _) rfl) rfl rfl ?_
    refine oS rfl rfl ?_
    refine oS rfl rfl ?_
    refine oS rfl rfl ?_
    refine oS rfl rfl ?_
    refine oS rfl rfl ?_
    refine oL (LOp.pkT (a:=.v _) rfl (by first | rfl | assumption) rfl) rfl rfl ?_
    refine oN (aN ?_)
    refine AWP.condT rfl ?_
    refine wS (wR ?_)
    refine oL (LOp.bd zr35 pl35 rfl rfl) rfl rfl ?_
    refine oL (lA (a:=.v _) rfl) rfl rfl ?_
    refine AOps.wr (LOp.st sz35 rfl rfl rfl rfl rfl rfl rfl rfl) rfl rfl rfl ?_
    refine oN (aN ?_)
    refine wT (aR (?_))
    refine ⟨.inr rfl,OutsH.of [] (ResIs.res Tryz.results8 (.cons (OutX.tmp rfl) (.cons (OutX.cellN row35 rfl rfl trivial rfl rfl rfl) .nil))) rfl trivial (.tup (.fz FzP.nil (.fz fz_nilC .nil)))⟩
   ·skip
    refine oL (lM (a:=.v _) rfl) rfl rfl ?_
    refine oL (lF fi25_3 rfl rfl rfl rfl rfl) rfl rfl ?_
    refine oL (lD row23 rfl rfl rfl rfl rfl) rfl rfl ?_
    refine oL (lT rfl Tryz.underlying23 rfl) rfl rfl ?_
    refine oL (lP rfl (fun _ _=>nofun) (fun _=>rfl)) rfl rfl ?_
    refine oL (lK rfl rfl rfl) rfl rfl ?_
    refine oL (lM (a:=.v _) rfl) rfl rfl ?_
    refine oB 35 rfl (fun hg35=>?_) (fun hg35=>?_)
    ·skip
     refine oS rfl rfl ?_
     refine oS rfl rfl ?_
     refine oS rfl rfl ?_
     refine oS rfl rfl ?_
     refine oS rfl rfl ?_
     refine oL (LOp.pkT (a:=.v _) rfl (by first | rfl | assumption) rfl) rfl rfl ?_
     refine oN (aN ?_)
     refine AWP.condT rfl ?_
     refine wS (wR ?_)
     refine oL (LOp.bd zr35 pl35 rfl rfl) rfl rfl ?_
     refine oL (lA (a:=.v _) rfl) rfl rfl ?_
     refine AOps.wr (LOp.st sz35 rfl rfl rfl rfl rfl rfl rfl rfl) rfl rfl rfl ?_
     refine oN (aN ?_)
     refine wT (aR (?_))
     refine ⟨.inr rfl,OutsH.of [] (ResIs.res Tryz.results8 (.cons (OutX.tmp rfl) (.cons (OutX.cellN row35 rfl rfl trivial rfl rfl rfl) .nil))) rfl trivial (.tup (.fz FzP.nil (.fz fz_nilC .nil)))⟩
    ·skip
     refine oL (lM (a:=.v _) rfl) rfl rfl ?_
     refine oL (lF fi25_3 rfl rfl rfl rfl rfl) rfl rfl ?_
     refine oL (lD row23 rfl rfl rfl rfl rfl) rfl rfl ?_
     refine oL (lT rfl Tryz.underlying23 rfl) rfl rfl ?_
     refine oL (lP rfl (fun _ _=>nofun) (fun _=>rfl)) rfl rfl ?_
     refine oL (lK rfl rfl rfl) rfl rfl ?_
     refine oN (aN ?_)
     refine wC rfl (fun hc41=>?_) (fun hc41=>?_)
     ·skip
      refine wS (wR ?_)
      refine oL (LOp.bd zr35 pl35 rfl rfl) rfl rfl ?_
      refine oL (lA (a:=.v _) rfl) rfl rfl ?_
      refine AOps.wr (LOp.st sz35 rfl rfl rfl rfl rfl rfl rfl rfl) rfl rfl rfl ?_
      refine oN (aN ?_)
      refine wT (aR (?_))
      refine ⟨.inr rfl,OutsH.of [] (ResIs.res Tryz.results8 (.cons (OutX.tmp rfl) (.cons (OutX.cellN row35 rfl rfl trivial rfl rfl rfl) .nil))) rfl trivial (.tup (.fz FzP.nil (.fz fz_nilC .nil)))⟩
     ·skip
      exact absurd hno (by unfold noPair; simp at *; omega)
end Go.Proofs.YtgknefkobpnjaaaGreatDoor
