/- Texts of the claim. -/
import Derived.Test.YtgknefkobpnjaaaGreatDoorP1
namespace Go.Proofs.YtgknefkobpnjaaaGreatDoor
set_option linter.unusedVariables false
set_option linter.unusedSimpArgs false
open Go.RowKit
/-- The first lists, one after the other. -/
def catL {α:Type} (ls:List (List α)) (k:Nat):List α:=(ls.take k).flatten
section
variable {α:Type} {ls:List (List α)} {k:Nat}
theorem catL_next (h:k < ls.length):catL ls (k+1)=catL ls k++ls[k]:=by
 unfold catL
 rw [List.take_succ_eq_append_getElem h,List.flatten_append]; simp
theorem ctl (h:k < ls.length):(catL ls (k+1)).length=(catL ls k).length+ls[k].length:=by rw [catL_next h,List.length_append]
theorem catL_all:catL ls ls.length=ls.flatten:=by unfold catL; rw [List.take_length]
theorem catL_le (hl:ls.flatten.length≤100000) (k:Nat):(catL ls k).length≤100000:=by
 have:(catL ls k).length≤ls.flatten.length:=by
  have h:=congrArg (fun l=>(List.flatten l).length) (List.take_append_drop k ls)
  simp only [List.flatten_append,List.length_append] at h
  unfold catL
  omega
 omega
theorem catL_step {f:α→List AV} {q:Nat} (hf:RowF f q) (h:k < ls.length):(rF f (catL ls k)).take ((catL ls k).length * q)++(ls[k].map f).flatten=rF f (catL ls (k+1)):=by
 rw [← rF_len hf,List.take_length,catL_next h,rF_app]; rfl
end
/-- A list of rows, as a row. -/
abbrev lstA {α:Type} (q:Nat) (f:α→List AV) (l:List α):List AV:=[.tree q (l.map f)]
theorem rowL {α:Type} {q:Nat} {f:α→List AV}:RowF (lstA q f) 1:=⟨fun _=>rfl,fun _=>rfl,fun _ _=>rfl,fun _ _=>rfl,fun _ _=>rfl,fun _=>rfl⟩
theorem fz_ls {α:Type} {q v:Nat} {f:α→List AV} {ls:List (List α)} {fp:List Nat} {η:Heap} {id:Nat} (hid:id∈fp) (hb:η id=some ⟨v,rF (lstA q f) ls,1,false⟩):FzP fp η (.sl id v 0 ls.length) (.tree 1 (ls.map (lstA q f))):=FzP.rowsF rowL hid hb
theorem OutsH.to {P:Program} {N:Nat} {fn:Func} {s:St} {h1 h2:List (Nat×Option Blk)} {ret:AV} (h:OutsH P N fn s h1 ret) (e:heapO h1=heapO h2):OutsH P N fn s h2 ret:=by
 intro C a hs
 obtain ⟨x,C',q1,q2,q3,q4⟩:=h C a hs
 exact ⟨x,C',q1,q2,q3.trans e,q4⟩
theorem heapO_gone {b:Blk}:heapO [(0,some b)]=heapO [(0,some b),(TOP,none)]:=by
 funext i
 cases h:Nat.beq i 0 <;> cases h2:Nat.beq i TOP <;> simp only [heapO,h,h2,cond_true,cond_false]
theorem rowV:RowF vA 5:=⟨fun _=>rfl,fun _=>rfl,fun _ _=>rfl,fun _ _=>rfl,fun _ _=>rfl,fun _=>rfl⟩
theorem bod100:bodied Tryz.prog 100=true:=by kernel_rfl
theorem bod48:bodied Tryz.prog 48=true:=by kernel_rfl
theorem bod97:bodied Tryz.prog 97=true:=by kernel_rfl
theorem bod98:bodied Tryz.prog 98=true:=by kernel_rfl
theorem bod99:bodied Tryz.prog 99=true:=by kernel_rfl
theorem by44:(Tryz.prog.info? 44).map (·.bytes)=some 40:=by kernel_rfl
theorem sz22:sizeInfo Tryz.prog 22=some 1:=by kernel_rfl
theorem sz29:sizeInfo Tryz.prog 29=some 1:=by kernel_rfl
theorem zr44:zeroOf Tryz.prog 44=some (.agg #[.int .i64 0,.int .i64 0,.int .i64 0,.int .i64 0,.bool false]):=by kernel_rfl
theorem grow0_97 (m:Int) (h:m=0):PCall Tryz.prog 97 [.v (.slice none 0 0),.v (.int .i64 m)] (.v (.slice none 0 0)):=by
 subst h
 intro T w vals hv hT
 rw [two_args hv]
 refine (Any8.slices_Grow_room Tryz.growI none 0 0 0 w (Nat.le_refl _) (by omega) (by omega) (by omega)).mono ?_
 rintro e w' ⟨rfl,rfl⟩
 exact ⟨_,T,rfl,.v _,fun _ h=>h,fun _ h=>.inl h,fun b hb=>hT b hb,Below.refl _ _⟩
theorem growf_97 {z:Value} {B:Nat} (m:Nat) (h0:0 < m) (h1:m≤100000) (hs:sizeInfo Tryz.prog 3=some 1) (hz:zeroOf Tryz.prog 3=some z) (hzq:z.cells.size=1) (hb:(Tryz.prog.info? 3).map (·.bytes)=some B) (hB:B≤1000):Fresh Tryz.prog 97 [.v (.slice none 0 0),.v (.int .i64 ((m:Nat):Int))] 1:=by
 intro T w vals hv hT
 rw [two_args hv]
 unfold sizeInfo at hs
 unfold zeroOf at hz
 cases hi:Tryz.prog.info? 3 with
 | none=>rw [hi] at hs; cases hs
 | some inf=>
  rw [hi] at hz hs hb
  simp only [Option.bind_some] at hz
  simp only [Option.map_some,Option.some.injEq] at hs hb
  have hmB:(0+m) * inf.bytes≤140737488355328:=by
   rw [hb]
   exact Nat.le_trans (Nat.mul_le_mul (Nat.le_of_eq (Nat.zero_add m)) hB) (by omega)
  refine (Any8.slices_Grow_grow Tryz.growI inf _ hi hz (by omega) none 0 0 m [] w (Nat.le_refl _) (by omega) (by omega) (by omega) (by simp) (fun _=>rfl) (fun a h=>by cases h)).mono ?_
  rintro e w' ⟨rfl,rfl⟩
  have hge:=grownCap_ge w (0+m) 0 3
  have hmx:grownCap w (0+m) 0 3≤maxLen:=grownCap_le_maxLen w (0+m) 0 3 (by unfold maxLen; omega)
  refine ⟨w.heap.size,0,_,_,3,rfl,?_,Nat.le_refl _,heap_alloc_new w.drew _,hmx,?_⟩
  ·exact ⟨rfl,rfl,rfl,by simp,fun k hk=>Below.heap_alloc w.drew _ k hk⟩
  ·have e26:(Tryz.growI_ren.t 25)=3:=rfl
   simp only [e26,Array.size_append,size_zeroCells,hzq]
   simp
   omega
set_option maxRecDepth 100000 in
set_option maxHeartbeats 4000000 in
theorem cat0_53 (ls:List (List Int)) (v:Nat) (hn:ls.length≤1000) (h0:ls.flatten.length=0):HCall Tryz.prog 53 [.sl TOP TV 0 ls.length] [(TOP,⟨TV,rF (lstA 1 iA) ls,1,false⟩)] [(0,some (⟨v,[],1,true⟩)),(TOP,none)] (.sl 0 v 0 0):=by
 have hl:ls.flatten.length≤100000:=by omega
 refine HCall.of_body Tryz.func53 rfl Tryz.ntmps53 (Nat.le_of_ble_eq_true rfl) ?_
 refine wS ?_
 refine AWP.freeze [TOP] 0 (.tree 1 (ls.map (lstA 1 iA))) (fz_ls (List.mem_singleton.2 rfl) rfl) rfl ?_
 refine wR ?_
 refine oL (lA (a:=.v _) rfl) rfl rfl ?_
 refine oN (aN (wS (wR ?_)))
 refine oL (lA (a:=.v _) rfl) rfl rfl ?_
 refine oN (aN (wS (wS (wR ?_))))
 refine oL (lM (a:=.tree _ _) rfl) rfl rfl ?_
 refine oL (lT rfl Tryz.underlying166 rfl) rfl rfl ?_
 refine oL (lM (a:=.v _) rfl) rfl rfl ?_
 refine oN (aN (wB ?_))
 refine wL (fun n s=>∃ k:Nat,n=(ls.length - k)∧s=⟨fL [(0,.tree 1 (ls.map (lstA 1 iA))),(3,.v (.int .i64 (((catL ls k).length:Nat):Int))),(9,.tree 1 (ls.map (lstA 1 iA))),(10,.v (.int .i64 ((ls.length:Nat):Int))),(11,.v (.int .i64 ((k:Nat):Int)))],hLz [],0⟩∧(k≤ls.length∧∀ j,j < k→(fun _=>true) j=true)) (n:=(ls.length - 0)) (s1:=⟨fL [(0,.tree 1 (ls.map (lstA 1 iA))),(3,.v (.int .i64 (((catL ls 0).length:Nat):Int))),(9,.tree 1 (ls.map (lstA 1 iA))),(10,.v (.int .i64 ((ls.length:Nat):Int))),(11,.v (.int .i64 ((0:Nat):Int)))],hLz [],0⟩) (cO (.cons rfl rfl (.cons (by first | rfl | exact vi_eq (by rw [ctl hlt]; omega)) rfl (.cons rfl rfl (.cons rfl rfl (.cons rfl rfl .nil))))) .nil) ⟨0,rfl,rfl,⟨Nat.zero_le _,fun j h=>absurd h (Nat.not_lt_zero j)⟩⟩ ?_
 rintro n s ⟨k,rfl,rfl,hinv⟩
 obtain ⟨hk,hj⟩:=hinv
 have hcl:=catL_le hl k
 refine wS (wR ?_)
 refine oL (lP rfl (fun _ _=>nofun) (fun _=>rfl)) rfl rfl ?_
 refine oN (aN (wS ?_))
 refine wC rfl (fun hc12=>?_) (fun hc12=>?_)
 ·skip
  have hlt:k < ls.length:=Int.ofNat_lt.1 (of_decide_eq_true hc12)
  have hcl2:=catL_le hl (k+1)
  rw [ctl hlt] at hcl2
  refine wK (aN (wS (wB (wS (wR ?_)))))
  refine oL (lI Tryz.underlying166 sz29 rfl rfl (by first | assumption | omega)) rfl rfl ?_
  refine oL (lE row29 rfl rfl) rfl rfl ?_
  refine oL (lA (a:=.tree _ _) rfl) rfl rfl ?_
  refine oN (aN (wS (wR ?_)))
  refine oL (lM (a:=.v _) rfl) rfl rfl ?_
  refine oL (lM (a:=.tree _ _) rfl) rfl rfl ?_
  refine oL (lT rfl Tryz.underlying29 rfl) rfl rfl ?_
  refine oL (lJ rfl rfl (by omega) (by omega)) rfl rfl ?_
  refine oL (lA (a:=.v _) rfl) rfl rfl ?_
  refine oN (aN (wS (wR ?_)))
  refine oL (lM (a:=.v _) rfl) rfl rfl ?_
  refine oL (lP rfl (fun _ _=>nofun) (fun _=>rfl)) rfl rfl ?_
  refine oN (aN ?_)
  refine wC rfl (fun hc20=>?_) (fun hc20=>?_)
  ·skip
   exact absurd (of_decide_eq_true hc20) (by omega)
  ·skip
   refine wK (bN (aN (wR ?_)))
   refine oL (lJ rfl rfl (by omega) (by omega)) rfl rfl ?_
   refine oL (lM (a:=.v _) rfl) rfl rfl ?_
   refine oN (aN ?_)
   refine ⟨(ls.length - (k+1)),⟨fL [(0,.tree 1 (ls.map (lstA 1 iA))),(3,.v (.int .i64 (((catL ls (k+1)).length:Nat):Int))),(9,.tree 1 (ls.map (lstA 1 iA))),(10,.v (.int .i64 ((ls.length:Nat):Int))),(11,.v (.int .i64 (((k+1):Nat):Int)))],hLz [],0⟩,by omega,(cO (.cons rfl rfl (.cons (by first | rfl | exact vi_eq (by rw [ctl hlt]; omega)) rfl (.cons rfl rfl (.cons rfl rfl (.cons rfl rfl .nil))))) .nil),(k+1),rfl,rfl,?_⟩
   refine ⟨by omega,fun j h=>?_⟩
   rcases Nat.lt_succ_iff_lt_or_eq.1 h with h | rfl
   ·exact hj j h
   ·rfl
 ·skip
  have hge:¬ k < ls.length:=fun h=>of_decide_eq_false hc12 (Int.ofNat_lt.2 h)
  have hkl:k=ls.length:=by omega
  subst hkl
  clear hj hk hge
  refine AWP.exit (aE (aE (bE ?_)))
  refine aN (wS (wR ?_))
  refine oL (lM (a:=.v _) rfl) rfl rfl ?_
  refine oL (LOp.call bod97 rfl (grow0_97 _ (by rw [catL_all,h0]; rfl))) rfl rfl ?_
  refine oL (lA (a:=.v _) rfl) rfl rfl ?_
  refine oN (aN (wS (wS (wR ?_))))
  refine oL (lM (a:=.tree _ _) rfl) rfl rfl ?_
  refine oL (lT rfl Tryz.underlying166 rfl) rfl rfl ?_
  refine oL (lM (a:=.v _) rfl) rfl rfl ?_
  refine oN (aN (wB ?_))
  refine wL (fun n s=>∃ k:Nat,n=(ls.length - k)∧s=⟨fL [(6,.v (.slice none 0 0)),(25,.tree 1 (ls.map (lstA 1 iA))),(26,.v (.int .i64 ((ls.length:Nat):Int))),(27,.v (.int .i64 ((k:Nat):Int)))],hLz [],0⟩∧(k≤ls.length∧∀ j,j < k→(fun _=>true) j=true)) (n:=(ls.length - 0)) (s1:=⟨fL [(6,.v (.slice none 0 0)),(25,.tree 1 (ls.map (lstA 1 iA))),(26,.v (.int .i64 ((ls.length:Nat):Int))),(27,.v (.int .i64 ((0:Nat):Int)))],hLz [],0⟩) (cO (.cons rfl rfl (.cons rfl rfl (.cons rfl rfl (.cons rfl rfl .nil)))) .nil) ⟨0,rfl,rfl,⟨Nat.zero_le _,fun j h=>absurd h (Nat.not_lt_zero j)⟩⟩ ?_
  rintro n s ⟨k,rfl,rfl,hinv⟩
  obtain ⟨hk,hj⟩:=hinv
  refine wS (wR ?_)
  refine oL (lP rfl (fun _ _=>nofun) (fun _=>rfl)) rfl rfl ?_
  refine oN (aN (wS ?_))
  refine wC rfl (fun hc28=>?_) (fun hc28=>?_)
  ·skip
   have hlt:k < ls.length:=Int.ofNat_lt.1 (of_decide_eq_true hc28)
   have hcl2:=catL_le hl (k+1)
   rw [ctl hlt] at hcl2
   have hz:ls[k].length=0:=by rw [List.flatten_eq_nil_iff.1 (List.eq_nil_of_length_eq_zero h0) _ (List.getElem_mem hlt)]; rfl
   refine wK (aN (wS (wB (wS (wR ?_)))))
   refine oL (lI Tryz.underlying166 sz29 rfl rfl (by first | assumption | omega)) rfl rfl ?_
   refine oL (lE row29 rfl rfl) rfl rfl ?_
   refine oL (lA (a:=.tree _ _) rfl) rfl rfl ?_
   refine oN (aN (wR ?_))
   refine oL (lM (a:=.v _) rfl) rfl rfl ?_
   refine oL (lM (a:=.tree _ _) rfl) rfl rfl ?_
   refine oL (LOp.appendZ Tryz.underlying29 sz3 rfl (Src.treeMap hz) (by rw [List.eq_nil_of_length_eq_zero hz]; rfl)) rfl rfl ?_
   refine oL (lA (a:=.v _) rfl) rfl rfl ?_
   refine oN (bN (aN (wR ?_)))
   refine oL (lJ rfl rfl (by omega) (by omega)) rfl rfl ?_
   refine oL (lM (a:=.v _) rfl) rfl rfl ?_
   refine oN (aN ?_)
   refine ⟨(ls.length - (k+1)),⟨fL [(6,.v (.slice none 0 0)),(25,.tree 1 (ls.map (lstA 1 iA))),(26,.v (.int .i64 ((ls.length:Nat):Int))),(27,.v (.int .i64 (((k+1):Nat):Int)))],hLz [],0⟩,by omega,(cO (.cons rfl rfl (.cons rfl rfl (.cons rfl rfl (.cons rfl rfl .nil)))) .nil),(k+1),rfl,rfl,?_⟩
   refine ⟨by omega,fun j h=>?_⟩
   rcases Nat.lt_succ_iff_lt_or_eq.1 h with h | rfl
   ·exact hj j h
   ·rfl
  ·skip
   have hge:¬ k < ls.length:=fun h=>of_decide_eq_false hc28 (Int.ofNat_lt.2 h)
   have hkl:k=ls.length:=by omega
   subst hkl
   refine AWP.exit (aE (aE (bE ?_)))
   refine aN (wS (wR ?_))
   refine oL (lM (a:=.v _) rfl) rfl rfl ?_
   refine oL (lA (a:=.v _) rfl) rfl rfl ?_
   refine oN (aN ?_)
   refine wT (?_)
   refine ⟨.inr rfl,(OutsH.nil (ResIs.res Tryz.results53 (.cons (OutX.tmp rfl) .nil))).to heapO_gone⟩
set_option maxRecDepth 100000 in
set_option maxHeartbeats 4000000 in
theorem cat1_53 (ls:List (List Int)) (hn:ls.length≤1000) (h0:0 < ls.flatten.length) (hl:ls.flatten.length≤100000):HCall Tryz.prog 53 [.sl TOP TV 0 ls.length] [(TOP,⟨TV,rF (lstA 1 iA) ls,1,false⟩)] [(0,some (⟨ls.length,rF iA ls.flatten,1,false⟩)),(TOP,none)] (.sl 0 ls.length 0 ls.flatten.length):=by
 refine HCall.of_body Tryz.func53 rfl Tryz.ntmps53 (Nat.le_of_ble_eq_true rfl) ?_
 refine wS ?_
 refine AWP.freeze [TOP] 0 (.tree 1 (ls.map (lstA 1 iA))) (fz_ls (List.mem_singleton.2 rfl) rfl) rfl ?_
 refine wR ?_
 refine oL (lA (a:=.v _) rfl) rfl rfl ?_
 refine oN (aN (wS (wR ?_)))
 refine oL (lA (a:=.v _) rfl) rfl rfl ?_
 refine oN (aN (wS (wS (wR ?_))))
 refine oL (lM (a:=.tree _ _) rfl) rfl rfl ?_
 refine oL (lT rfl Tryz.underlying166 rfl) rfl rfl ?_
 refine oL (lM (a:=.v _) rfl) rfl rfl ?_
 refine oN (aN (wB ?_))
 refine wL (fun n s=>∃ k:Nat,n=(ls.length - k)∧s=⟨fL [(0,.tree 1 (ls.map (lstA 1 iA))),(3,.v (.int .i64 (((catL ls k).length:Nat):Int))),(9,.tree 1 (ls.map (lstA 1 iA))),(10,.v (.int .i64 ((ls.length:Nat):Int))),(11,.v (.int .i64 ((k:Nat):Int)))],hLz [],0⟩∧(k≤ls.length∧∀ j,j < k→(fun _=>true) j=true)) (n:=(ls.length - 0)) (s1:=⟨fL [(0,.tree 1 (ls.map (lstA 1 iA))),(3,.v (.int .i64 (((catL ls 0).length:Nat):Int))),(9,.tree 1 (ls.map (lstA 1 iA))),(10,.v (.int .i64 ((ls.length:Nat):Int))),(11,.v (.int .i64 ((0:Nat):Int)))],hLz [],0⟩) (cO (.cons rfl rfl (.cons (by first | rfl | exact vi_eq (by rw [ctl hlt]; omega)) rfl (.cons rfl rfl (.cons rfl rfl (.cons rfl rfl .nil))))) .nil) ⟨0,rfl,rfl,⟨Nat.zero_le _,fun j h=>absurd h (Nat.not_lt_zero j)⟩⟩ ?_
 rintro n s ⟨k,rfl,rfl,hinv⟩
 obtain ⟨hk,hj⟩:=hinv
 have hcl:=catL_le hl k
 refine wS (wR ?_)
 refine oL (lP rfl (fun _ _=>nofun) (fun _=>rfl)) rfl rfl ?_
 refine oN (aN (wS ?_))
 refine wC rfl (fun hc12=>?_) (fun hc12=>?_)
 ·skip
  have hlt:k < ls.length:=Int.ofNat_lt.1 (of_decide_eq_true hc12)
  have hcl2:=catL_le hl (k+1)
  rw [ctl hlt] at hcl2
  refine wK (aN (wS (wB (wS (wR ?_)))))
  refine oL (lI Tryz.underlying166 sz29 rfl rfl (by first | assumption | omega)) rfl rfl ?_
  refine oL (lE row29 rfl rfl) rfl rfl ?_
  refine oL (lA (a:=.tree _ _) rfl) rfl rfl ?_
  refine oN (aN (wS (wR ?_)))
  refine oL (lM (a:=.v _) rfl) rfl rfl ?_
  refine oL (lM (a:=.tree _ _) rfl) rfl rfl ?_
  refine oL (lT rfl Tryz.underlying29 rfl) rfl rfl ?_
  refine oL (lJ rfl rfl (by omega) (by omega)) rfl rfl ?_
  refine oL (lA (a:=.v _) rfl) rfl rfl ?_
  refine oN (aN (wS (wR ?_)))
  refine oL (lM (a:=.v _) rfl) rfl rfl ?_
  refine oL (lP rfl (fun _ _=>nofun) (fun _=>rfl)) rfl rfl ?_
  refine oN (aN ?_)
  refine wC rfl (fun hc20=>?_) (fun hc20=>?_)
  ·skip
   exact absurd (of_decide_eq_true hc20) (by omega)
  ·skip
   refine wK (bN (aN (wR ?_)))
   refine oL (lJ rfl rfl (by omega) (by omega)) rfl rfl ?_
   refine oL (lM (a:=.v _) rfl) rfl rfl ?_
   refine oN (aN ?_)
   refine ⟨(ls.length - (k+1)),⟨fL [(0,.tree 1 (ls.map (lstA 1 iA))),(3,.v (.int .i64 (((catL ls (k+1)).length:Nat):Int))),(9,.tree 1 (ls.map (lstA 1 iA))),(10,.v (.int .i64 ((ls.length:Nat):Int))),(11,.v (.int .i64 (((k+1):Nat):Int)))],hLz [],0⟩,by omega,(cO (.cons rfl rfl (.cons (by first | rfl | exact vi_eq (by rw [ctl hlt]; omega)) rfl (.cons rfl rfl (.cons rfl rfl (.cons rfl rfl .nil))))) .nil),(k+1),rfl,rfl,?_⟩
   refine ⟨by omega,fun j h=>?_⟩
   rcases Nat.lt_succ_iff_lt_or_eq.1 h with h | rfl
   ·exact hj j h
   ·rfl
 ·skip
  have hge:¬ k < ls.length:=fun h=>of_decide_eq_false hc12 (Int.ofNat_lt.2 h)
  have hkl:k=ls.length:=by omega
  subst hkl
  clear hj hk hge
  refine AWP.exit (aE (aE (bE ?_)))
  refine aN (wS (wR ?_))
  refine oL (lM (a:=.v _) rfl) rfl rfl ?_
  refine oW (LOp.fresh 0 bod97 rfl (growf_97 _ (by rw [catL_all]; exact h0) (by omega) sz3 zr3 rfl by3 (by omega))) rfl rfl 1 rfl ?_
  refine oL (lA (a:=.sl _ _ _ _) rfl) rfl rfl ?_
  refine oN (aN (wS (wS (wR ?_))))
  refine oL (lM (a:=.tree _ _) rfl) rfl rfl ?_
  refine oL (lT rfl Tryz.underlying166 rfl) rfl rfl ?_
  refine oL (lM (a:=.v _) rfl) rfl rfl ?_
  refine oN (aN (wB ?_))
  refine wL (fun n s=>∃ k:Nat,n=(ls.length - k)∧s=⟨fL [(6,.sl 0 k 0 (catL ls k).length),(25,.tree 1 (ls.map (lstA 1 iA))),(26,.v (.int .i64 ((ls.length:Nat):Int))),(27,.v (.int .i64 ((k:Nat):Int)))],hLz [(0,⟨k,rF iA (catL ls k),1,false⟩)],1⟩∧(k≤ls.length∧∀ j,j < k→(fun _=>true) j=true)) (n:=(ls.length - 0)) (s1:=⟨fL [(6,.sl 0 0 0 (catL ls 0).length),(25,.tree 1 (ls.map (lstA 1 iA))),(26,.v (.int .i64 ((ls.length:Nat):Int))),(27,.v (.int .i64 ((0:Nat):Int)))],hLz [(0,⟨0,rF iA (catL ls 0),1,false⟩)],1⟩) (cO (.cons (by first | rfl | (rw [ctl hlt]; rfl)) rfl (.cons rfl rfl (.cons rfl rfl (.cons rfl rfl .nil)))) (.cons (by first | rfl | exact bb_eq (catL_step rowI hlt)) rfl (rF_low rowI _ _) .nil)) ⟨0,rfl,rfl,⟨Nat.zero_le _,fun j h=>absurd h (Nat.not_lt_zero j)⟩⟩ ?_
  rintro n s ⟨k,rfl,rfl,hinv⟩
  obtain ⟨hk,hj⟩:=hinv
  have hcl:=catL_le hl k
  refine wS (wR ?_)
  refine oL (lP rfl (fun _ _=>nofun) (fun _=>rfl)) rfl rfl ?_
  refine oN (aN (wS ?_))
  refine wC rfl (fun hc28=>?_) (fun hc28=>?_)
  ·skip
   have hlt:k < ls.length:=Int.ofNat_lt.1 (of_decide_eq_true hc28)
   have hcl2:=catL_le hl (k+1)
   rw [ctl hlt] at hcl2
   refine wK (aN (wS (wB (wS (wR ?_)))))
   refine oL (lI Tryz.underlying166 sz29 rfl rfl (by first | assumption | omega)) rfl rfl ?_
   refine oL (lE row29 rfl rfl) rfl rfl ?_
   refine oL (lA (a:=.tree _ _) rfl) rfl rfl ?_
   refine oN (aN (wR ?_))
   refine oL (lM (a:=.sl _ _ _ _) rfl) rfl rfl ?_
   refine oL (lM (a:=.tree _ _) rfl) rfl rfl ?_
   refine AOps.gv (LOp.append Tryz.underlying29 sz3 zr3 by3 rfl rfl rfl rfl rfl rfl (Nat.le_of_eq (rF_len rowI _).symm) (Src.treeMap rfl) (rF_len rowI _) (rF_one rowI _) (by omega) (by omega) (by unfold TV; omega)) rfl rfl 1 rfl rfl ?_
   refine oL (lA (a:=.sl _ _ _ _) rfl) rfl rfl ?_
   refine oN (bN (aN (wR ?_)))
   refine oL (lJ rfl rfl (by omega) (by omega)) rfl rfl ?_
   refine oL (lM (a:=.v _) rfl) rfl rfl ?_
   refine oN (aN ?_)
   refine ⟨(ls.length - (k+1)),⟨fL [(6,.sl 0 (k+1) 0 (catL ls (k+1)).length),(25,.tree 1 (ls.map (lstA 1 iA))),(26,.v (.int .i64 ((ls.length:Nat):Int))),(27,.v (.int .i64 (((k+1):Nat):Int)))],hLz [(0,⟨(k+1),rF iA (catL ls (k+1)),1,false⟩)],1⟩,by omega,(cO (.cons (by first | rfl | (rw [ctl hlt]; rfl)) rfl (.cons rfl rfl (.cons rfl rfl (.cons rfl rfl .nil)))) (.cons (by first | rfl | exact bb_eq (catL_step rowI hlt)) rfl (rF_low rowI _ _) .nil)),(k+1),rfl,rfl,?_⟩
   refine ⟨by omega,fun j h=>?_⟩
   rcases Nat.lt_succ_iff_lt_or_eq.1 h with h | rfl
   ·exact hj j h
   ·rfl
  ·skip
   have hge:¬ k < ls.length:=fun h=>of_decide_eq_false hc28 (Int.ofNat_lt.2 h)
   have hkl:k=ls.length:=by omega
   subst hkl
   refine AWP.exit (aE (aE (bE ?_)))
   refine aN (wS (wR ?_))
   refine oL (lM (a:=.sl _ _ _ _) rfl) rfl rfl ?_
   refine oL (lA (a:=.sl _ _ _ _) rfl) rfl rfl ?_
   refine oN (aN ?_)
   refine wT (?_)
   refine ⟨.inr rfl,OutsH.of [] (ResIs.res Tryz.results53 (.cons (OutX.tmp rfl) .nil)) rfl ⟨.same (by rw [← catL_all]; rfl) (by decide),.gone,trivial⟩ (by rw [← catL_all]; exact .same)⟩
theorem concat_53 (a b:List Int) (h:a.length+b.length≤100000):HCall Tryz.prog 53 [.sl TOP TV 0 2] [(TOP,⟨TV,[.tree 1 (a.map iA),.tree 1 (b.map iA)],1,false⟩)] [(0,some ⟨2,rF iA (a++b),1,Nat.beq (a++b).length 0⟩),(TOP,none)] (.sl 0 2 0 (a++b).length):=by
 have e:[a,b].flatten=a++b:=by simp
 by_cases h0:(a++b).length=0
 ·have:=cat0_53 [a,b] 2 (by simp) (by rw [e]; exact h0)
  rw [List.eq_nil_of_length_eq_zero h0]
  exact this
 ·have:=cat1_53 [a,b] (by simp) (by rw [e]; omega) (by rw [e,List.length_append]; omega)
  rw [e] at this
  have e2:Nat.beq (a++b).length 0=false:=by cases hh:(a++b).length with
   | zero=>exact absurd hh h0
   | succ n=>rfl
  rw [e2]
  exact this
theorem grow0_98 (m:Int) (h:m=0):PCall Tryz.prog 98 [.v (.slice none 0 0),.v (.int .i64 m)] (.v (.slice none 0 0)):=by
 subst h
 intro T w vals hv hT
 rw [two_args hv]
 refine (Any8.slices_Grow_room Tryz.growA none 0 0 0 w (Nat.le_refl _) (by omega) (by omega) (by omega)).mono ?_
 rintro e w' ⟨rfl,rfl⟩
 exact ⟨_,T,rfl,.v _,fun _ h=>h,fun _ h=>.inl h,fun b hb=>hT b hb,Below.refl _ _⟩
theorem growf_98 {z:Value} {B:Nat} (m:Nat) (h0:0 < m) (h1:m≤100000) (hs:sizeInfo Tryz.prog 81=some 4) (hz:zeroOf Tryz.prog 81=some z) (hzq:z.cells.size=4) (hb:(Tryz.prog.info? 81).map (·.bytes)=some B) (hB:B≤1000):Fresh Tryz.prog 98 [.v (.slice none 0 0),.v (.int .i64 ((m:Nat):Int))] 4:=by
 intro T w vals hv hT
 rw [two_args hv]
 unfold sizeInfo at hs
 unfold zeroOf at hz
 cases hi:Tryz.prog.info? 81 with
 | none=>rw [hi] at hs; cases hs
 | some inf=>
  rw [hi] at hz hs hb
  simp only [Option.bind_some] at hz
  simp only [Option.map_some,Option.some.injEq] at hs hb
  have hmB:(0+m) * inf.bytes≤140737488355328:=by
   rw [hb]
   exact Nat.le_trans (Nat.mul_le_mul (Nat.le_of_eq (Nat.zero_add m)) hB) (by omega)
  refine (Any8.slices_Grow_grow Tryz.growA inf _ hi hz (by omega) none 0 0 m [] w (Nat.le_refl _) (by omega) (by omega) (by omega) (by simp) (fun _=>rfl) (fun a h=>by cases h)).mono ?_
  rintro e w' ⟨rfl,rfl⟩
  have hge:=grownCap_ge w (0+m) 0 81
  have hmx:grownCap w (0+m) 0 81≤maxLen:=grownCap_le_maxLen w (0+m) 0 81 (by unfold maxLen; omega)
  refine ⟨w.heap.size,0,_,_,81,rfl,?_,Nat.le_refl _,heap_alloc_new w.drew _,hmx,?_⟩
  ·exact ⟨rfl,rfl,rfl,by simp,fun k hk=>Below.heap_alloc w.drew _ k hk⟩
  ·have e26:(Tryz.growA_ren.t 25)=81:=rfl
   simp only [e26,Array.size_append,size_zeroCells,hzq]
   simp
   omega
set_option maxRecDepth 100000 in
set_option maxHeartbeats 4000000 in
theorem cat0_54 (ls:List (List PAux)) (hn:ls.length≤1000) (h0:ls.flatten.length=0):PCall Tryz.prog 54 [.tree 1 (ls.map (lstA 4 axA))] (.tree 4 []):=by
 have hl:ls.flatten.length≤100000:=by omega
 refine pB Tryz.func54 rfl Tryz.ntmps54 (Nat.le_of_ble_eq_true rfl) ?_
 refine wS (wR ?_)
 refine oL (lA (a:=.v _) rfl) rfl rfl ?_
 refine oN (aN (wS (wR ?_)))
 refine oL (lA (a:=.v _) rfl) rfl rfl ?_
 refine oN (aN (wS (wS (wR ?_))))
 refine oL (lM (a:=.tree _ _) rfl) rfl rfl ?_
 refine oL (lT rfl Tryz.underlying168 rfl) rfl rfl ?_
 refine oL (lM (a:=.v _) rfl) rfl rfl ?_
 refine oN (aN (wB ?_))
 refine wL (fun n s=>∃ k:Nat,n=(ls.length - k)∧s=⟨fL [(0,.tree 1 (ls.map (lstA 4 axA))),(3,.v (.int .i64 (((catL ls k).length:Nat):Int))),(9,.tree 1 (ls.map (lstA 4 axA))),(10,.v (.int .i64 ((ls.length:Nat):Int))),(11,.v (.int .i64 ((k:Nat):Int)))],hLz [],0⟩∧(k≤ls.length∧∀ j,j < k→(fun _=>true) j=true)) (n:=(ls.length - 0)) (s1:=⟨fL [(0,.tree 1 (ls.map (lstA 4 axA))),(3,.v (.int .i64 (((catL ls 0).length:Nat):Int))),(9,.tree 1 (ls.map (lstA 4 axA))),(10,.v (.int .i64 ((ls.length:Nat):Int))),(11,.v (.int .i64 ((0:Nat):Int)))],hLz [],0⟩) (cO (.cons rfl rfl (.cons (by first | rfl | exact vi_eq (by rw [ctl hlt]; omega)) rfl (.cons rfl rfl (.cons rfl rfl (.cons rfl rfl .nil))))) .nil) ⟨0,rfl,rfl,⟨Nat.zero_le _,fun j h=>absurd h (Nat.not_lt_zero j)⟩⟩ ?_
 rintro n s ⟨k,rfl,rfl,hinv⟩
 obtain ⟨hk,hj⟩:=hinv
 have hcl:=catL_le hl k
 refine wS (wR ?_)
 refine oL (lP rfl (fun _ _=>nofun) (fun _=>rfl)) rfl rfl ?_
 refine oN (aN (wS ?_))
 refine wC rfl (fun hc12=>?_) (fun hc12=>?_)
 ·skip
  have hlt:k < ls.length:=Int.ofNat_lt.1 (of_decide_eq_true hc12)
  have hcl2:=catL_le hl (k+1)
  rw [ctl hlt] at hcl2
  refine wK (aN (wS (wB (wS (wR ?_)))))
  refine oL (lI Tryz.underlying168 sz30 rfl rfl (by first | assumption | omega)) rfl rfl ?_
  refine oL (lE row30 rfl rfl) rfl rfl ?_
  refine oL (lA (a:=.tree _ _) rfl) rfl rfl ?_
  refine oN (aN (wS (wR ?_)))
  refine oL (lM (a:=.v _) rfl) rfl rfl ?_
  refine oL (lM (a:=.tree _ _) rfl) rfl rfl ?_
  refine oL (lT rfl Tryz.underlying30 rfl) rfl rfl ?_
  refine oL (lJ rfl rfl (by omega) (by omega)) rfl rfl ?_
  refine oL (lA (a:=.v _) rfl) rfl rfl ?_
  refine oN (aN (wS (wR ?_)))
  refine oL (lM (a:=.v _) rfl) rfl rfl ?_
  refine oL (lP rfl (fun _ _=>nofun) (fun _=>rfl)) rfl rfl ?_
  refine oN (aN ?_)
  refine wC rfl (fun hc20=>?_) (fun hc20=>?_)
  ·skip
   exact absurd (of_decide_eq_true hc20) (by omega)
  ·skip
   refine wK (bN (aN (wR ?_)))
   refine oL (lJ rfl rfl (by omega) (by omega)) rfl rfl ?_
   refine oL (lM (a:=.v _) rfl) rfl rfl ?_
   refine oN (aN ?_)
   refine ⟨(ls.length - (k+1)),⟨fL [(0,.tree 1 (ls.map (lstA 4 axA))),(3,.v (.int .i64 (((catL ls (k+1)).length:Nat):Int))),(9,.tree 1 (ls.map (lstA 4 axA))),(10,.v (.int .i64 ((ls.length:Nat):Int))),(11,.v (.int .i64 (((k+1):Nat):Int)))],hLz [],0⟩,by omega,(cO (.cons rfl rfl (.cons (by first | rfl | exact vi_eq (by rw [ctl hlt]; omega)) rfl (.cons rfl rfl (.cons rfl rfl (.cons rfl rfl .nil))))) .nil),(k+1),rfl,rfl,?_⟩
   refine ⟨by omega,fun j h=>?_⟩
   rcases Nat.lt_succ_iff_lt_or_eq.1 h with h | rfl
   ·exact hj j h
   ·rfl
 ·skip
  have hge:¬ k < ls.length:=fun h=>of_decide_eq_false hc12 (Int.ofNat_lt.2 h)
  have hkl:k=ls.length:=by omega
  subst hkl
  clear hj hk hge
  refine AWP.exit (aE (aE (bE ?_)))
  refine aN (wS (wR ?_))
  refine oL (lM (a:=.v _) rfl) rfl rfl ?_
  refine oL (LOp.call bod98 rfl (grow0_98 _ (by rw [catL_all,h0]; rfl))) rfl rfl ?_
  refine oL (lA (a:=.v _) rfl) rfl rfl ?_
  refine oN (aN (wS (wS (wR ?_))))
  refine oL (lM (a:=.tree _ _) rfl) rfl rfl ?_
  refine oL (lT rfl Tryz.underlying168 rfl) rfl rfl ?_
  refine oL (lM (a:=.v _) rfl) rfl rfl ?_
  refine oN (aN (wB ?_))
  refine wL (fun n s=>∃ k:Nat,n=(ls.length - k)∧s=⟨fL [(6,.v (.slice none 0 0)),(25,.tree 1 (ls.map (lstA 4 axA))),(26,.v (.int .i64 ((ls.length:Nat):Int))),(27,.v (.int .i64 ((k:Nat):Int)))],hLz [],0⟩∧(k≤ls.length∧∀ j,j < k→(fun _=>true) j=true)) (n:=(ls.length - 0)) (s1:=⟨fL [(6,.v (.slice none 0 0)),(25,.tree 1 (ls.map (lstA 4 axA))),(26,.v (.int .i64 ((ls.length:Nat):Int))),(27,.v (.int .i64 ((0:Nat):Int)))],hLz [],0⟩) (cO (.cons rfl rfl (.cons rfl rfl (.cons rfl rfl (.cons rfl rfl .nil)))) .nil) ⟨0,rfl,rfl,⟨Nat.zero_le _,fun j h=>absurd h (Nat.not_lt_zero j)⟩⟩ ?_
  rintro n s ⟨k,rfl,rfl,hinv⟩
  obtain ⟨hk,hj⟩:=hinv
  refine wS (wR ?_)
  refine oL (lP rfl (fun _ _=>nofun) (fun _=>rfl)) rfl rfl ?_
  refine oN (aN (wS ?_))
  refine wC rfl (fun hc28=>?_) (fun hc28=>?_)
  ·skip
   have hlt:k < ls.length:=Int.ofNat_lt.1 (of_decide_eq_true hc28)
   have hcl2:=catL_le hl (k+1)
   rw [ctl hlt] at hcl2
   have hz:ls[k].length=0:=by rw [List.flatten_eq_nil_iff.1 (List.eq_nil_of_length_eq_zero h0) _ (List.getElem_mem hlt)]; rfl
   refine wK (aN (wS (wB (wS (wR ?_)))))
   refine oL (lI Tryz.underlying168 sz30 rfl rfl (by first | assumption | omega)) rfl rfl ?_
   refine oL (lE row30 rfl rfl) rfl rfl ?_
   refine oL (lA (a:=.tree _ _) rfl) rfl rfl ?_
   refine oN (aN (wR ?_))
   refine oL (lM (a:=.v _) rfl) rfl rfl ?_
   refine oL (lM (a:=.tree _ _) rfl) rfl rfl ?_
   refine oL (LOp.appendZ Tryz.underlying30 sz81 rfl (Src.treeMap hz) (by rw [List.eq_nil_of_length_eq_zero hz]; rfl)) rfl rfl ?_
   refine oL (lA (a:=.v _) rfl) rfl rfl ?_
   refine oN (bN (aN (wR ?_)))
   refine oL (lJ rfl rfl (by omega) (by omega)) rfl rfl ?_
   refine oL (lM (a:=.v _) rfl) rfl rfl ?_
   refine oN (aN ?_)
   refine ⟨(ls.length - (k+1)),⟨fL [(6,.v (.slice none 0 0)),(25,.tree 1 (ls.map (lstA 4 axA))),(26,.v (.int .i64 ((ls.length:Nat):Int))),(27,.v (.int .i64 (((k+1):Nat):Int)))],hLz [],0⟩,by omega,(cO (.cons rfl rfl (.cons rfl rfl (.cons rfl rfl (.cons rfl rfl .nil)))) .nil),(k+1),rfl,rfl,?_⟩
   refine ⟨by omega,fun j h=>?_⟩
   rcases Nat.lt_succ_iff_lt_or_eq.1 h with h | rfl
   ·exact hj j h
   ·rfl
  ·skip
   have hge:¬ k < ls.length:=fun h=>of_decide_eq_false hc28 (Int.ofNat_lt.2 h)
   have hkl:k=ls.length:=by omega
   subst hkl
   refine AWP.exit (aE (aE (bE ?_)))
   refine aN (wS (wR ?_))
   refine oL (lM (a:=.v _) rfl) rfl rfl ?_
   refine oL (lA (a:=.v _) rfl) rfl rfl ?_
   refine oN (aN ?_)
   refine wT (?_)
   refine ⟨.inr rfl,Outs.tmp Tryz.results54 ?_⟩
   exact ⟨[],FzP.nil⟩
set_option maxRecDepth 100000 in
set_option maxHeartbeats 4000000 in
theorem cat1_54 (ls:List (List PAux)) (hn:ls.length≤1000) (h0:0 < ls.flatten.length) (hl:ls.flatten.length≤100000):PCall Tryz.prog 54 [.tree 1 (ls.map (lstA 4 axA))] (.tree 4 (ls.flatten.map axA)):=by
 refine pB Tryz.func54 rfl Tryz.ntmps54 (Nat.le_of_ble_eq_true rfl) ?_
 refine wS (wR ?_)
 refine oL (lA (a:=.v _) rfl) rfl rfl ?_
 refine oN (aN (wS (wR ?_)))
 refine oL (lA (a:=.v _) rfl) rfl rfl ?_
 refine oN (aN (wS (wS (wR ?_))))
 refine oL (lM (a:=.tree _ _) rfl) rfl rfl ?_
 refine oL (lT rfl Tryz.underlying168 rfl) rfl rfl ?_
 refine oL (lM (a:=.v _) rfl) rfl rfl ?_
 refine oN (aN (wB ?_))
 refine wL (fun n s=>∃ k:Nat,n=(ls.length - k)∧s=⟨fL [(0,.tree 1 (ls.map (lstA 4 axA))),(3,.v (.int .i64 (((catL ls k).length:Nat):Int))),(9,.tree 1 (ls.map (lstA 4 axA))),(10,.v (.int .i64 ((ls.length:Nat):Int))),(11,.v (.int .i64 ((k:Nat):Int)))],hLz [],0⟩∧(k≤ls.length∧∀ j,j < k→(fun _=>true) j=true)) (n:=(ls.length - 0)) (s1:=⟨fL [(0,.tree 1 (ls.map (lstA 4 axA))),(3,.v (.int .i64 (((catL ls 0).length:Nat):Int))),(9,.tree 1 (ls.map (lstA 4 axA))),(10,.v (.int .i64 ((ls.length:Nat):Int))),(11,.v (.int .i64 ((0:Nat):Int)))],hLz [],0⟩) (cO (.cons rfl rfl (.cons (by first | rfl | exact vi_eq (by rw [ctl hlt]; omega)) rfl (.cons rfl rfl (.cons rfl rfl (.cons rfl rfl .nil))))) .nil) ⟨0,rfl,rfl,⟨Nat.zero_le _,fun j h=>absurd h (Nat.not_lt_zero j)⟩⟩ ?_
 rintro n s ⟨k,rfl,rfl,hinv⟩
 obtain ⟨hk,hj⟩:=hinv
 have hcl:=catL_le hl k
 refine wS (wR ?_)
 refine oL (lP rfl (fun _ _=>nofun) (fun _=>rfl)) rfl rfl ?_
 refine oN (aN (wS ?_))
 refine wC rfl (fun hc12=>?_) (fun hc12=>?_)
 ·skip
  have hlt:k < ls.length:=Int.ofNat_lt.1 (of_decide_eq_true hc12)
  have hcl2:=catL_le hl (k+1)
  rw [ctl hlt] at hcl2
  refine wK (aN (wS (wB (wS (wR ?_)))))
  refine oL (lI Tryz.underlying168 sz30 rfl rfl (by first | assumption | omega)) rfl rfl ?_
  refine oL (lE row30 rfl rfl) rfl rfl ?_
  refine oL (lA (a:=.tree _ _) rfl) rfl rfl ?_
  refine oN (aN (wS (wR ?_)))
  refine oL (lM (a:=.v _) rfl) rfl rfl ?_
  refine oL (lM (a:=.tree _ _) rfl) rfl rfl ?_
  refine oL (lT rfl Tryz.underlying30 rfl) rfl rfl ?_
  refine oL (lJ rfl rfl (by omega) (by omega)) rfl rfl ?_
  refine oL (lA (a:=.v _) rfl) rfl rfl ?_
  refine oN (aN (wS (wR ?_)))
  refine oL (lM (a:=.v _) rfl) rfl rfl ?_
  refine oL (lP rfl (fun _ _=>nofun) (fun _=>rfl)) rfl rfl ?_
  refine oN (aN ?_)
  refine wC rfl (fun hc20=>?_) (fun hc20=>?_)
  ·skip
   exact absurd (of_decide_eq_true hc20) (by omega)
  ·skip
   refine wK (bN (aN (wR ?_)))
   refine oL (lJ rfl rfl (by omega) (by omega)) rfl rfl ?_
   refine oL (lM (a:=.v _) rfl) rfl rfl ?_
   refine oN (aN ?_)
   refine ⟨(ls.length - (k+1)),⟨fL [(0,.tree 1 (ls.map (lstA 4 axA))),(3,.v (.int .i64 (((catL ls (k+1)).length:Nat):Int))),(9,.tree 1 (ls.map (lstA 4 axA))),(10,.v (.int .i64 ((ls.length:Nat):Int))),(11,.v (.int .i64 (((k+1):Nat):Int)))],hLz [],0⟩,by omega,(cO (.cons rfl rfl (.cons (by first | rfl | exact vi_eq (by rw [ctl hlt]; omega)) rfl (.cons rfl rfl (.cons rfl rfl (.cons rfl rfl .nil))))) .nil),(k+1),rfl,rfl,?_⟩
   refine ⟨by omega,fun j h=>?_⟩
   rcases Nat.lt_succ_iff_lt_or_eq.1 h with h | rfl
   ·exact hj j h
   ·rfl
 ·skip
  have hge:¬ k < ls.length:=fun h=>of_decide_eq_false hc12 (Int.ofNat_lt.2 h)
  have hkl:k=ls.length:=by omega
  subst hkl
  clear hj hk hge
  refine AWP.exit (aE (aE (bE ?_)))
  refine aN (wS (wR ?_))
  refine oL (lM (a:=.v _) rfl) rfl rfl ?_
  refine oW (LOp.fresh 0 bod98 rfl (growf_98 _ (by rw [catL_all]; exact h0) (by omega) sz81 zr81 rfl by81 (by omega))) rfl rfl 1 rfl ?_
  refine oL (lA (a:=.sl _ _ _ _) rfl) rfl rfl ?_
  refine oN (aN (wS (wS (wR ?_))))
  refine oL (lM (a:=.tree _ _) rfl) rfl rfl ?_
  refine oL (lT rfl Tryz.underlying168 rfl) rfl rfl ?_
  refine oL (lM (a:=.v _) rfl) rfl rfl ?_
  refine oN (aN (wB ?_))
  refine wL (fun n s=>∃ k:Nat,n=(ls.length - k)∧s=⟨fL [(6,.sl 0 k 0 (catL ls k).length),(25,.tree 1 (ls.map (lstA 4 axA))),(26,.v (.int .i64 ((ls.length:Nat):Int))),(27,.v (.int .i64 ((k:Nat):Int)))],hLz [(0,⟨k,rF axA (catL ls k),4,false⟩)],1⟩∧(k≤ls.length∧∀ j,j < k→(fun _=>true) j=true)) (n:=(ls.length - 0)) (s1:=⟨fL [(6,.sl 0 0 0 (catL ls 0).length),(25,.tree 1 (ls.map (lstA 4 axA))),(26,.v (.int .i64 ((ls.length:Nat):Int))),(27,.v (.int .i64 ((0:Nat):Int)))],hLz [(0,⟨0,rF axA (catL ls 0),4,false⟩)],1⟩) (cO (.cons (by first | rfl | (rw [ctl hlt]; rfl)) rfl (.cons rfl rfl (.cons rfl rfl (.cons rfl rfl .nil)))) (.cons (by first | rfl | exact bb_eq (catL_step rowAx hlt)) rfl (rF_low rowAx _ _) .nil)) ⟨0,rfl,rfl,⟨Nat.zero_le _,fun j h=>absurd h (Nat.not_lt_zero j)⟩⟩ ?_
  rintro n s ⟨k,rfl,rfl,hinv⟩
  obtain ⟨hk,hj⟩:=hinv
  have hcl:=catL_le hl k
  refine wS (wR ?_)
  refine oL (lP rfl (fun _ _=>nofun) (fun _=>rfl)) rfl rfl ?_
  refine oN (aN (wS ?_))
  refine wC rfl (fun hc28=>?_) (fun hc28=>?_)
  ·skip
   have hlt:k < ls.length:=Int.ofNat_lt.1 (of_decide_eq_true hc28)
   have hcl2:=catL_le hl (k+1)
   rw [ctl hlt] at hcl2
   refine wK (aN (wS (wB (wS (wR ?_)))))
   refine oL (lI Tryz.underlying168 sz30 rfl rfl (by first | assumption | omega)) rfl rfl ?_
   refine oL (lE row30 rfl rfl) rfl rfl ?_
   refine oL (lA (a:=.tree _ _) rfl) rfl rfl ?_
   refine oN (aN (wR ?_))
   refine oL (lM (a:=.sl _ _ _ _) rfl) rfl rfl ?_
   refine oL (lM (a:=.tree _ _) rfl) rfl rfl ?_
   refine AOps.gv (LOp.append Tryz.underlying30 sz81 zr81 by81 rfl rfl rfl rfl rfl rfl (Nat.le_of_eq (rF_len rowAx _).symm) (Src.treeMap rfl) (rF_len rowAx _) (rF_one rowAx _) (by omega) (by omega) (by unfold TV; omega)) rfl rfl 1 rfl rfl ?_
   refine oL (lA (a:=.sl _ _ _ _) rfl) rfl rfl ?_
   refine oN (bN (aN (wR ?_)))
   refine oL (lJ rfl rfl (by omega) (by omega)) rfl rfl ?_
   refine oL (lM (a:=.v _) rfl) rfl rfl ?_
   refine oN (aN ?_)
   refine ⟨(ls.length - (k+1)),⟨fL [(6,.sl 0 (k+1) 0 (catL ls (k+1)).length),(25,.tree 1 (ls.map (lstA 4 axA))),(26,.v (.int .i64 ((ls.length:Nat):Int))),(27,.v (.int .i64 (((k+1):Nat):Int)))],hLz [(0,⟨(k+1),rF axA (catL ls (k+1)),4,false⟩)],1⟩,by omega,(cO (.cons (by first | rfl | (rw [ctl hlt]; rfl)) rfl (.cons rfl rfl (.cons rfl rfl (.cons rfl rfl .nil)))) (.cons (by first | rfl | exact bb_eq (catL_step rowAx hlt)) rfl (rF_low rowAx _ _) .nil)),(k+1),rfl,rfl,?_⟩
   refine ⟨by omega,fun j h=>?_⟩
   rcases Nat.lt_succ_iff_lt_or_eq.1 h with h | rfl
   ·exact hj j h
   ·rfl
  ·skip
   have hge:¬ k < ls.length:=fun h=>of_decide_eq_false hc28 (Int.ofNat_lt.2 h)
   have hkl:k=ls.length:=by omega
   subst hkl
   refine AWP.exit (aE (aE (bE ?_)))
   refine aN (wS (wR ?_))
   refine oL (lM (a:=.sl _ _ _ _) rfl) rfl rfl ?_
   refine oL (lA (a:=.sl _ _ _ _) rfl) rfl rfl ?_
   refine oN (aN ?_)
   refine wT (?_)
   refine ⟨.inr rfl,Outs.tmp Tryz.results54 ?_⟩
   rw [← catL_all]
   exact ⟨[0],FzP.rowsF rowAx (List.mem_singleton.2 rfl) rfl⟩
theorem concat_54 (a b:List PAux) (h:a.length+b.length≤100000):PCall Tryz.prog 54 [.tree 1 ([a,b].map (lstA 4 axA))] (.tree 4 ((a++b).map axA)):=by
 have e:[a,b].flatten=a++b:=by simp
 by_cases h0:(a++b).length=0
 ·have:=cat0_54 [a,b] (by simp) (by rw [e]; exact h0)
  rwa [List.eq_nil_of_length_eq_zero h0]
 ·have:=cat1_54 [a,b] (by simp) (by rw [e]; omega) (by rw [e,List.length_append]; omega)
  rwa [e] at this
theorem grow0_99 (m:Int) (h:m=0):PCall Tryz.prog 99 [.v (.slice none 0 0),.v (.int .i64 m)] (.v (.slice none 0 0)):=by
 subst h
 intro T w vals hv hT
 rw [two_args hv]
 refine (Any8.slices_Grow_room Tryz.growC none 0 0 0 w (Nat.le_refl _) (by omega) (by omega) (by omega)).mono ?_
 rintro e w' ⟨rfl,rfl⟩
 exact ⟨_,T,rfl,.v _,fun _ h=>h,fun _ h=>.inl h,fun b hb=>hT b hb,Below.refl _ _⟩
theorem growf_99 {z:Value} {B:Nat} (m:Nat) (h0:0 < m) (h1:m≤100000) (hs:sizeInfo Tryz.prog 84=some 3) (hz:zeroOf Tryz.prog 84=some z) (hzq:z.cells.size=3) (hb:(Tryz.prog.info? 84).map (·.bytes)=some B) (hB:B≤1000):Fresh Tryz.prog 99 [.v (.slice none 0 0),.v (.int .i64 ((m:Nat):Int))] 3:=by
 intro T w vals hv hT
 rw [two_args hv]
 unfold sizeInfo at hs
 unfold zeroOf at hz
 cases hi:Tryz.prog.info? 84 with
 | none=>rw [hi] at hs; cases hs
 | some inf=>
  rw [hi] at hz hs hb
  simp only [Option.bind_some] at hz
  simp only [Option.map_some,Option.some.injEq] at hs hb
  have hmB:(0+m) * inf.bytes≤140737488355328:=by
   rw [hb]
   exact Nat.le_trans (Nat.mul_le_mul (Nat.le_of_eq (Nat.zero_add m)) hB) (by omega)
  refine (Any8.slices_Grow_grow Tryz.growC inf _ hi hz (by omega) none 0 0 m [] w (Nat.le_refl _) (by omega) (by omega) (by omega) (by simp) (fun _=>rfl) (fun a h=>by cases h)).mono ?_
  rintro e w' ⟨rfl,rfl⟩
  have hge:=grownCap_ge w (0+m) 0 84
  have hmx:grownCap w (0+m) 0 84≤maxLen:=grownCap_le_maxLen w (0+m) 0 84 (by unfold maxLen; omega)
  refine ⟨w.heap.size,0,_,_,84,rfl,?_,Nat.le_refl _,heap_alloc_new w.drew _,hmx,?_⟩
  ·exact ⟨rfl,rfl,rfl,by simp,fun k hk=>Below.heap_alloc w.drew _ k hk⟩
  ·have e26:(Tryz.growC_ren.t 25)=84:=rfl
   simp only [e26,Array.size_append,size_zeroCells,hzq]
   simp
   omega
set_option maxRecDepth 100000 in
set_option maxHeartbeats 4000000 in
theorem cat0_55 (ls:List (List PCon)) (hn:ls.length≤1000) (h0:ls.flatten.length=0):PCall Tryz.prog 55 [.tree 1 (ls.map (lstA 3 cnA))] (.tree 3 []):=by
 have hl:ls.flatten.length≤100000:=by omega
 refine pB Tryz.func55 rfl Tryz.ntmps55 (Nat.le_of_ble_eq_true rfl) ?_
 refine wS (wR ?_)
 refine oL (lA (a:=.v _) rfl) rfl rfl ?_
 refine oN (aN (wS (wR ?_)))
 refine oL (lA (a:=.v _) rfl) rfl rfl ?_
 refine oN (aN (wS (wS (wR ?_))))
 refine oL (lM (a:=.tree _ _) rfl) rfl rfl ?_
 refine oL (lT rfl Tryz.underlying170 rfl) rfl rfl ?_
 refine oL (lM (a:=.v _) rfl) rfl rfl ?_
 refine oN (aN (wB ?_))
 refine wL (fun n s=>∃ k:Nat,n=(ls.length - k)∧s=⟨fL [(0,.tree 1 (ls.map (lstA 3 cnA))),(3,.v (.int .i64 (((catL ls k).length:Nat):Int))),(9,.tree 1 (ls.map (lstA 3 cnA))),(10,.v (.int .i64 ((ls.length:Nat):Int))),(11,.v (.int .i64 ((k:Nat):Int)))],hLz [],0⟩∧(k≤ls.length∧∀ j,j < k→(fun _=>true) j=true)) (n:=(ls.length - 0)) (s1:=⟨fL [(0,.tree 1 (ls.map (lstA 3 cnA))),(3,.v (.int .i64 (((catL ls 0).length:Nat):Int))),(9,.tree 1 (ls.map (lstA 3 cnA))),(10,.v (.int .i64 ((ls.length:Nat):Int))),(11,.v (.int .i64 ((0:Nat):Int)))],hLz [],0⟩) (cO (.cons rfl rfl (.cons (by first | rfl | exact vi_eq (by rw [ctl hlt]; omega)) rfl (.cons rfl rfl (.cons rfl rfl (.cons rfl rfl .nil))))) .nil) ⟨0,rfl,rfl,⟨Nat.zero_le _,fun j h=>absurd h (Nat.not_lt_zero j)⟩⟩ ?_
 rintro n s ⟨k,rfl,rfl,hinv⟩
 obtain ⟨hk,hj⟩:=hinv
 have hcl:=catL_le hl k
 refine wS (wR ?_)
 refine oL (lP rfl (fun _ _=>nofun) (fun _=>rfl)) rfl rfl ?_
 refine oN (aN (wS ?_))
 refine wC rfl (fun hc12=>?_) (fun hc12=>?_)
 ·skip
  have hlt:k < ls.length:=Int.ofNat_lt.1 (of_decide_eq_true hc12)
  have hcl2:=catL_le hl (k+1)
  rw [ctl hlt] at hcl2
  refine wK (aN (wS (wB (wS (wR ?_)))))
  refine oL (lI Tryz.underlying170 sz31 rfl rfl (by first | assumption | omega)) rfl rfl ?_
  refine oL (lE row31 rfl rfl) rfl rfl ?_
  refine oL (lA (a:=.tree _ _) rfl) rfl rfl ?_
  refine oN (aN (wS (wR ?_)))
  refine oL (lM (a:=.v _) rfl) rfl rfl ?_
  refine oL (lM (a:=.tree _ _) rfl) rfl rfl ?_
  refine oL (lT rfl Tryz.underlying31 rfl) rfl rfl ?_
  refine oL (lJ rfl rfl (by omega) (by omega)) rfl rfl ?_
  refine oL (lA (a:=.v _) rfl) rfl rfl ?_
  refine oN (aN (wS (wR ?_)))
  refine oL (lM (a:=.v _) rfl) rfl rfl ?_
  refine oL (lP rfl (fun _ _=>nofun) (fun _=>rfl)) rfl rfl ?_
  refine oN (aN ?_)
  refine wC rfl (fun hc20=>?_) (fun hc20=>?_)
  ·skip
   exact absurd (of_decide_eq_true hc20) (by omega)
  ·skip
   refine wK (bN (aN (wR ?_)))
   refine oL (lJ rfl rfl (by omega) (by omega)) rfl rfl ?_
   refine oL (lM (a:=.v _) rfl) rfl rfl ?_
   refine oN (aN ?_)
   refine ⟨(ls.length - (k+1)),⟨fL [(0,.tree 1 (ls.map (lstA 3 cnA))),(3,.v (.int .i64 (((catL ls (k+1)).length:Nat):Int))),(9,.tree 1 (ls.map (lstA 3 cnA))),(10,.v (.int .i64 ((ls.length:Nat):Int))),(11,.v (.int .i64 (((k+1):Nat):Int)))],hLz [],0⟩,by omega,(cO (.cons rfl rfl (.cons (by first | rfl | exact vi_eq (by rw [ctl hlt]; omega)) rfl (.cons rfl rfl (.cons rfl rfl (.cons rfl rfl .nil))))) .nil),(k+1),rfl,rfl,?_⟩
   refine ⟨by omega,fun j h=>?_⟩
   rcases Nat.lt_succ_iff_lt_or_eq.1 h with h | rfl
   ·exact hj j h
   ·rfl
 ·skip
  have hge:¬ k < ls.length:=fun h=>of_decide_eq_false hc12 (Int.ofNat_lt.2 h)
  have hkl:k=ls.length:=by omega
  subst hkl
  clear hj hk hge
  refine AWP.exit (aE (aE (bE ?_)))
  refine aN (wS (wR ?_))
  refine oL (lM (a:=.v _) rfl) rfl rfl ?_
  refine oL (LOp.call bod99 rfl (grow0_99 _ (by rw [catL_all,h0]; rfl))) rfl rfl ?_
  refine oL (lA (a:=.v _) rfl) rfl rfl ?_
  refine oN (aN (wS (wS (wR ?_))))
  refine oL (lM (a:=.tree _ _) rfl) rfl rfl ?_
  refine oL (lT rfl Tryz.underlying170 rfl) rfl rfl ?_
  refine oL (lM (a:=.v _) rfl) rfl rfl ?_
  refine oN (aN (wB ?_))
  refine wL (fun n s=>∃ k:Nat,n=(ls.length - k)∧s=⟨fL [(6,.v (.slice none 0 0)),(25,.tree 1 (ls.map (lstA 3 cnA))),(26,.v (.int .i64 ((ls.length:Nat):Int))),(27,.v (.int .i64 ((k:Nat):Int)))],hLz [],0⟩∧(k≤ls.length∧∀ j,j < k→(fun _=>true) j=true)) (n:=(ls.length - 0)) (s1:=⟨fL [(6,.v (.slice none 0 0)),(25,.tree 1 (ls.map (lstA 3 cnA))),(26,.v (.int .i64 ((ls.length:Nat):Int))),(27,.v (.int .i64 ((0:Nat):Int)))],hLz [],0⟩) (cO (.cons rfl rfl (.cons rfl rfl (.cons rfl rfl (.cons rfl rfl .nil)))) .nil) ⟨0,rfl,rfl,⟨Nat.zero_le _,fun j h=>absurd h (Nat.not_lt_zero j)⟩⟩ ?_
  rintro n s ⟨k,rfl,rfl,hinv⟩
  obtain ⟨hk,hj⟩:=hinv
  refine wS (wR ?_)
  refine oL (lP rfl (fun _ _=>nofun) (fun _=>rfl)) rfl rfl ?_
  refine oN (aN (wS ?_))
  refine wC rfl (fun hc28=>?_) (fun hc28=>?_)
  ·skip
   have hlt:k < ls.length:=Int.ofNat_lt.1 (of_decide_eq_true hc28)
   have hcl2:=catL_le hl (k+1)
   rw [ctl hlt] at hcl2
   have hz:ls[k].length=0:=by rw [List.flatten_eq_nil_iff.1 (List.eq_nil_of_length_eq_zero h0) _ (List.getElem_mem hlt)]; rfl
   refine wK (aN (wS (wB (wS (wR ?_)))))
   refine oL (lI Tryz.underlying170 sz31 rfl rfl (by first | assumption | omega)) rfl rfl ?_
   refine oL (lE row31 rfl rfl) rfl rfl ?_
   refine oL (lA (a:=.tree _ _) rfl) rfl rfl ?_
   refine oN (aN (wR ?_))
   refine oL (lM (a:=.v _) rfl) rfl rfl ?_
   refine oL (lM (a:=.tree _ _) rfl) rfl rfl ?_
   refine oL (LOp.appendZ Tryz.underlying31 sz84 rfl (Src.treeMap hz) (by rw [List.eq_nil_of_length_eq_zero hz]; rfl)) rfl rfl ?_
   refine oL (lA (a:=.v _) rfl) rfl rfl ?_
   refine oN (bN (aN (wR ?_)))
   refine oL (lJ rfl rfl (by omega) (by omega)) rfl rfl ?_
   refine oL (lM (a:=.v _) rfl) rfl rfl ?_
   refine oN (aN ?_)
   refine ⟨(ls.length - (k+1)),⟨fL [(6,.v (.slice none 0 0)),(25,.tree 1 (ls.map (lstA 3 cnA))),(26,.v (.int .i64 ((ls.length:Nat):Int))),(27,.v (.int .i64 (((k+1):Nat):Int)))],hLz [],0⟩,by omega,(cO (.cons rfl rfl (.cons rfl rfl (.cons rfl rfl (.cons rfl rfl .nil)))) .nil),(k+1),rfl,rfl,?_⟩
   refine ⟨by omega,fun j h=>?_⟩
   rcases Nat.lt_succ_iff_lt_or_eq.1 h with h | rfl
   ·exact hj j h
   ·rfl
  ·skip
   have hge:¬ k < ls.length:=fun h=>of_decide_eq_false hc28 (Int.ofNat_lt.2 h)
   have hkl:k=ls.length:=by omega
   subst hkl
   refine AWP.exit (aE (aE (bE ?_)))
   refine aN (wS (wR ?_))
   refine oL (lM (a:=.v _) rfl) rfl rfl ?_
   refine oL (lA (a:=.v _) rfl) rfl rfl ?_
   refine oN (aN ?_)
   refine wT (?_)
   refine ⟨.inr rfl,Outs.tmp Tryz.results55 ?_⟩
   exact ⟨[],FzP.nil⟩
set_option maxRecDepth 100000 in
set_option maxHeartbeats 4000000 in
theorem cat1_55 (ls:List (List PCon)) (hn:ls.length≤1000) (h0:0 < ls.flatten.length) (hl:ls.flatten.length≤100000):PCall Tryz.prog 55 [.tree 1 (ls.map (lstA 3 cnA))] (.tree 3 (ls.flatten.map cnA)):=by
 refine pB Tryz.func55 rfl Tryz.ntmps55 (Nat.le_of_ble_eq_true rfl) ?_
 refine wS (wR ?_)
 refine oL (lA (a:=.v _) rfl) rfl rfl ?_
 refine oN (aN (wS (wR ?_)))
 refine oL (lA (a:=.v _) rfl) rfl rfl ?_
 refine oN (aN (wS (wS (wR ?_))))
 refine oL (lM (a:=.tree _ _) rfl) rfl rfl ?_
 refine oL (lT rfl Tryz.underlying170 rfl) rfl rfl ?_
 refine oL (lM (a:=.v _) rfl) rfl rfl ?_
 refine oN (aN (wB ?_))
 refine wL (fun n s=>∃ k:Nat,n=(ls.length - k)∧s=⟨fL [(0,.tree 1 (ls.map (lstA 3 cnA))),(3,.v (.int .i64 (((catL ls k).length:Nat):Int))),(9,.tree 1 (ls.map (lstA 3 cnA))),(10,.v (.int .i64 ((ls.length:Nat):Int))),(11,.v (.int .i64 ((k:Nat):Int)))],hLz [],0⟩∧(k≤ls.length∧∀ j,j < k→(fun _=>true) j=true)) (n:=(ls.length - 0)) (s1:=⟨fL [(0,.tree 1 (ls.map (lstA 3 cnA))),(3,.v (.int .i64 (((catL ls 0).length:Nat):Int))),(9,.tree 1 (ls.map (lstA 3 cnA))),(10,.v (.int .i64 ((ls.length:Nat):Int))),(11,.v (.int .i64 ((0:Nat):Int)))],hLz [],0⟩) (cO (.cons rfl rfl (.cons (by first | rfl | exact vi_eq (by rw [ctl hlt]; omega)) rfl (.cons rfl rfl (.cons rfl rfl (.cons rfl rfl .nil))))) .nil) ⟨0,rfl,rfl,⟨Nat.zero_le _,fun j h=>absurd h (Nat.not_lt_zero j)⟩⟩ ?_
 rintro n s ⟨k,rfl,rfl,hinv⟩
 obtain ⟨hk,hj⟩:=hinv
 have hcl:=catL_le hl k
 refine wS (wR ?_)
 refine oL (lP rfl (fun _ _=>nofun) (fun _=>rfl)) rfl rfl ?_
 refine oN (aN (wS ?_))
 refine wC rfl (fun hc12=>?_) (fun hc12=>?_)
 ·skip
  have hlt:k < ls.length:=Int.ofNat_lt.1 (of_decide_eq_true hc12)
  have hcl2:=catL_le hl (k+1)
  rw [ctl hlt] at hcl2
  refine wK (aN (wS (wB (wS (wR ?_)))))
  refine oL (lI Tryz.underlying170 sz31 rfl rfl (by first | assumption | omega)) rfl rfl ?_
  refine oL (lE row31 rfl rfl) rfl rfl ?_
  refine oL (lA (a:=.tree _ _) rfl) rfl rfl ?_
  refine oN (aN (wS (wR ?_)))
  refine oL (lM (a:=.v _) rfl) rfl rfl ?_
  refine oL (lM (a:=.tree _ _) rfl) rfl rfl ?_
  refine oL (lT rfl Tryz.underlying31 rfl) rfl rfl ?_
  refine oL (lJ rfl rfl (by omega) (by omega)) rfl rfl ?_
  refine oL (lA (a:=.v _) rfl) rfl rfl ?_
  refine oN (aN (wS (wR ?_)))
  refine oL (lM (a:=.v _) rfl) rfl rfl ?_
  refine oL (lP rfl (fun _ _=>nofun) (fun _=>rfl)) rfl rfl ?_
  refine oN (aN ?_)
  refine wC rfl (fun hc20=>?_) (fun hc20=>?_)
  ·skip
   exact absurd (of_decide_eq_true hc20) (by omega)
  ·skip
   refine wK (bN (aN (wR ?_)))
   refine oL (lJ rfl rfl (by omega) (by omega)) rfl rfl ?_
   refine oL (lM (a:=.v _) rfl) rfl rfl ?_
   refine oN (aN ?_)
   refine ⟨(ls.length - (k+1)),⟨fL [(0,.tree 1 (ls.map (lstA 3 cnA))),(3,.v (.int .i64 (((catL ls (k+1)).length:Nat):Int))),(9,.tree 1 (ls.map (lstA 3 cnA))),(10,.v (.int .i64 ((ls.length:Nat):Int))),(11,.v (.int .i64 (((k+1):Nat):Int)))],hLz [],0⟩,by omega,(cO (.cons rfl rfl (.cons (by first | rfl | exact vi_eq (by rw [ctl hlt]; omega)) rfl (.cons rfl rfl (.cons rfl rfl (.cons rfl rfl .nil))))) .nil),(k+1),rfl,rfl,?_⟩
   refine ⟨by omega,fun j h=>?_⟩
   rcases Nat.lt_succ_iff_lt_or_eq.1 h with h | rfl
   ·exact hj j h
   ·rfl
 ·skip
  have hge:¬ k < ls.length:=fun h=>of_decide_eq_false hc12 (Int.ofNat_lt.2 h)
  have hkl:k=ls.length:=by omega
  subst hkl
  clear hj hk hge
  refine AWP.exit (aE (aE (bE ?_)))
  refine aN (wS (wR ?_))
  refine oL (lM (a:=.v _) rfl) rfl rfl ?_
  refine oW (LOp.fresh 0 bod99 rfl (growf_99 _ (by rw [catL_all]; exact h0) (by omega) sz84 zr84 rfl by84 (by omega))) rfl rfl 1 rfl ?_
  refine oL (lA (a:=.sl _ _ _ _) rfl) rfl rfl ?_
  refine oN (aN (wS (wS (wR ?_))))
  refine oL (lM (a:=.tree _ _) rfl) rfl rfl ?_
  refine oL (lT rfl Tryz.underlying170 rfl) rfl rfl ?_
  refine oL (lM (a:=.v _) rfl) rfl rfl ?_
  refine oN (aN (wB ?_))
  refine wL (fun n s=>∃ k:Nat,n=(ls.length - k)∧s=⟨fL [(6,.sl 0 k 0 (catL ls k).length),(25,.tree 1 (ls.map (lstA 3 cnA))),(26,.v (.int .i64 ((ls.length:Nat):Int))),(27,.v (.int .i64 ((k:Nat):Int)))],hLz [(0,⟨k,rF cnA (catL ls k),3,false⟩)],1⟩∧(k≤ls.length∧∀ j,j < k→(fun _=>true) j=true)) (n:=(ls.length - 0)) (s1:=⟨fL [(6,.sl 0 0 0 (catL ls 0).length),(25,.tree 1 (ls.map (lstA 3 cnA))),(26,.v (.int .i64 ((ls.length:Nat):Int))),(27,.v (.int .i64 ((0:Nat):Int)))],hLz [(0,⟨0,rF cnA (catL ls 0),3,false⟩)],1⟩) (cO (.cons (by first | rfl | (rw [ctl hlt]; rfl)) rfl (.cons rfl rfl (.cons rfl rfl (.cons rfl rfl .nil)))) (.cons (by first | rfl | exact bb_eq (catL_step rowCn hlt)) rfl (rF_low rowCn _ _) .nil)) ⟨0,rfl,rfl,⟨Nat.zero_le _,fun j h=>absurd h (Nat.not_lt_zero j)⟩⟩ ?_
  rintro n s ⟨k,rfl,rfl,hinv⟩
  obtain ⟨hk,hj⟩:=hinv
  have hcl:=catL_le hl k
  refine wS (wR ?_)
  refine oL (lP rfl (fun _ _=>nofun) (fun _=>rfl)) rfl rfl ?_
  refine oN (aN (wS ?_))
  refine wC rfl (fun hc28=>?_) (fun hc28=>?_)
  ·skip
   have hlt:k < ls.length:=Int.ofNat_lt.1 (of_decide_eq_true hc28)
   have hcl2:=catL_le hl (k+1)
   rw [ctl hlt] at hcl2
   refine wK (aN (wS (wB (wS (wR ?_)))))
   refine oL (lI Tryz.underlying170 sz31 rfl rfl (by first | assumption | omega)) rfl rfl ?_
   refine oL (lE row31 rfl rfl) rfl rfl ?_
   refine oL (lA (a:=.tree _ _) rfl) rfl rfl ?_
   refine oN (aN (wR ?_))
   refine oL (lM (a:=.sl _ _ _ _) rfl) rfl rfl ?_
   refine oL (lM (a:=.tree _ _) rfl) rfl rfl ?_
   refine AOps.gv (LOp.append Tryz.underlying31 sz84 zr84 by84 rfl rfl rfl rfl rfl rfl (Nat.le_of_eq (rF_len rowCn _).symm) (Src.treeMap rfl) (rF_len rowCn _) (rF_one rowCn _) (by omega) (by omega) (by unfold TV; omega)) rfl rfl 1 rfl rfl ?_
   refine oL (lA (a:=.sl _ _ _ _) rfl) rfl rfl ?_
   refine oN (bN (aN (wR ?_)))
   refine oL (lJ rfl rfl (by omega) (by omega)) rfl rfl ?_
   refine oL (lM (a:=.v _) rfl) rfl rfl ?_
   refine oN (aN ?_)
   refine ⟨(ls.length - (k+1)),⟨fL [(6,.sl 0 (k+1) 0 (catL ls (k+1)).length),(25,.tree 1 (ls.map (lstA 3 cnA))),(26,.v (.int .i64 ((ls.length:Nat):Int))),(27,.v (.int .i64 (((k+1):Nat):Int)))],hLz [(0,⟨(k+1),rF cnA (catL ls (k+1)),3,false⟩)],1⟩,by omega,(cO (.cons (by first | rfl | (rw [ctl hlt]; rfl)) rfl (.cons rfl rfl (.cons rfl rfl (.cons rfl rfl .nil)))) (.cons (by first | rfl | exact bb_eq (catL_step rowCn hlt)) rfl (rF_low rowCn _ _) .nil)),(k+1),rfl,rfl,?_⟩
   refine ⟨by omega,fun j h=>?_⟩
   rcases Nat.lt_succ_iff_lt_or_eq.1 h with h | rfl
   ·exact hj j h
   ·rfl
  ·skip
   have hge:¬ k < ls.length:=fun h=>of_decide_eq_false hc28 (Int.ofNat_lt.2 h)
   have hkl:k=ls.length:=by omega
   subst hkl
   refine AWP.exit (aE (aE (bE ?_)))
   refine aN (wS (wR ?_))
   refine oL (lM (a:=.sl _ _ _ _) rfl) rfl rfl ?_
   refine oL (lA (a:=.sl _ _ _ _) rfl) rfl rfl ?_
   refine oN (aN ?_)
   refine wT (?_)
   refine ⟨.inr rfl,Outs.tmp Tryz.results55 ?_⟩
   rw [← catL_all]
   exact ⟨[0],FzP.rowsF rowCn (List.mem_singleton.2 rfl) rfl⟩
theorem concat_55 (a b:List PCon) (h:a.length+b.length≤100000):PCall Tryz.prog 55 [.tree 1 ([a,b].map (lstA 3 cnA))] (.tree 3 ((a++b).map cnA)):=by
 have e:[a,b].flatten=a++b:=by simp
 by_cases h0:(a++b).length=0
 ·have:=cat0_55 [a,b] (by simp) (by rw [e]; exact h0)
  rwa [List.eq_nil_of_length_eq_zero h0]
 ·have:=cat1_55 [a,b] (by simp) (by rw [e]; omega) (by rw [e,List.length_append]; omega)
  rwa [e] at this
theorem grow0_100 (m:Int) (h:m=0):PCall Tryz.prog 100 [.v (.slice none 0 0),.v (.int .i64 m)] (.v (.slice none 0 0)):=by
 subst h
 intro T w vals hv hT
 rw [two_args hv]
 refine (Any8.slices_Grow_room Tryz.growT none 0 0 0 w (Nat.le_refl _) (by omega) (by omega) (by omega)).mono ?_
 rintro e w' ⟨rfl,rfl⟩
 exact ⟨_,T,rfl,.v _,fun _ h=>h,fun _ h=>.inl h,fun b hb=>hT b hb,Below.refl _ _⟩
theorem growf_100 {z:Value} {B:Nat} (m:Nat) (h0:0 < m) (h1:m≤100000) (hs:sizeInfo Tryz.prog 52=some 4) (hz:zeroOf Tryz.prog 52=some z) (hzq:z.cells.size=4) (hb:(Tryz.prog.info? 52).map (·.bytes)=some B) (hB:B≤1000):Fresh Tryz.prog 100 [.v (.slice none 0 0),.v (.int .i64 ((m:Nat):Int))] 4:=by
 intro T w vals hv hT
 rw [two_args hv]
 unfold sizeInfo at hs
 unfold zeroOf at hz
 cases hi:Tryz.prog.info? 52 with
 | none=>rw [hi] at hs; cases hs
 | some inf=>
  rw [hi] at hz hs hb
  simp only [Option.bind_some] at hz
  simp only [Option.map_some,Option.some.injEq] at hs hb
  have hmB:(0+m) * inf.bytes≤140737488355328:=by
   rw [hb]
   exact Nat.le_trans (Nat.mul_le_mul (Nat.le_of_eq (Nat.zero_add m)) hB) (by omega)
  refine (Any8.slices_Grow_grow Tryz.growT inf _ hi hz (by omega) none 0 0 m [] w (Nat.le_refl _) (by omega) (by omega) (by omega) (by simp) (fun _=>rfl) (fun a h=>by cases h)).mono ?_
  rintro e w' ⟨rfl,rfl⟩
  have hge:=grownCap_ge w (0+m) 0 52
  have hmx:grownCap w (0+m) 0 52≤maxLen:=grownCap_le_maxLen w (0+m) 0 52 (by unfold maxLen; omega)
  refine ⟨w.heap.size,0,_,_,52,rfl,?_,Nat.le_refl _,heap_alloc_new w.drew _,hmx,?_⟩
  ·exact ⟨rfl,rfl,rfl,by simp,fun k hk=>Below.heap_alloc w.drew _ k hk⟩
  ·have e26:(Tryz.growT_ren.t 25)=52:=rfl
   simp only [e26,Array.size_append,size_zeroCells,hzq]
   simp
   omega
set_option maxRecDepth 100000 in
set_option maxHeartbeats 4000000 in
theorem cat0_56 (ls:List (List PTest)) (hn:ls.length≤1000) (h0:ls.flatten.length=0):PCall Tryz.prog 56 [.tree 1 (ls.map (lstA 4 teA))] (.tree 4 []):=by
 have hl:ls.flatten.length≤100000:=by omega
 refine pB Tryz.func56 rfl Tryz.ntmps56 (Nat.le_of_ble_eq_true rfl) ?_
 refine wS (wR ?_)
 refine oL (lA (a:=.v _) rfl) rfl rfl ?_
 refine oN (aN (wS (wR ?_)))
 refine oL (lA (a:=.v _) rfl) rfl rfl ?_
 refine oN (aN (wS (wS (wR ?_))))
 refine oL (lM (a:=.tree _ _) rfl) rfl rfl ?_
 refine oL (lT rfl Tryz.underlying172 rfl) rfl rfl ?_
 refine oL (lM (a:=.v _) rfl) rfl rfl ?_
 refine oN (aN (wB ?_))
 refine wL (fun n s=>∃ k:Nat,n=(ls.length - k)∧s=⟨fL [(0,.tree 1 (ls.map (lstA 4 teA))),(3,.v (.int .i64 (((catL ls k).length:Nat):Int))),(9,.tree 1 (ls.map (lstA 4 teA))),(10,.v (.int .i64 ((ls.length:Nat):Int))),(11,.v (.int .i64 ((k:Nat):Int)))],hLz [],0⟩∧(k≤ls.length∧∀ j,j < k→(fun _=>true) j=true)) (n:=(ls.length - 0)) (s1:=⟨fL [(0,.tree 1 (ls.map (lstA 4 teA))),(3,.v (.int .i64 (((catL ls 0).length:Nat):Int))),(9,.tree 1 (ls.map (lstA 4 teA))),(10,.v (.int .i64 ((ls.length:Nat):Int))),(11,.v (.int .i64 ((0:Nat):Int)))],hLz [],0⟩) (cO (.cons rfl rfl (.cons (by first | rfl | exact vi_eq (by rw [ctl hlt]; omega)) rfl (.cons rfl rfl (.cons rfl rfl (.cons rfl rfl .nil))))) .nil) ⟨0,rfl,rfl,⟨Nat.zero_le _,fun j h=>absurd h (Nat.not_lt_zero j)⟩⟩ ?_
 rintro n s ⟨k,rfl,rfl,hinv⟩
 obtain ⟨hk,hj⟩:=hinv
 have hcl:=catL_le hl k
 refine wS (wR ?_)
 refine oL (lP rfl (fun _ _=>nofun) (fun _=>rfl)) rfl rfl ?_
 refine oN (aN (wS ?_))
 refine wC rfl (fun hc12=>?_) (fun hc12=>?_)
 ·skip
  have hlt:k < ls.length:=Int.ofNat_lt.1 (of_decide_eq_true hc12)
  have hcl2:=catL_le hl (k+1)
  rw [ctl hlt] at hcl2
  refine wK (aN (wS (wB (wS (wR ?_)))))
  refine oL (lI Tryz.underlying172 sz32 rfl rfl (by first | assumption | omega)) rfl rfl ?_
  refine oL (lE row32 rfl rfl) rfl rfl ?_
  refine oL (lA (a:=.tree _ _) rfl) rfl rfl ?_
  refine oN (aN (wS (wR ?_)))
  refine oL (lM (a:=.v _) rfl) rfl rfl ?_
  refine oL (lM (a:=.tree _ _) rfl) rfl rfl ?_
  refine oL (lT rfl Tryz.underlying32 rfl) rfl rfl ?_
  refine oL (lJ rfl rfl (by omega) (by omega)) rfl rfl ?_
  refine oL (lA (a:=.v _) rfl) rfl rfl ?_
  refine oN (aN (wS (wR ?_)))
  refine oL (lM (a:=.v _) rfl) rfl rfl ?_
  refine oL (lP rfl (fun _ _=>nofun) (fun _=>rfl)) rfl rfl ?_
  refine oN (aN ?_)
  refine wC rfl (fun hc20=>?_) (fun hc20=>?_)
  ·skip
   exact absurd (of_decide_eq_true hc20) (by omega)
  ·skip
   refine wK (bN (aN (wR ?_)))
   refine oL (lJ rfl rfl (by omega) (by omega)) rfl rfl ?_
   refine oL (lM (a:=.v _) rfl) rfl rfl ?_
   refine oN (aN ?_)
   refine ⟨(ls.length - (k+1)),⟨fL [(0,.tree 1 (ls.map (lstA 4 teA))),(3,.v (.int .i64 (((catL ls (k+1)).length:Nat):Int))),(9,.tree 1 (ls.map (lstA 4 teA))),(10,.v (.int .i64 ((ls.length:Nat):Int))),(11,.v (.int .i64 (((k+1):Nat):Int)))],hLz [],0⟩,by omega,(cO (.cons rfl rfl (.cons (by first | rfl | exact vi_eq (by rw [ctl hlt]; omega)) rfl (.cons rfl rfl (.cons rfl rfl (.cons rfl rfl .nil))))) .nil),(k+1),rfl,rfl,?_⟩
   refine ⟨by omega,fun j h=>?_⟩
   rcases Nat.lt_succ_iff_lt_or_eq.1 h with h | rfl
   ·exact hj j h
   ·rfl
 ·skip
  have hge:¬ k < ls.length:=fun h=>of_decide_eq_false hc12 (Int.ofNat_lt.2 h)
  have hkl:k=ls.length:=by omega
  subst hkl
  clear hj hk hge
  refine AWP.exit (aE (aE (bE ?_)))
  refine aN (wS (wR ?_))
  refine oL (lM (a:=.v _) rfl) rfl rfl ?_
  refine oL (LOp.call bod100 rfl (grow0_100 _ (by rw [catL_all,h0]; rfl))) rfl rfl ?_
  refine oL (lA (a:=.v _) rfl) rfl rfl ?_
  refine oN (aN (wS (wS (wR ?_))))
  refine oL (lM (a:=.tree _ _) rfl) rfl rfl ?_
  refine oL (lT rfl Tryz.underlying172 rfl) rfl rfl ?_
  refine oL (lM (a:=.v _) rfl) rfl rfl ?_
  refine oN (aN (wB ?_))
  refine wL (fun n s=>∃ k:Nat,n=(ls.length - k)∧s=⟨fL [(6,.v (.slice none 0 0)),(25,.tree 1 (ls.map (lstA 4 teA))),(26,.v (.int .i64 ((ls.length:Nat):Int))),(27,.v (.int .i64 ((k:Nat):Int)))],hLz [],0⟩∧(k≤ls.length∧∀ j,j < k→(fun _=>true) j=true)) (n:=(ls.length - 0)) (s1:=⟨fL [(6,.v (.slice none 0 0)),(25,.tree 1 (ls.map (lstA 4 teA))),(26,.v (.int .i64 ((ls.length:Nat):Int))),(27,.v (.int .i64 ((0:Nat):Int)))],hLz [],0⟩) (cO (.cons rfl rfl (.cons rfl rfl (.cons rfl rfl (.cons rfl rfl .nil)))) .nil) ⟨0,rfl,rfl,⟨Nat.zero_le _,fun j h=>absurd h (Nat.not_lt_zero j)⟩⟩ ?_
  rintro n s ⟨k,rfl,rfl,hinv⟩
  obtain ⟨hk,hj⟩:=hinv
  refine wS (wR ?_)
  refine oL (lP rfl (fun _ _=>nofun) (fun _=>rfl)) rfl rfl ?_
  refine oN (aN (wS ?_))
  refine wC rfl (fun hc28=>?_) (fun hc28=>?_)
  ·skip
   have hlt:k < ls.length:=Int.ofNat_lt.1 (of_decide_eq_true hc28)
   have hcl2:=catL_le hl (k+1)
   rw [ctl hlt] at hcl2
   have hz:ls[k].length=0:=by rw [List.flatten_eq_nil_iff.1 (List.eq_nil_of_length_eq_zero h0) _ (List.getElem_mem hlt)]; rfl
   refine wK (aN (wS (wB (wS (wR ?_)))))
   refine oL (lI Tryz.underlying172 sz32 rfl rfl (by first | assumption | omega)) rfl rfl ?_
   refine oL (lE row32 rfl rfl) rfl rfl ?_
   refine oL (lA (a:=.tree _ _) rfl) rfl rfl ?_
   refine oN (aN (wR ?_))
   refine oL (lM (a:=.v _) rfl) rfl rfl ?_
   refine oL (lM (a:=.tree _ _) rfl) rfl rfl ?_
   refine oL (LOp.appendZ Tryz.underlying32 sz52 rfl (Src.treeMap hz) (by rw [List.eq_nil_of_length_eq_zero hz]; rfl)) rfl rfl ?_
   refine oL (lA (a:=.v _) rfl) rfl rfl ?_
   refine oN (bN (aN (wR ?_)))
   refine oL (lJ rfl rfl (by omega) (by omega)) rfl rfl ?_
   refine oL (lM (a:=.v _) rfl) rfl rfl ?_
   refine oN (aN ?_)
   refine ⟨(ls.length - (k+1)),⟨fL [(6,.v (.slice none 0 0)),(25,.tree 1 (ls.map (lstA 4 teA))),(26,.v (.int .i64 ((ls.length:Nat):Int))),(27,.v (.int .i64 (((k+1):Nat):Int)))],hLz [],0⟩,by omega,(cO (.cons rfl rfl (.cons rfl rfl (.cons rfl rfl (.cons rfl rfl .nil)))) .nil),(k+1),rfl,rfl,?_⟩
   refine ⟨by omega,fun j h=>?_⟩
   rcases Nat.lt_succ_iff_lt_or_eq.1 h with h | rfl
   ·exact hj j h
   ·rfl
  ·skip
   have hge:¬ k < ls.length:=fun h=>of_decide_eq_false hc28 (Int.ofNat_lt.2 h)
   have hkl:k=ls.length:=by omega
   subst hkl
   refine AWP.exit (aE (aE (bE ?_)))
   refine aN (wS (wR ?_))
   refine oL (lM (a:=.v _) rfl) rfl rfl ?_
   refine oL (lA (a:=.v _) rfl) rfl rfl ?_
   refine oN (aN ?_)
   refine wT (?_)
   refine ⟨.inr rfl,Outs.tmp Tryz.results56 ?_⟩
   exact ⟨[],FzP.nil⟩
set_option maxRecDepth 100000 in
set_option maxHeartbeats 4000000 in
theorem cat1_56 (ls:List (List PTest)) (hn:ls.length≤1000) (h0:0 < ls.flatten.length) (hl:ls.flatten.length≤100000):PCall Tryz.prog 56 [.tree 1 (ls.map (lstA 4 teA))] (.tree 4 (ls.flatten.map teA)):=by
 refine pB Tryz.func56 rfl Tryz.ntmps56 (Nat.le_of_ble_eq_true rfl) ?_
 refine wS (wR ?_)
 refine oL (lA (a:=.v _) rfl) rfl rfl ?_
 refine oN (aN (wS (wR ?_)))
 refine oL (lA (a:=.v _) rfl) rfl rfl ?_
 refine oN (aN (wS (wS (wR ?_))))
 refine oL (lM (a:=.tree _ _) rfl) rfl rfl ?_
 refine oL (lT rfl Tryz.underlying172 rfl) rfl rfl ?_
 refine oL (lM (a:=.v _) rfl) rfl rfl ?_
 refine oN (aN (wB ?_))
 refine wL (fun n s=>∃ k:Nat,n=(ls.length - k)∧s=⟨fL [(0,.tree 1 (ls.map (lstA 4 teA))),(3,.v (.int .i64 (((catL ls k).length:Nat):Int))),(9,.tree 1 (ls.map (lstA 4 teA))),(10,.v (.int .i64 ((ls.length:Nat):Int))),(11,.v (.int .i64 ((k:Nat):Int)))],hLz [],0⟩∧(k≤ls.length∧∀ j,j < k→(fun _=>true) j=true)) (n:=(ls.length - 0)) (s1:=⟨fL [(0,.tree 1 (ls.map (lstA 4 teA))),(3,.v (.int .i64 (((catL ls 0).length:Nat):Int))),(9,.tree 1 (ls.map (lstA 4 teA))),(10,.v (.int .i64 ((ls.length:Nat):Int))),(11,.v (.int .i64 ((0:Nat):Int)))],hLz [],0⟩) (cO (.cons rfl rfl (.cons (by first | rfl | exact vi_eq (by rw [ctl hlt]; omega)) rfl (.cons rfl rfl (.cons rfl rfl (.cons rfl rfl .nil))))) .nil) ⟨0,rfl,rfl,⟨Nat.zero_le _,fun j h=>absurd h (Nat.not_lt_zero j)⟩⟩ ?_
 rintro n s ⟨k,rfl,rfl,hinv⟩
 obtain ⟨hk,hj⟩:=hinv
 have hcl:=catL_le hl k
 refine wS (wR ?_)
 refine oL (lP rfl (fun _ _=>nofun) (fun _=>rfl)) rfl rfl ?_
 refine oN (aN (wS ?_))
 refine wC rfl (fun hc12=>?_) (fun hc12=>?_)
 ·skip
  have hlt:k < ls.length:=Int.ofNat_lt.1 (of_decide_eq_true hc12)
  have hcl2:=catL_le hl (k+1)
  rw [ctl hlt] at hcl2
  refine wK (aN (wS (wB (wS (wR ?_)))))
  refine oL (lI Tryz.underlying172 sz32 rfl rfl (by first | assumption | omega)) rfl rfl ?_
  refine oL (lE row32 rfl rfl) rfl rfl ?_
  refine oL (lA (a:=.tree _ _) rfl) rfl rfl ?_
  refine oN (aN (wS (wR ?_)))
  refine oL (lM (a:=.v _) rfl) rfl rfl ?_
  refine oL (lM (a:=.tree _ _) rfl) rfl rfl ?_
  refine oL (lT rfl Tryz.underlying32 rfl) rfl rfl ?_
  refine oL (lJ rfl rfl (by omega) (by omega)) rfl rfl ?_
  refine oL (lA (a:=.v _) rfl) rfl rfl ?_
  refine oN (aN (wS (wR ?_)))
  refine oL (lM (a:=.v _) rfl) rfl rfl ?_
  refine oL (lP rfl (fun _ _=>nofun) (fun _=>rfl)) rfl rfl ?_
  refine oN (aN ?_)
  refine wC rfl (fun hc20=>?_) (fun hc20=>?_)
  ·skip
   exact absurd (of_decide_eq_true hc20) (by omega)
  ·skip
   refine wK (bN (aN (wR ?_)))
   refine oL (lJ rfl rfl (by omega) (by omega)) rfl rfl ?_
   refine oL (lM (a:=.v _) rfl) rfl rfl ?_
   refine oN (aN ?_)
   refine ⟨(ls.length - (k+1)),⟨fL [(0,.tree 1 (ls.map (lstA 4 teA))),(3,.v (.int .i64 (((catL ls (k+1)).length:Nat):Int))),(9,.tree 1 (ls.map (lstA 4 teA))),(10,.v (.int .i64 ((ls.length:Nat):Int))),(11,.v (.int .i64 (((k+1):Nat):Int)))],hLz [],0⟩,by omega,(cO (.cons rfl rfl (.cons (by first | rfl | exact vi_eq (by rw [ctl hlt]; omega)) rfl (.cons rfl rfl (.cons rfl rfl (.cons rfl rfl .nil))))) .nil),(k+1),rfl,rfl,?_⟩
   refine ⟨by omega,fun j h=>?_⟩
   rcases Nat.lt_succ_iff_lt_or_eq.1 h with h | rfl
   ·exact hj j h
   ·rfl
 ·skip
  have hge:¬ k < ls.length:=fun h=>of_decide_eq_false hc12 (Int.ofNat_lt.2 h)
  have hkl:k=ls.length:=by omega
  subst hkl
  clear hj hk hge
  refine AWP.exit (aE (aE (bE ?_)))
  refine aN (wS (wR ?_))
  refine oL (lM (a:=.v _) rfl) rfl rfl ?_
  refine oW (LOp.fresh 0 bod100 rfl (growf_100 _ (by rw [catL_all]; exact h0) (by omega) sz52 zr52 rfl by52 (by omega))) rfl rfl 1 rfl ?_
  refine oL (lA (a:=.sl _ _ _ _) rfl) rfl rfl ?_
  refine oN (aN (wS (wS (wR ?_))))
  refine oL (lM (a:=.tree _ _) rfl) rfl rfl ?_
  refine oL (lT rfl Tryz.underlying172 rfl) rfl rfl ?_
  refine oL (lM (a:=.v _) rfl) rfl rfl ?_
  refine oN (aN (wB ?_))
  refine wL (fun n s=>∃ k:Nat,n=(ls.length - k)∧s=⟨fL [(6,.sl 0 k 0 (catL ls k).length),(25,.tree 1 (ls.map (lstA 4 teA))),(26,.v (.int .i64 ((ls.length:Nat):Int))),(27,.v (.int .i64 ((k:Nat):Int)))],hLz [(0,⟨k,rF teA (catL ls k),4,false⟩)],1⟩∧(k≤ls.length∧∀ j,j < k→(fun _=>true) j=true)) (n:=(ls.length - 0)) (s1:=⟨fL [(6,.sl 0 0 0 (catL ls 0).length),(25,.tree 1 (ls.map (lstA 4 teA))),(26,.v (.int .i64 ((ls.length:Nat):Int))),(27,.v (.int .i64 ((0:Nat):Int)))],hLz [(0,⟨0,rF teA (catL ls 0),4,false⟩)],1⟩) (cO (.cons (by first | rfl | (rw [ctl hlt]; rfl)) rfl (.cons rfl rfl (.cons rfl rfl (.cons rfl rfl .nil)))) (.cons (by first | rfl | exact bb_eq (catL_step rowTe hlt)) rfl (rF_low rowTe _ _) .nil)) ⟨0,rfl,rfl,⟨Nat.zero_le _,fun j h=>absurd h (Nat.not_lt_zero j)⟩⟩ ?_
  rintro n s ⟨k,rfl,rfl,hinv⟩
  obtain ⟨hk,hj⟩:=hinv
  have hcl:=catL_le hl k
  refine wS (wR ?_)
  refine oL (lP rfl (fun _ _=>nofun) (fun _=>rfl)) rfl rfl ?_
  refine oN (aN (wS ?_))
  refine wC rfl (fun hc28=>?_) (fun hc28=>?_)
  ·skip
   have hlt:k < ls.length:=Int.ofNat_lt.1 (of_decide_eq_true hc28)
   have hcl2:=catL_le hl (k+1)
   rw [ctl hlt] at hcl2
   refine wK (aN (wS (wB (wS (wR ?_)))))
   refine oL (lI Tryz.underlying172 sz32 rfl rfl (by first | assumption | omega)) rfl rfl ?_
   refine oL (lE row32 rfl rfl) rfl rfl ?_
   refine oL (lA (a:=.tree _ _) rfl) rfl rfl ?_
   refine oN (aN (wR ?_))
   refine oL (lM (a:=.sl _ _ _ _) rfl) rfl rfl ?_
   refine oL (lM (a:=.tree _ _) rfl) rfl rfl ?_
   refine AOps.gv (LOp.append Tryz.underlying32 sz52 zr52 by52 rfl rfl rfl rfl rfl rfl (Nat.le_of_eq (rF_len rowTe _).symm) (Src.treeMap rfl) (rF_len rowTe _) (rF_one rowTe _) (by omega) (by omega) (by unfold TV; omega)) rfl rfl 1 rfl rfl ?_
   refine oL (lA (a:=.sl _ _ _ _) rfl) rfl rfl ?_
   refine oN (bN (aN (wR ?_)))
   refine oL (lJ rfl rfl (by omega) (by omega)) rfl rfl ?_
   refine oL (lM (a:=.v _) rfl) rfl rfl ?_
   refine oN (aN ?_)
   refine ⟨(ls.length - (k+1)),⟨fL [(6,.sl 0 (k+1) 0 (catL ls (k+1)).length),(25,.tree 1 (ls.map (lstA 4 teA))),(26,.v (.int .i64 ((ls.length:Nat):Int))),(27,.v (.int .i64 (((k+1):Nat):Int)))],hLz [(0,⟨(k+1),rF teA (catL ls (k+1)),4,false⟩)],1⟩,by omega,(cO (.cons (by first | rfl | (rw [ctl hlt]; rfl)) rfl (.cons rfl rfl (.cons rfl rfl (.cons rfl rfl .nil)))) (.cons (by first | rfl | exact bb_eq (catL_step rowTe hlt)) rfl (rF_low rowTe _ _) .nil)),(k+1),rfl,rfl,?_⟩
   refine ⟨by omega,fun j h=>?_⟩
   rcases Nat.lt_succ_iff_lt_or_eq.1 h with h | rfl
   ·exact hj j h
   ·rfl
  ·skip
   have hge:¬ k < ls.length:=fun h=>of_decide_eq_false hc28 (Int.ofNat_lt.2 h)
   have hkl:k=ls.length:=by omega
   subst hkl
   refine AWP.exit (aE (aE (bE ?_)))
   refine aN (wS (wR ?_))
   refine oL (lM (a:=.sl _ _ _ _) rfl) rfl rfl ?_
   refine oL (lA (a:=.sl _ _ _ _) rfl) rfl rfl ?_
   refine oN (aN ?_)
   refine wT (?_)
   refine ⟨.inr rfl,Outs.tmp Tryz.results56 ?_⟩
   rw [← catL_all]
   exact ⟨[0],FzP.rowsF rowTe (List.mem_singleton.2 rfl) rfl⟩
theorem concat_56 (a b:List PTest) (h:a.length+b.length≤100000):PCall Tryz.prog 56 [.tree 1 ([a,b].map (lstA 4 teA))] (.tree 4 ((a++b).map teA)):=by
 have e:[a,b].flatten=a++b:=by simp
 by_cases h0:(a++b).length=0
 ·have:=cat0_56 [a,b] (by simp) (by rw [e]; exact h0)
  rwa [List.eq_nil_of_length_eq_zero h0]
 ·have:=cat1_56 [a,b] (by simp) (by rw [e]; omega) (by rw [e,List.length_append]; omega)
  rwa [e] at this
theorem grow0_101 (m:Int) (h:m=0):PCall Tryz.prog 101 [.v (.slice none 0 0),.v (.int .i64 m)] (.v (.slice none 0 0)):=by
 subst h
 intro T w vals hv hT
 rw [two_args hv]
 refine (Any8.slices_Grow_room Tryz.growP none 0 0 0 w (Nat.le_refl _) (by omega) (by omega) (by omega)).mono ?_
 rintro e w' ⟨rfl,rfl⟩
 exact ⟨_,T,rfl,.v _,fun _ h=>h,fun _ h=>.inl h,fun b hb=>hT b hb,Below.refl _ _⟩
theorem growf_101 {z:Value} {B:Nat} (m:Nat) (h0:0 < m) (h1:m≤100000) (hs:sizeInfo Tryz.prog 26=some 2) (hz:zeroOf Tryz.prog 26=some z) (hzq:z.cells.size=2) (hb:(Tryz.prog.info? 26).map (·.bytes)=some B) (hB:B≤1000):Fresh Tryz.prog 101 [.v (.slice none 0 0),.v (.int .i64 ((m:Nat):Int))] 2:=by
 intro T w vals hv hT
 rw [two_args hv]
 unfold sizeInfo at hs
 unfold zeroOf at hz
 cases hi:Tryz.prog.info? 26 with
 | none=>rw [hi] at hs; cases hs
 | some inf=>
  rw [hi] at hz hs hb
  simp only [Option.bind_some] at hz
  simp only [Option.map_some,Option.some.injEq] at hs hb
  have hmB:(0+m) * inf.bytes≤140737488355328:=by
   rw [hb]
   exact Nat.le_trans (Nat.mul_le_mul (Nat.le_of_eq (Nat.zero_add m)) hB) (by omega)
  refine (Any8.slices_Grow_grow Tryz.growP inf _ hi hz (by omega) none 0 0 m [] w (Nat.le_refl _) (by omega) (by omega) (by omega) (by simp) (fun _=>rfl) (fun a h=>by cases h)).mono ?_
  rintro e w' ⟨rfl,rfl⟩
  have hge:=grownCap_ge w (0+m) 0 26
  have hmx:grownCap w (0+m) 0 26≤maxLen:=grownCap_le_maxLen w (0+m) 0 26 (by unfold maxLen; omega)
  refine ⟨w.heap.size,0,_,_,26,rfl,?_,Nat.le_refl _,heap_alloc_new w.drew _,hmx,?_⟩
  ·exact ⟨rfl,rfl,rfl,by simp,fun k hk=>Below.heap_alloc w.drew _ k hk⟩
  ·have e26:(Tryz.growP_ren.t 25)=26:=rfl
   simp only [e26,Array.size_append,size_zeroCells,hzq]
   simp
   omega
set_option maxRecDepth 100000 in
set_option maxHeartbeats 4000000 in
theorem cat0_57 (ls:List (List (Int×Int))) (hn:ls.length≤1000) (h0:ls.flatten.length=0):PCall Tryz.prog 57 [.tree 1 (ls.map (lstA 2 paA))] (.tree 2 []):=by
 have hl:ls.flatten.length≤100000:=by omega
 refine pB Tryz.func57 rfl Tryz.ntmps57 (Nat.le_of_ble_eq_true rfl) ?_
 refine wS (wR ?_)
 refine oL (lA (a:=.v _) rfl) rfl rfl ?_
 refine oN (aN (wS (wR ?_)))
 refine oL (lA (a:=.v _) rfl) rfl rfl ?_
 refine oN (aN (wS (wS (wR ?_))))
 refine oL (lM (a:=.tree _ _) rfl) rfl rfl ?_
 refine oL (lT rfl Tryz.underlying174 rfl) rfl rfl ?_
 refine oL (lM (a:=.v _) rfl) rfl rfl ?_
 refine oN (aN (wB ?_))
 refine wL (fun n s=>∃ k:Nat,n=(ls.length - k)∧s=⟨fL [(0,.tree 1 (ls.map (lstA 2 paA))),(3,.v (.int .i64 (((catL ls k).length:Nat):Int))),(9,.tree 1 (ls.map (lstA 2 paA))),(10,.v (.int .i64 ((ls.length:Nat):Int))),(11,.v (.int .i64 ((k:Nat):Int)))],hLz [],0⟩∧(k≤ls.length∧∀ j,j < k→(fun _=>true) j=true)) (n:=(ls.length - 0)) (s1:=⟨fL [(0,.tree 1 (ls.map (lstA 2 paA))),(3,.v (.int .i64 (((catL ls 0).length:Nat):Int))),(9,.tree 1 (ls.map (lstA 2 paA))),(10,.v (.int .i64 ((ls.length:Nat):Int))),(11,.v (.int .i64 ((0:Nat):Int)))],hLz [],0⟩) (cO (.cons rfl rfl (.cons (by first | rfl | exact vi_eq (by rw [ctl hlt]; omega)) rfl (.cons rfl rfl (.cons rfl rfl (.cons rfl rfl .nil))))) .nil) ⟨0,rfl,rfl,⟨Nat.zero_le _,fun j h=>absurd h (Nat.not_lt_zero j)⟩⟩ ?_
 rintro n s ⟨k,rfl,rfl,hinv⟩
 obtain ⟨hk,hj⟩:=hinv
 have hcl:=catL_le hl k
 refine wS (wR ?_)
 refine oL (lP rfl (fun _ _=>nofun) (fun _=>rfl)) rfl rfl ?_
 refine oN (aN (wS ?_))
 refine wC rfl (fun hc12=>?_) (fun hc12=>?_)
 ·skip
  have hlt:k < ls.length:=Int.ofNat_lt.1 (of_decide_eq_true hc12)
  have hcl2:=catL_le hl (k+1)
  rw [ctl hlt] at hcl2
  refine wK (aN (wS (wB (wS (wR ?_)))))
  refine oL (lI Tryz.underlying174 sz33 rfl rfl (by first | assumption | omega)) rfl rfl ?_
  refine oL (lE row33 rfl rfl) rfl rfl ?_
  refine oL (lA (a:=.tree _ _) rfl) rfl rfl ?_
  refine oN (aN (wS (wR ?_)))
  refine oL (lM (a:=.v _) rfl) rfl rfl ?_
  refine oL (lM (a:=.tree _ _) rfl) rfl rfl ?_
  refine oL (lT rfl Tryz.underlying33 rfl) rfl rfl ?_
  refine oL (lJ rfl rfl (by omega) (by omega)) rfl rfl ?_
  refine oL (lA (a:=.v _) rfl) rfl rfl ?_
  refine oN (aN (wS (wR ?_)))
  refine oL (lM (a:=.v _) rfl) rfl rfl ?_
  refine oL (lP rfl (fun _ _=>nofun) (fun _=>rfl)) rfl rfl ?_
  refine oN (aN ?_)
  refine wC rfl (fun hc20=>?_) (fun hc20=>?_)
  ·skip
   exact absurd (of_decide_eq_true hc20) (by omega)
  ·skip
   refine wK (bN (aN (wR ?_)))
   refine oL (lJ rfl rfl (by omega) (by omega)) rfl rfl ?_
   refine oL (lM (a:=.v _) rfl) rfl rfl ?_
   refine oN (aN ?_)
   refine ⟨(ls.length - (k+1)),⟨fL [(0,.tree 1 (ls.map (lstA 2 paA))),(3,.v (.int .i64 (((catL ls (k+1)).length:Nat):Int))),(9,.tree 1 (ls.map (lstA 2 paA))),(10,.v (.int .i64 ((ls.length:Nat):Int))),(11,.v (.int .i64 (((k+1):Nat):Int)))],hLz [],0⟩,by omega,(cO (.cons rfl rfl (.cons (by first | rfl | exact vi_eq (by rw [ctl hlt]; omega)) rfl (.cons rfl rfl (.cons rfl rfl (.cons rfl rfl .nil))))) .nil),(k+1),rfl,rfl,?_⟩
   refine ⟨by omega,fun j h=>?_⟩
   rcases Nat.lt_succ_iff_lt_or_eq.1 h with h | rfl
   ·exact hj j h
   ·rfl
 ·skip
  have hge:¬ k < ls.length:=fun h=>of_decide_eq_false hc12 (Int.ofNat_lt.2 h)
  have hkl:k=ls.length:=by omega
  subst hkl
  clear hj hk hge
  refine AWP.exit (aE (aE (bE ?_)))
  refine aN (wS (wR ?_))
  refine oL (lM (a:=.v _) rfl) rfl rfl ?_
  refine oL (LOp.call bod101 rfl (grow0_101 _ (by rw [catL_all,h0]; rfl))) rfl rfl ?_
  refine oL (lA (a:=.v _) rfl) rfl rfl ?_
  refine oN (aN (wS (wS (wR ?_))))
  refine oL (lM (a:=.tree _ _) rfl) rfl rfl ?_
  refine oL (lT rfl Tryz.underlying174 rfl) rfl rfl ?_
  refine oL (lM (a:=.v _) rfl) rfl rfl ?_
  refine oN (aN (wB ?_))
  refine wL (fun n s=>∃ k:Nat,n=(ls.length - k)∧s=⟨fL [(6,.v (.slice none 0 0)),(25,.tree 1 (ls.map (lstA 2 paA))),(26,.v (.int .i64 ((ls.length:Nat):Int))),(27,.v (.int .i64 ((k:Nat):Int)))],hLz [],0⟩∧(k≤ls.length∧∀ j,j < k→(fun _=>true) j=true)) (n:=(ls.length - 0)) (s1:=⟨fL [(6,.v (.slice none 0 0)),(25,.tree 1 (ls.map (lstA 2 paA))),(26,.v (.int .i64 ((ls.length:Nat):Int))),(27,.v (.int .i64 ((0:Nat):Int)))],hLz [],0⟩) (cO (.cons rfl rfl (.cons rfl rfl (.cons rfl rfl (.cons rfl rfl .nil)))) .nil) ⟨0,rfl,rfl,⟨Nat.zero_le _,fun j h=>absurd h (Nat.not_lt_zero j)⟩⟩ ?_
  rintro n s ⟨k,rfl,rfl,hinv⟩
  obtain ⟨hk,hj⟩:=hinv
  refine wS (wR ?_)
  refine oL (lP rfl (fun _ _=>nofun) (fun _=>rfl)) rfl rfl ?_
  refine oN (aN (wS ?_))
  refine wC rfl (fun hc28=>?_) (fun hc28=>?_)
  ·skip
   have hlt:k < ls.length:=Int.ofNat_lt.1 (of_decide_eq_true hc28)
   have hcl2:=catL_le hl (k+1)
   rw [ctl hlt] at hcl2
   have hz:ls[k].length=0:=by rw [List.flatten_eq_nil_iff.1 (List.eq_nil_of_length_eq_zero h0) _ (List.getElem_mem hlt)]; rfl
   refine wK (aN (wS (wB (wS (wR ?_)))))
   refine oL (lI Tryz.underlying174 sz33 rfl rfl (by first | assumption | omega)) rfl rfl ?_
   refine oL (lE row33 rfl rfl) rfl rfl ?_
   refine oL (lA (a:=.tree _ _) rfl) rfl rfl ?_
   refine oN (aN (wR ?_))
   refine oL (lM (a:=.v _) rfl) rfl rfl ?_
   refine oL (lM (a:=.tree _ _) rfl) rfl rfl ?_
   refine oL (LOp.appendZ Tryz.underlying33 sz26 rfl (Src.treeMap hz) (by rw [List.eq_nil_of_length_eq_zero hz]; rfl)) rfl rfl ?_
   refine oL (lA (a:=.v _) rfl) rfl rfl ?_
   refine oN (bN (aN (wR ?_)))
   refine oL (lJ rfl rfl (by omega) (by omega)) rfl rfl ?_
   refine oL (lM (a:=.v _) rfl) rfl rfl ?_
   refine oN (aN ?_)
   refine ⟨(ls.length - (k+1)),⟨fL [(6,.v (.slice none 0 0)),(25,.tree 1 (ls.map (lstA 2 paA))),(26,.v (.int .i64 ((ls.length:Nat):Int))),(27,.v (.int .i64 (((k+1):Nat):Int)))],hLz [],0⟩,by omega,(cO (.cons rfl rfl (.cons rfl rfl (.cons rfl rfl (.cons rfl rfl .nil)))) .nil),(k+1),rfl,rfl,?_⟩
   refine ⟨by omega,fun j h=>?_⟩
   rcases Nat.lt_succ_iff_lt_or_eq.1 h with h | rfl
   ·exact hj j h
   ·rfl
  ·skip
   have hge:¬ k < ls.length:=fun h=>of_decide_eq_false hc28 (Int.ofNat_lt.2 h)
   have hkl:k=ls.length:=by omega
   subst hkl
   refine AWP.exit (aE (aE (bE ?_)))
   refine aN (wS (wR ?_))
   refine oL (lM (a:=.v _) rfl) rfl rfl ?_
   refine oL (lA (a:=.v _) rfl) rfl rfl ?_
   refine oN (aN ?_)
   refine wT (?_)
   refine ⟨.inr rfl,Outs.tmp Tryz.results57 ?_⟩
   exact ⟨[],FzP.nil⟩
set_option maxRecDepth 100000 in
set_option maxHeartbeats 4000000 in
theorem cat1_57 (ls:List (List (Int×Int))) (hn:ls.length≤1000) (h0:0 < ls.flatten.length) (hl:ls.flatten.length≤100000):PCall Tryz.prog 57 [.tree 1 (ls.map (lstA 2 paA))] (.tree 2 (ls.flatten.map paA)):=by
 refine pB Tryz.func57 rfl Tryz.ntmps57 (Nat.le_of_ble_eq_true rfl) ?_
 refine wS (wR ?_)
 refine oL (lA (a:=.v _) rfl) rfl rfl ?_
 refine oN (aN (wS (wR ?_)))
 refine oL (lA (a:=.v _) rfl) rfl rfl ?_
 refine oN (aN (wS (wS (wR ?_))))
 refine oL (lM (a:=.tree _ _) rfl) rfl rfl ?_
 refine oL (lT rfl Tryz.underlying174 rfl) rfl rfl ?_
 refine oL (lM (a:=.v _) rfl) rfl rfl ?_
 refine oN (aN (wB ?_))
 refine wL (fun n s=>∃ k:Nat,n=(ls.length - k)∧s=⟨fL [(0,.tree 1 (ls.map (lstA 2 paA))),(3,.v (.int .i64 (((catL ls k).length:Nat):Int))),(9,.tree 1 (ls.map (lstA 2 paA))),(10,.v (.int .i64 ((ls.length:Nat):Int))),(11,.v (.int .i64 ((k:Nat):Int)))],hLz [],0⟩∧(k≤ls.length∧∀ j,j < k→(fun _=>true) j=true)) (n:=(ls.length - 0)) (s1:=⟨fL [(0,.tree 1 (ls.map (lstA 2 paA))),(3,.v (.int .i64 (((catL ls 0).length:Nat):Int))),(9,.tree 1 (ls.map (lstA 2 paA))),(10,.v (.int .i64 ((ls.length:Nat):Int))),(11,.v (.int .i64 ((0:Nat):Int)))],hLz [],0⟩) (cO (.cons rfl rfl (.cons (by first | rfl | exact vi_eq (by rw [ctl hlt]; omega)) rfl (.cons rfl rfl (.cons rfl rfl (.cons rfl rfl .nil))))) .nil) ⟨0,rfl,rfl,⟨Nat.zero_le _,fun j h=>absurd h (Nat.not_lt_zero j)⟩⟩ ?_
 rintro n s ⟨k,rfl,rfl,hinv⟩
 obtain ⟨hk,hj⟩:=hinv
 have hcl:=catL_le hl k
 refine wS (wR ?_)
 refine oL (lP rfl (fun _ _=>nofun) (fun _=>rfl)) rfl rfl ?_
 refine oN (aN (wS ?_))
 refine wC rfl (fun hc12=>?_) (fun hc12=>?_)
 ·skip
  have hlt:k < ls.length:=Int.ofNat_lt.1 (of_decide_eq_true hc12)
  have hcl2:=catL_le hl (k+1)
  rw [ctl hlt] at hcl2
  refine wK (aN (wS (wB (wS (wR ?_)))))
  refine oL (lI Tryz.underlying174 sz33 rfl rfl (by first | assumption | omega)) rfl rfl ?_
  refine oL (lE row33 rfl rfl) rfl rfl ?_
  refine oL (lA (a:=.tree _ _) rfl) rfl rfl ?_
  refine oN (aN (wS (wR ?_)))
  refine oL (lM (a:=.v _) rfl) rfl rfl ?_
  refine oL (lM (a:=.tree _ _) rfl) rfl rfl ?_
  refine oL (lT rfl Tryz.underlying33 rfl) rfl rfl ?_
  refine oL (lJ rfl rfl (by omega) (by omega)) rfl rfl ?_
  refine oL (lA (a:=.v _) rfl) rfl rfl ?_
  refine oN (aN (wS (wR ?_)))
  refine oL (lM (a:=.v _) rfl) rfl rfl ?_
  refine oL (lP rfl (fun _ _=>nofun) (fun _=>rfl)) rfl rfl ?_
  refine oN (aN ?_)
  refine wC rfl (fun hc20=>?_) (fun hc20=>?_)
  ·skip
   exact absurd (of_decide_eq_true hc20) (by omega)
  ·skip
   refine wK (bN (aN (wR ?_)))
   refine oL (lJ rfl rfl (by omega) (by omega)) rfl rfl ?_
   refine oL (lM (a:=.v _) rfl) rfl rfl ?_
   refine oN (aN ?_)
   refine ⟨(ls.length - (k+1)),⟨fL [(0,.tree 1 (ls.map (lstA 2 paA))),(3,.v (.int .i64 (((catL ls (k+1)).length:Nat):Int))),(9,.tree 1 (ls.map (lstA 2 paA))),(10,.v (.int .i64 ((ls.length:Nat):Int))),(11,.v (.int .i64 (((k+1):Nat):Int)))],hLz [],0⟩,by omega,(cO (.cons rfl rfl (.cons (by first | rfl | exact vi_eq (by rw [ctl hlt]; omega)) rfl (.cons rfl rfl (.cons rfl rfl (.cons rfl rfl .nil))))) .nil),(k+1),rfl,rfl,?_⟩
   refine ⟨by omega,fun j h=>?_⟩
   rcases Nat.lt_succ_iff_lt_or_eq.1 h with h | rfl
   ·exact hj j h
   ·rfl
 ·skip
  have hge:¬ k < ls.length:=fun h=>of_decide_eq_false hc12 (Int.ofNat_lt.2 h)
  have hkl:k=ls.length:=by omega
  subst hkl
  clear hj hk hge
  refine AWP.exit (aE (aE (bE ?_)))
  refine aN (wS (wR ?_))
  refine oL (lM (a:=.v _) rfl) rfl rfl ?_
  refine oW (LOp.fresh 0 bod101 rfl (growf_101 _ (by rw [catL_all]; exact h0) (by omega) sz26 zr26 rfl by26 (by omega))) rfl rfl 1 rfl ?_
  refine oL (lA (a:=.sl _ _ _ _) rfl) rfl rfl ?_
  refine oN (aN (wS (wS (wR ?_))))
  refine oL (lM (a:=.tree _ _) rfl) rfl rfl ?_
  refine oL (lT rfl Tryz.underlying174 rfl) rfl rfl ?_
  refine oL (lM (a:=.v _) rfl) rfl rfl ?_
  refine oN (aN (wB ?_))
  refine wL (fun n s=>∃ k:Nat,n=(ls.length - k)∧s=⟨fL [(6,.sl 0 k 0 (catL ls k).length),(25,.tree 1 (ls.map (lstA 2 paA))),(26,.v (.int .i64 ((ls.length:Nat):Int))),(27,.v (.int .i64 ((k:Nat):Int)))],hLz [(0,⟨k,rF paA (catL ls k),2,false⟩)],1⟩∧(k≤ls.length∧∀ j,j < k→(fun _=>true) j=true)) (n:=(ls.length - 0)) (s1:=⟨fL [(6,.sl 0 0 0 (catL ls 0).length),(25,.tree 1 (ls.map (lstA 2 paA))),(26,.v (.int .i64 ((ls.length:Nat):Int))),(27,.v (.int .i64 ((0:Nat):Int)))],hLz [(0,⟨0,rF paA (catL ls 0),2,false⟩)],1⟩) (cO (.cons (by first | rfl | (rw [ctl hlt]; rfl)) rfl (.cons rfl rfl (.cons rfl rfl (.cons rfl rfl .nil)))) (.cons (by first | rfl | exact bb_eq (catL_step rowPa hlt)) rfl (rF_low rowPa _ _) .nil)) ⟨0,rfl,rfl,⟨Nat.zero_le _,fun j h=>absurd h (Nat.not_lt_zero j)⟩⟩ ?_
  rintro n s ⟨k,rfl,rfl,hinv⟩
  obtain ⟨hk,hj⟩:=hinv
  have hcl:=catL_le hl k
  refine wS (wR ?_)
  refine oL (lP rfl (fun _ _=>nofun) (fun _=>rfl)) rfl rfl ?_
  refine oN (aN (wS ?_))
  refine wC rfl (fun hc28=>?_) (fun hc28=>?_)
  ·skip
   have hlt:k < ls.length:=Int.ofNat_lt.1 (of_decide_eq_true hc28)
   have hcl2:=catL_le hl (k+1)
   rw [ctl hlt] at hcl2
   refine wK (aN (wS (wB (wS (wR ?_)))))
   refine oL (lI Tryz.underlying174 sz33 rfl rfl (by first | assumption | omega)) rfl rfl ?_
   refine oL (lE row33 rfl rfl) rfl rfl ?_
   refine oL (lA (a:=.tree _ _) rfl) rfl rfl ?_
   refine oN (aN (wR ?_))
   refine oL (lM (a:=.sl _ _ _ _) rfl) rfl rfl ?_
   refine oL (lM (a:=.tree _ _) rfl) rfl rfl ?_
   refine AOps.gv (LOp.append Tryz.underlying33 sz26 zr26 by26 rfl rfl rfl rfl rfl rfl (Nat.le_of_eq (rF_len rowPa _).symm) (Src.treeMap rfl) (rF_len rowPa _) (rF_one rowPa _) (by omega) (by omega) (by unfold TV; omega)) rfl rfl 1 rfl rfl ?_
   refine oL (lA (a:=.sl _ _ _ _) rfl) rfl rfl ?_
   refine oN (bN (aN (wR ?_)))
   refine oL (lJ rfl rfl (by omega) (by omega)) rfl rfl ?_
   refine oL (lM (a:=.v _) rfl) rfl rfl ?_
   refine oN (aN ?_)
   refine ⟨(ls.length - (k+1)),⟨fL [(6,.sl 0 (k+1) 0 (catL ls (k+1)).length),(25,.tree 1 (ls.map (lstA 2 paA))),(26,.v (.int .i64 ((ls.length:Nat):Int))),(27,.v (.int .i64 (((k+1):Nat):Int)))],hLz [(0,⟨(k+1),rF paA (catL ls (k+1)),2,false⟩)],1⟩,by omega,(cO (.cons (by first | rfl | (rw [ctl hlt]; rfl)) rfl (.cons rfl rfl (.cons rfl rfl (.cons rfl rfl .nil)))) (.cons (by first | rfl | exact bb_eq (catL_step rowPa hlt)) rfl (rF_low rowPa _ _) .nil)),(k+1),rfl,rfl,?_⟩
   refine ⟨by omega,fun j h=>?_⟩
   rcases Nat.lt_succ_iff_lt_or_eq.1 h with h | rfl
   ·exact hj j h
   ·rfl
  ·skip
   have hge:¬ k < ls.length:=fun h=>of_decide_eq_false hc28 (Int.ofNat_lt.2 h)
   have hkl:k=ls.length:=by omega
   subst hkl
   refine AWP.exit (aE (aE (bE ?_)))
   refine aN (wS (wR ?_))
   refine oL (lM (a:=.sl _ _ _ _) rfl) rfl rfl ?_
   refine oL (lA (a:=.sl _ _ _ _) rfl) rfl rfl ?_
   refine oN (aN ?_)
   refine wT (?_)
   refine ⟨.inr rfl,Outs.tmp Tryz.results57 ?_⟩
   rw [← catL_all]
   exact ⟨[0],FzP.rowsF rowPa (List.mem_singleton.2 rfl) rfl⟩
theorem concat_57 (a b:List (Int×Int)) (h:a.length+b.length≤100000):PCall Tryz.prog 57 [.tree 1 ([a,b].map (lstA 2 paA))] (.tree 2 ((a++b).map paA)):=by
 have e:[a,b].flatten=a++b:=by simp
 by_cases h0:(a++b).length=0
 ·have:=cat0_57 [a,b] (by simp) (by rw [e]; exact h0)
  rwa [List.eq_nil_of_length_eq_zero h0]
 ·have:=cat1_57 [a,b] (by simp) (by rw [e]; omega) (by rw [e,List.length_append]; omega)
  rwa [e] at this
theorem grow0_48 (m:Int) (h:m=0):PCall Tryz.prog 48 [.v (.slice none 0 0),.v (.int .i64 m)] (.v (.slice none 0 0)):=by
 subst h
 intro T w vals hv hT
 rw [two_args hv]
 refine (Any8.slices_Grow_room Tryz.growV none 0 0 0 w (Nat.le_refl _) (by omega) (by omega) (by omega)).mono ?_
 rintro e w' ⟨rfl,rfl⟩
 exact ⟨_,T,rfl,.v _,fun _ h=>h,fun _ h=>.inl h,fun b hb=>hT b hb,Below.refl _ _⟩
theorem growf_48 {z:Value} {B:Nat} (m:Nat) (h0:0 < m) (h1:m≤100000) (hs:sizeInfo Tryz.prog 44=some 5) (hz:zeroOf Tryz.prog 44=some z) (hzq:z.cells.size=5) (hb:(Tryz.prog.info? 44).map (·.bytes)=some B) (hB:B≤1000):Fresh Tryz.prog 48 [.v (.slice none 0 0),.v (.int .i64 ((m:Nat):Int))] 5:=by
 intro T w vals hv hT
 rw [two_args hv]
 unfold sizeInfo at hs
 unfold zeroOf at hz
 cases hi:Tryz.prog.info? 44 with
 | none=>rw [hi] at hs; cases hs
 | some inf=>
  rw [hi] at hz hs hb
  simp only [Option.bind_some] at hz
  simp only [Option.map_some,Option.some.injEq] at hs hb
  have hmB:(0+m) * inf.bytes≤140737488355328:=by
   rw [hb]
   exact Nat.le_trans (Nat.mul_le_mul (Nat.le_of_eq (Nat.zero_add m)) hB) (by omega)
  refine (Any8.slices_Grow_grow Tryz.growV inf _ hi hz (by omega) none 0 0 m [] w (Nat.le_refl _) (by omega) (by omega) (by omega) (by simp) (fun _=>rfl) (fun a h=>by cases h)).mono ?_
  rintro e w' ⟨rfl,rfl⟩
  have hge:=grownCap_ge w (0+m) 0 44
  have hmx:grownCap w (0+m) 0 44≤maxLen:=grownCap_le_maxLen w (0+m) 0 44 (by unfold maxLen; omega)
  refine ⟨w.heap.size,0,_,_,44,rfl,?_,Nat.le_refl _,heap_alloc_new w.drew _,hmx,?_⟩
  ·exact ⟨rfl,rfl,rfl,by simp,fun k hk=>Below.heap_alloc w.drew _ k hk⟩
  ·have e26:(Tryz.growV_ren.t 25)=44:=rfl
   simp only [e26,Array.size_append,size_zeroCells,hzq]
   simp
   omega
set_option maxRecDepth 100000 in
set_option maxHeartbeats 4000000 in
theorem cat0_23 (ls:List (List PVar)) (hn:ls.length≤1000) (h0:ls.flatten.length=0):PCall Tryz.prog 23 [.tree 1 (ls.map (lstA 5 vA))] (.tree 5 []):=by
 have hl:ls.flatten.length≤100000:=by omega
 refine pB Tryz.func23 rfl Tryz.ntmps23 (Nat.le_of_ble_eq_true rfl) ?_
 refine wS (wR ?_)
 refine oL (lA (a:=.v _) rfl) rfl rfl ?_
 refine oN (aN (wS (wR ?_)))
 refine oL (lA (a:=.v _) rfl) rfl rfl ?_
 refine oN (aN (wS (wS (wR ?_))))
 refine oL (lM (a:=.tree _ _) rfl) rfl rfl ?_
 refine oL (lT rfl Tryz.underlying115 rfl) rfl rfl ?_
 refine oL (lM (a:=.v _) rfl) rfl rfl ?_
 refine oN (aN (wB ?_))
 refine wL (fun n s=>∃ k:Nat,n=(ls.length - k)∧s=⟨fL [(0,.tree 1 (ls.map (lstA 5 vA))),(3,.v (.int .i64 (((catL ls k).length:Nat):Int))),(9,.tree 1 (ls.map (lstA 5 vA))),(10,.v (.int .i64 ((ls.length:Nat):Int))),(11,.v (.int .i64 ((k:Nat):Int)))],hLz [],0⟩∧(k≤ls.length∧∀ j,j < k→(fun _=>true) j=true)) (n:=(ls.length - 0)) (s1:=⟨fL [(0,.tree 1 (ls.map (lstA 5 vA))),(3,.v (.int .i64 (((catL ls 0).length:Nat):Int))),(9,.tree 1 (ls.map (lstA 5 vA))),(10,.v (.int .i64 ((ls.length:Nat):Int))),(11,.v (.int .i64 ((0:Nat):Int)))],hLz [],0⟩) (cO (.cons rfl rfl (.cons (by first | rfl | exact vi_eq (by rw [ctl hlt]; omega)) rfl (.cons rfl rfl (.cons rfl rfl (.cons rfl rfl .nil))))) .nil) ⟨0,rfl,rfl,⟨Nat.zero_le _,fun j h=>absurd h (Nat.not_lt_zero j)⟩⟩ ?_
 rintro n s ⟨k,rfl,rfl,hinv⟩
 obtain ⟨hk,hj⟩:=hinv
 have hcl:=catL_le hl k
 refine wS (wR ?_)
 refine oL (lP rfl (fun _ _=>nofun) (fun _=>rfl)) rfl rfl ?_
 refine oN (aN (wS ?_))
 refine wC rfl (fun hc12=>?_) (fun hc12=>?_)
 ·skip
  have hlt:k < ls.length:=Int.ofNat_lt.1 (of_decide_eq_true hc12)
  have hcl2:=catL_le hl (k+1)
  rw [ctl hlt] at hcl2
  refine wK (aN (wS (wB (wS (wR ?_)))))
  refine oL (lI Tryz.underlying115 sz22 rfl rfl (by first | assumption | omega)) rfl rfl ?_
  refine oL (lE row22 rfl rfl) rfl rfl ?_
  refine oL (lA (a:=.tree _ _) rfl) rfl rfl ?_
  refine oN (aN (wS (wR ?_)))
  refine oL (lM (a:=.v _) rfl) rfl rfl ?_
  refine oL (lM (a:=.tree _ _) rfl) rfl rfl ?_
  refine oL (lT rfl Tryz.underlying22 rfl) rfl rfl ?_
  refine oL (lJ rfl rfl (by omega) (by omega)) rfl rfl ?_
  refine oL (lA (a:=.v _) rfl) rfl rfl ?_
  refine oN (aN (wS (wR ?_)))
  refine oL (lM (a:=.v _) rfl) rfl rfl ?_
  refine oL (lP rfl (fun _ _=>nofun) (fun _=>rfl)) rfl rfl ?_
  refine oN (aN ?_)
  refine wC rfl (fun hc20=>?_) (fun hc20=>?_)
  ·skip
   exact absurd (of_decide_eq_true hc20) (by omega)
  ·skip
   refine wK (bN (aN (wR ?_)))
   refine oL (lJ rfl rfl (by omega) (by omega)) rfl rfl ?_
   refine oL (lM (a:=.v _) rfl) rfl rfl ?_
   refine oN (aN ?_)
   refine ⟨(ls.length - (k+1)),⟨fL [(0,.tree 1 (ls.map (lstA 5 vA))),(3,.v (.int .i64 (((catL ls (k+1)).length:Nat):Int))),(9,.tree 1 (ls.map (lstA 5 vA))),(10,.v (.int .i64 ((ls.length:Nat):Int))),(11,.v (.int .i64 (((k+1):Nat):Int)))],hLz [],0⟩,by omega,(cO (.cons rfl rfl (.cons (by first | rfl | exact vi_eq (by rw [ctl hlt]; omega)) rfl (.cons rfl rfl (.cons rfl rfl (.cons rfl rfl .nil))))) .nil),(k+1),rfl,rfl,?_⟩
   refine ⟨by omega,fun j h=>?_⟩
   rcases Nat.lt_succ_iff_lt_or_eq.1 h with h | rfl
   ·exact hj j h
   ·rfl
 ·skip
  have hge:¬ k < ls.length:=fun h=>of_decide_eq_false hc12 (Int.ofNat_lt.2 h)
  have hkl:k=ls.length:=by omega
  subst hkl
  clear hj hk hge
  refine AWP.exit (aE (aE (bE ?_)))
  refine aN (wS (wR ?_))
  refine oL (lM (a:=.v _) rfl) rfl rfl ?_
  refine oL (LOp.call bod48 rfl (grow0_48 _ (by rw [catL_all,h0]; rfl))) rfl rfl ?_
  refine oL (lA (a:=.v _) rfl) rfl rfl ?_
  refine oN (aN (wS (wS (wR ?_))))
  refine oL (lM (a:=.tree _ _) rfl) rfl rfl ?_
  refine oL (lT rfl Tryz.underlying115 rfl) rfl rfl ?_
  refine oL (lM (a:=.v _) rfl) rfl rfl ?_
  refine oN (aN (wB ?_))
  refine wL (fun n s=>∃ k:Nat,n=(ls.length - k)∧s=⟨fL [(6,.v (.slice none 0 0)),(25,.tree 1 (ls.map (lstA 5 vA))),(26,.v (.int .i64 ((ls.length:Nat):Int))),(27,.v (.int .i64 ((k:Nat):Int)))],hLz [],0⟩∧(k≤ls.length∧∀ j,j < k→(fun _=>true) j=true)) (n:=(ls.length - 0)) (s1:=⟨fL [(6,.v (.slice none 0 0)),(25,.tree 1 (ls.map (lstA 5 vA))),(26,.v (.int .i64 ((ls.length:Nat):Int))),(27,.v (.int .i64 ((0:Nat):Int)))],hLz [],0⟩) (cO (.cons rfl rfl (.cons rfl rfl (.cons rfl rfl (.cons rfl rfl .nil)))) .nil) ⟨0,rfl,rfl,⟨Nat.zero_le _,fun j h=>absurd h (Nat.not_lt_zero j)⟩⟩ ?_
  rintro n s ⟨k,rfl,rfl,hinv⟩
  obtain ⟨hk,hj⟩:=hinv
  refine wS (wR ?_)
  refine oL (lP rfl (fun _ _=>nofun) (fun _=>rfl)) rfl rfl ?_
  refine oN (aN (wS ?_))
  refine wC rfl (fun hc28=>?_) (fun hc28=>?_)
  ·skip
   have hlt:k < ls.length:=Int.ofNat_lt.1 (of_decide_eq_true hc28)
   have hcl2:=catL_le hl (k+1)
   rw [ctl hlt] at hcl2
   have hz:ls[k].length=0:=by rw [List.flatten_eq_nil_iff.1 (List.eq_nil_of_length_eq_zero h0) _ (List.getElem_mem hlt)]; rfl
   refine wK (aN (wS (wB (wS (wR ?_)))))
   refine oL (lI Tryz.underlying115 sz22 rfl rfl (by first | assumption | omega)) rfl rfl ?_
   refine oL (lE row22 rfl rfl) rfl rfl ?_
   refine oL (lA (a:=.tree _ _) rfl) rfl rfl ?_
   refine oN (aN (wR ?_))
   refine oL (lM (a:=.v _) rfl) rfl rfl ?_
   refine oL (lM (a:=.tree _ _) rfl) rfl rfl ?_
   refine oL (LOp.appendZ Tryz.underlying22 sz44 rfl (Src.treeMap hz) (by rw [List.eq_nil_of_length_eq_zero hz]; rfl)) rfl rfl ?_
   refine oL (lA (a:=.v _) rfl) rfl rfl ?_
   refine oN (bN (aN (wR ?_)))
   refine oL (lJ rfl rfl (by omega) (by omega)) rfl rfl ?_
   refine oL (lM (a:=.v _) rfl) rfl rfl ?_
   refine oN (aN ?_)
   refine ⟨(ls.length - (k+1)),⟨fL [(6,.v (.slice none 0 0)),(25,.tree 1 (ls.map (lstA 5 vA))),(26,.v (.int .i64 ((ls.length:Nat):Int))),(27,.v (.int .i64 (((k+1):Nat):Int)))],hLz [],0⟩,by omega,(cO (.cons rfl rfl (.cons rfl rfl (.cons rfl rfl (.cons rfl rfl .nil)))) .nil),(k+1),rfl,rfl,?_⟩
   refine ⟨by omega,fun j h=>?_⟩
   rcases Nat.lt_succ_iff_lt_or_eq.1 h with h | rfl
   ·exact hj j h
   ·rfl
  ·skip
   have hge:¬ k < ls.length:=fun h=>of_decide_eq_false hc28 (Int.ofNat_lt.2 h)
   have hkl:k=ls.length:=by omega
   subst hkl
   refine AWP.exit (aE (aE (bE ?_)))
   refine aN (wS (wR ?_))
   refine oL (lM (a:=.v _) rfl) rfl rfl ?_
   refine oL (lA (a:=.v _) rfl) rfl rfl ?_
   refine oN (aN ?_)
   refine wT (?_)
   refine ⟨.inr rfl,Outs.tmp Tryz.results23 ?_⟩
   exact ⟨[],FzP.nil⟩
set_option maxRecDepth 100000 in
set_option maxHeartbeats 4000000 in
theorem cat1_23 (ls:List (List PVar)) (hn:ls.length≤1000) (h0:0 < ls.flatten.length) (hl:ls.flatten.length≤100000):PCall Tryz.prog 23 [.tree 1 (ls.map (lstA 5 vA))] (.tree 5 (ls.flatten.map vA)):=by
 refine pB Tryz.func23 rfl Tryz.ntmps23 (Nat.le_of_ble_eq_true rfl) ?_
 refine wS (wR ?_)
 refine oL (lA (a:=.v _) rfl) rfl rfl ?_
 refine oN (aN (wS (wR ?_)))
 refine oL (lA (a:=.v _) rfl) rfl rfl ?_
 refine oN (aN (wS (wS (wR ?_))))
 refine oL (lM (a:=.tree _ _) rfl) rfl rfl ?_
 refine oL (lT rfl Tryz.underlying115 rfl) rfl rfl ?_
 refine oL (lM (a:=.v _) rfl) rfl rfl ?_
 refine oN (aN (wB ?_))
 refine wL (fun n s=>∃ k:Nat,n=(ls.length - k)∧s=⟨fL [(0,.tree 1 (ls.map (lstA 5 vA))),(3,.v (.int .i64 (((catL ls k).length:Nat):Int))),(9,.tree 1 (ls.map (lstA 5 vA))),(10,.v (.int .i64 ((ls.length:Nat):Int))),(11,.v (.int .i64 ((k:Nat):Int)))],hLz [],0⟩∧(k≤ls.length∧∀ j,j < k→(fun _=>true) j=true)) (n:=(ls.length - 0)) (s1:=⟨fL [(0,.tree 1 (ls.map (lstA 5 vA))),(3,.v (.int .i64 (((catL ls 0).length:Nat):Int))),(9,.tree 1 (ls.map (lstA 5 vA))),(10,.v (.int .i64 ((ls.length:Nat):Int))),(11,.v (.int .i64 ((0:Nat):Int)))],hLz [],0⟩) (cO (.cons rfl rfl (.cons (by first | rfl | exact vi_eq (by rw [ctl hlt]; omega)) rfl (.cons rfl rfl (.cons rfl rfl (.cons rfl rfl .nil))))) .nil) ⟨0,rfl,rfl,⟨Nat.zero_le _,fun j h=>absurd h (Nat.not_lt_zero j)⟩⟩ ?_
 rintro n s ⟨k,rfl,rfl,hinv⟩
 obtain ⟨hk,hj⟩:=hinv
 have hcl:=catL_le hl k
 refine wS (wR ?_)
 refine oL (lP rfl (fun _ _=>nofun) (fun _=>rfl)) rfl rfl ?_
 refine oN (aN (wS ?_))
 refine wC rfl (fun hc12=>?_) (fun hc12=>?_)
 ·skip
  have hlt:k < ls.length:=Int.ofNat_lt.1 (of_decide_eq_true hc12)
  have hcl2:=catL_le hl (k+1)
  rw [ctl hlt] at hcl2
  refine wK (aN (wS (wB (wS (wR ?_)))))
  refine oL (lI Tryz.underlying115 sz22 rfl rfl (by first | assumption | omega)) rfl rfl ?_
  refine oL (lE row22 rfl rfl) rfl rfl ?_
  refine oL (lA (a:=.tree _ _) rfl) rfl rfl ?_
  refine oN (aN (wS (wR ?_)))
  refine oL (lM (a:=.v _) rfl) rfl rfl ?_
  refine oL (lM (a:=.tree _ _) rfl) rfl rfl ?_
  refine oL (lT rfl Tryz.underlying22 rfl) rfl rfl ?_
  refine oL (lJ rfl rfl (by omega) (by omega)) rfl rfl ?_
  refine oL (lA (a:=.v _) rfl) rfl rfl ?_
  refine oN (aN (wS (wR ?_)))
  refine oL (lM (a:=.v _) rfl) rfl rfl ?_
  refine oL (lP rfl (fun _ _=>nofun) (fun _=>rfl)) rfl rfl ?_
  refine oN (aN ?_)
  refine wC rfl (fun hc20=>?_) (fun hc20=>?_)
  ·skip
   exact absurd (of_decide_eq_true hc20) (by omega)
  ·skip
   refine wK (bN (aN (wR ?_)))
   refine oL (lJ rfl rfl (by omega) (by omega)) rfl rfl ?_
   refine oL (lM (a:=.v _) rfl) rfl rfl ?_
   refine oN (aN ?_)
   refine ⟨(ls.length - (k+1)),⟨fL [(0,.tree 1 (ls.map (lstA 5 vA))),(3,.v (.int .i64 (((catL ls (k+1)).length:Nat):Int))),(9,.tree 1 (ls.map (lstA 5 vA))),(10,.v (.int .i64 ((ls.length:Nat):Int))),(11,.v (.int .i64 (((k+1):Nat):Int)))],hLz [],0⟩,by omega,(cO (.cons rfl rfl (.cons (by first | rfl | exact vi_eq (by rw [ctl hlt]; omega)) rfl (.cons rfl rfl (.cons rfl rfl (.cons rfl rfl .nil))))) .nil),(k+1),rfl,rfl,?_⟩
   refine ⟨by omega,fun j h=>?_⟩
   rcases Nat.lt_succ_iff_lt_or_eq.1 h with h | rfl
   ·exact hj j h
   ·rfl
 ·skip
  have hge:¬ k < ls.length:=fun h=>of_decide_eq_false hc12 (Int.ofNat_lt.2 h)
  have hkl:k=ls.length:=by omega
  subst hkl
  clear hj hk hge
  refine AWP.exit (aE (aE (bE ?_)))
  refine aN (wS (wR ?_))
  refine oL (lM (a:=.v _) rfl) rfl rfl ?_
  refine oW (LOp.fresh 0 bod48 rfl (growf_48 _ (by rw [catL_all]; exact h0) (by omega) sz44 zr44 rfl by44 (by omega))) rfl rfl 1 rfl ?_
  refine oL (lA (a:=.sl _ _ _ _) rfl) rfl rfl ?_
  refine oN (aN (wS (wS (wR ?_))))
  refine oL (lM (a:=.tree _ _) rfl) rfl rfl ?_
  refine oL (lT rfl Tryz.underlying115 rfl) rfl rfl ?_
  refine oL (lM (a:=.v _) rfl) rfl rfl ?_
  refine oN (aN (wB ?_))
  refine wL (fun n s=>∃ k:Nat,n=(ls.length - k)∧s=⟨fL [(6,.sl 0 k 0 (catL ls k).length),(25,.tree 1 (ls.map (lstA 5 vA))),(26,.v (.int .i64 ((ls.length:Nat):Int))),(27,.v (.int .i64 ((k:Nat):Int)))],hLz [(0,⟨k,rF vA (catL ls k),5,false⟩)],1⟩∧(k≤ls.length∧∀ j,j < k→(fun _=>true) j=true)) (n:=(ls.length - 0)) (s1:=⟨fL [(6,.sl 0 0 0 (catL ls 0).length),(25,.tree 1 (ls.map (lstA 5 vA))),(26,.v (.int .i64 ((ls.length:Nat):Int))),(27,.v (.int .i64 ((0:Nat):Int)))],hLz [(0,⟨0,rF vA (catL ls 0),5,false⟩)],1⟩) (cO (.cons (by first | rfl | (rw [ctl hlt]; rfl)) rfl (.cons rfl rfl (.cons rfl rfl (.cons rfl rfl .nil)))) (.cons (by first | rfl | exact bb_eq (catL_step rowV hlt)) rfl (rF_low rowV _ _) .nil)) ⟨0,rfl,rfl,⟨Nat.zero_le _,fun j h=>absurd h (Nat.not_lt_zero j)⟩⟩ ?_
  rintro n s ⟨k,rfl,rfl,hinv⟩
  obtain ⟨hk,hj⟩:=hinv
  have hcl:=catL_le hl k
  refine wS (wR ?_)
  refine oL (lP rfl (fun _ _=>nofun) (fun _=>rfl)) rfl rfl ?_
  refine oN (aN (wS ?_))
  refine wC rfl (fun hc28=>?_) (fun hc28=>?_)
  ·skip
   have hlt:k < ls.length:=Int.ofNat_lt.1 (of_decide_eq_true hc28)
   have hcl2:=catL_le hl (k+1)
   rw [ctl hlt] at hcl2
   refine wK (aN (wS (wB (wS (wR ?_)))))
   refine oL (lI Tryz.underlying115 sz22 rfl rfl (by first | assumption | omega)) rfl rfl ?_
   refine oL (lE row22 rfl rfl) rfl rfl ?_
   refine oL (lA (a:=.tree _ _) rfl) rfl rfl ?_
   refine oN (aN (wR ?_))
   refine oL (lM (a:=.sl _ _ _ _) rfl) rfl rfl ?_
   refine oL (lM (a:=.tree _ _) rfl) rfl rfl ?_
   refine AOps.gv (LOp.append Tryz.underlying22 sz44 zr44 by44 rfl rfl rfl rfl rfl rfl (Nat.le_of_eq (rF_len rowV _).symm) (Src.treeMap rfl) (rF_len rowV _) (rF_one rowV _) (by omega) (by omega) (by unfold TV; omega)) rfl rfl 1 rfl rfl ?_
   refine oL (lA (a:=.sl _ _ _ _) rfl) rfl rfl ?_
   refine oN (bN (aN (wR ?_)))
   refine oL (lJ rfl rfl (by omega) (by omega)) rfl rfl ?_
   refine oL (lM (a:=.v _) rfl) rfl rfl ?_
   refine oN (aN ?_)
   refine ⟨(ls.length - (k+1)),⟨fL [(6,.sl 0 (k+1) 0 (catL ls (k+1)).length),(25,.tree 1 (ls.map (lstA 5 vA))),(26,.v (.int .i64 ((ls.length:Nat):Int))),(27,.v (.int .i64 (((k+1):Nat):Int)))],hLz [(0,⟨(k+1),rF vA (catL ls (k+1)),5,false⟩)],1⟩,by omega,(cO (.cons (by first | rfl | (rw [ctl hlt]; rfl)) rfl (.cons rfl rfl (.cons rfl rfl (.cons rfl rfl .nil)))) (.cons (by first | rfl | exact bb_eq (catL_step rowV hlt)) rfl (rF_low rowV _ _) .nil)),(k+1),rfl,rfl,?_⟩
   refine ⟨by omega,fun j h=>?_⟩
   rcases Nat.lt_succ_iff_lt_or_eq.1 h with h | rfl
   ·exact hj j h
   ·rfl
  ·skip
   have hge:¬ k < ls.length:=fun h=>of_decide_eq_false hc28 (Int.ofNat_lt.2 h)
   have hkl:k=ls.length:=by omega
   subst hkl
   refine AWP.exit (aE (aE (bE ?_)))
   refine aN (wS (wR ?_))
   refine oL (lM (a:=.sl _ _ _ _) rfl) rfl rfl ?_
   refine oL (lA (a:=.sl _ _ _ _) rfl) rfl rfl ?_
   refine oN (aN ?_)
   refine wT (?_)
   refine ⟨.inr rfl,Outs.tmp Tryz.results23 ?_⟩
   rw [← catL_all]
   exact ⟨[0],FzP.rowsF rowV (List.mem_singleton.2 rfl) rfl⟩
theorem concat_23 (a b:List PVar) (h:a.length+b.length≤100000):PCall Tryz.prog 23 [.tree 1 ([a,b].map (lstA 5 vA))] (.tree 5 ((a++b).map vA)):=by
 have e:[a,b].flatten=a++b:=by simp
 by_cases h0:(a++b).length=0
 ·have:=cat0_23 [a,b] (by simp) (by rw [e]; exact h0)
  rwa [List.eq_nil_of_length_eq_zero h0]
 ·have:=cat1_23 [a,b] (by simp) (by rw [e]; omega) (by rw [e,List.length_append]; omega)
  rwa [e] at this
end Go.Proofs.YtgknefkobpnjaaaGreatDoor
