/- Texts of the claim. -/
import Derived.Test.YthpangmpihkniaaGreatDoorF3
import Derived.Test.YthpangmpihkniaaGreatDoorQ2
namespace Go.Proofs.YthpangmpihkniaaGreatDoor
set_option linter.unusedVariables false
set_option linter.unusedSimpArgs false
open Go.RowKit
theorem LOp.indexStrI {P:Program} {τ:Nat→AV} {η:Heap} {d:Option Tmp} {ty:TypeId} {pos:String} {af:Array Edge} {g:Option (Nat×Bool)} {t k:Nat} {x i:Operand} {s:ByteArray} {v:Int} (hu:P.underlying t=some .string) (hx:aev τ x=.v (.string s)) (hi:aev τ i=.v (.int .i64 v)) (hv:v=((k:Nat):Int)) (hk:k < s.size) :
  LOp P ⟨d,.index t x i,ty,pos,af,g⟩ τ η [] [] (.v (.int .u8 (((bAt s k).toNat:Nat):Int))):=by subst hv; exact LOp.indexStr hu hx hi hk
theorem bB {n:Nat} {F G:Nat→Bool} (h:∀ i,i < n→F i=G i):some (Blk.mk 0 (rowB n F) 1 false)=some (Blk.mk 0 (rowB n G) 1 false):=by rw [rowB_ext h]
section
variable {s p:ByteArray} {c k i:Nat} {prev:Nat→Bool} {v:Bool}
theorem lkN_37 (h:c=37):lkNext s c prev k=(prev k||(decide (0 < k)&&lkNext s c prev (k - 1))):=by
 subst h
 cases k with
 | zero=>simp [lkNext]
 | succ k=>simp [lkNext]
theorem lkN_o (h:¬ c=37):lkNext s c prev k=(decide (0 < k)&&(prev (k - 1)&&(c==95||c==(bAt s (k - 1)).toNat))):=by
 cases k with
 | zero=>simp [lkNext,h]
 | succ k=>simp [lkNext,h]
theorem nx_step (hv:v=lkNext s c prev k):(if i=k then v else (decide (i < k)&&lkNext s c prev i))=(decide (i < k+1)&&lkNext s c prev i):=by
 by_cases h:i=k
 ·subst h; rw [if_pos rfl,hv]; simp
 rw [if_neg h,show decide (i < k+1)=decide (i < k) by rw [decide_eq_decide]; omega]
theorem ib {a b:Nat}:(((a:Nat):Int)==((b:Nat):Int))=(a==b):=by rw [Bool.eq_iff_iff]; simp only [beq_iff_eq]; omega
theorem nx_init {X:Nat→Bool}:false=(decide (i < 0)&&X i):=by simp
theorem nx_zero (hv:false=lkNext s c prev k):(decide (i < k)&&lkNext s c prev i)=(decide (i < k+1)&&lkNext s c prev i):=by
 by_cases h:i=k
 ·subst h; rw [← hv]; simp
 rw [show decide (i < k+1)=decide (i < k) by rw [decide_eq_decide]; omega]
theorem nx_end {n m:Nat} (hi:i < n) (hm:n≤m):(decide (i < m)&&lkNext s (bAt p k).toNat (lk s p k) i)=lk s p (k+1) i:=by
 rw [decide_eq_true (by omega:i < m),Bool.true_and]; rfl
end
theorem by4:(Tryz.prog.info? 4).map (·.bytes)=some 1:=by kernel_rfl
theorem row4:rowOf Tryz.prog 4=some none:=by kernel_rfl
theorem sz4:sizeInfo Tryz.prog 4=some 1:=by kernel_rfl
theorem zr4:zeroOf Tryz.prog 4=some (.bool false):=by kernel_rfl
set_option maxRecDepth 100000 in
set_option maxHeartbeats 4000000 in
theorem like14_w (s:ByteArray) (hs:FitS s) (p:ByteArray) (hp:FitS p):PRet Tryz.prog 77 [.v (.string s),.v (.string p)] (fun q=>q=.v (.bool (likeS s p))):=by
 have hs1:s.size≤140737488351232:=hs
 have hp1:p.size≤140737488351232:=hp
 refine PRet.of_vc infOk [12,14,24,39,40,48,49,52,60,61,74,78,83,84,100014,100052,100078] [5] Tryz.func77 rfl Tryz.ntmps77 rfl (by kernel_rfl) ⟨by omega,OpG.nw (LOp.makeB (len:=s.size+1) 0 Tryz.underlying238 sz4 zr4 by4 rfl rfl (by omega) (by omega) (by omega)) rfl ?_⟩
 refine OpG.lk (LOp.indexB (i:=0) Tryz.underlying238 sz4 rfl rfl (by omega) (by omega) rfl) (OpG.wr (LOp.storeB sz4 rfl rfl rfl (by omega)) rfl ?_)
 refine LpG.on (fun k0:Nat=>(⟨fL [(0,.v (.string s)),(1,.v (.string p)),(5,.sl 0 0 0 (s.size+1)),(6,.v (.int .i64 ((k0:Nat):Int)))],hLz [(0,⟨0,rowB (s.size+1) (lk s p k0),1,false⟩)],1⟩:St)) (fun k0=>(p.size - k0)) (fun k0=>(k0≤p.size)) 0 (cO (.cons rfl rfl (.cons rfl rfl (.cons rfl rfl (.cons rfl rfl .nil)))) (.cons (by rfl) rfl (rowB_low _) .nil)) (Nat.zero_le _) ?_
 rintro k0 hinv
 have hgr_k0:p.size≤140737488355328:=Nat.le_trans hp (by decide)
 have hle_k0:=hinv
 refine cL (fun hlt18=>?_) (fun hge18=>?_)
 ·refine ⟨by omega,OpG.nw (LOp.makeB (len:=s.size+1) 1 Tryz.underlying238 sz4 zr4 by4 rfl rfl (by omega) (by omega) (by omega)) rfl ?_⟩
  refine LpG.on (fun k2:Nat=>(⟨fL [(0,.v (.string s)),(1,.v (.string p)),(5,.sl 0 0 0 (s.size+1)),(6,.v (.int .i64 ((k0:Nat):Int))),(7,.sl 1 0 0 (s.size+1)),(8,.v (.int .i64 ((k2:Nat):Int)))],hLz [(0,⟨0,rowB (s.size+1) (lk s p k0),1,false⟩),(1,⟨0,rowB (s.size+1) (fun m=>decide (m < k2)&&lkNext s (bAt p k0).toNat (lk s p k0) m),1,false⟩)],2⟩:St)) (fun k2=>((s.size+1) - k2)) (fun k2=>(k2≤(s.size+1))) 0 (cO (.cons rfl rfl (.cons rfl rfl (.cons rfl rfl (.cons rfl rfl (.cons rfl rfl (.cons rfl rfl .nil)))))) (.cons rfl rfl (rowB_low _) (.cons (by exact bB (fun i _=>nx_init)) rfl (rowB_low _) .nil))) (Nat.zero_le _) ?_
  rintro k2 hinv
  have hle_k2:=hinv
  refine cD (fun hq28=>?_) (fun hq28=>?_)
  ·refine ⟨(by assumption),cB (fun hc34=>?_) (fun hc34=>?_)⟩
   ·have hcc:(bAt p k0).toNat=37:=by have h:=hc34; simp at h; omega
    refine OpG.lk (LOp.indexB (i:=k2) Tryz.underlying238 sz4 rfl rfl (by omega) (by omega) rfl) (OpG.lk (LOp.loadB row4 rfl rfl (by omega)) ?_)
    refine cB (fun hg41=>?_) (fun hg41=>?_)
    ·refine OpG.lk (LOp.indexB (i:=k2) Tryz.underlying238 sz4 rfl rfl (by omega) (by omega) rfl) (OpG.wr (LOp.storeB sz4 rfl rfl rfl (by omega)) rfl ?_)
     refine ⟨by omega,⟨(k2+1),by omega,(cO (.cons rfl rfl (.cons rfl rfl (.cons rfl rfl (.cons rfl rfl (.cons rfl rfl (.cons rfl rfl .nil)))))) (.cons rfl rfl (rowB_low _) (.cons (by (refine bB (fun i _=>nx_step ?_); first | (rw [lkN_37 hcc]; simp_all; done) | (rw [lkN_o hcc]; simp_all; done) | (rw [lkN_37 (k:=k2) hcc,hg41,hk3,hk4]; rfl) | (rw [lkN_o hcc,hk4,hg62,h95,ib]; rfl) | (rw [lkN_o hcc,hk4,hg62,h95]; rfl))) rfl (rowB_low _) .nil))),?_⟩⟩
     omega
    refine cB (fun hg44=>?_) (fun hg44=>?_)
    ·have hq44:((k2:Nat):Int) > (0:Int):=of_decide_eq_true hg44
     have hk2:0 < k2:=by have h:=hg44; simp at h; omega
     have hk3:decide (k2 - 1 < k2)=true:=decide_eq_true (by omega)
     have hk4:decide (0 < k2)=true:=decide_eq_true hk2
     refine ⟨by omega,OpG.lk (LOp.indexB (i:=k2 - 1) Tryz.underlying238 sz4 rfl rfl (by omega) (by omega) rfl) ?_⟩
     refine OpG.lk (LOp.loadB row4 rfl rfl (by omega)) (OpG.lk (LOp.indexB (i:=k2) Tryz.underlying238 sz4 rfl rfl (by omega) (by omega) rfl) ?_)
     refine OpG.wr (LOp.storeB sz4 rfl rfl rfl (by omega)) rfl ⟨by omega,⟨(k2+1),by omega,(cO (.cons rfl rfl (.cons rfl rfl (.cons rfl rfl (.cons rfl rfl (.cons rfl rfl (.cons rfl rfl .nil)))))) (.cons rfl rfl (rowB_low _) (.cons (by (refine bB (fun i _=>nx_step ?_); first | (rw [lkN_37 hcc]; simp_all; done) | (rw [lkN_o hcc]; simp_all; done) | (rw [lkN_37 (k:=k2) hcc,hg41,hk3,hk4]; rfl) | (rw [lkN_o hcc,hk4,hg62,h95,ib]; rfl) | (rw [lkN_o hcc,hk4,hg62,h95]; rfl))) rfl (rowB_low _) .nil))),?_⟩⟩
     omega
    have hq44:¬ (((k2:Nat):Int) > (0:Int)):=of_decide_eq_false hg44
    have hk2:k2=0:=by have h:=hg44; simp at h; omega
    refine OpG.lk (LOp.indexB (i:=k2) Tryz.underlying238 sz4 rfl rfl (by omega) (by omega) rfl) (OpG.wr (LOp.storeB sz4 rfl rfl rfl (by omega)) rfl ?_)
    refine ⟨by omega,⟨(k2+1),by omega,(cO (.cons rfl rfl (.cons rfl rfl (.cons rfl rfl (.cons rfl rfl (.cons rfl rfl (.cons rfl rfl .nil)))))) (.cons rfl rfl (rowB_low _) (.cons (by (refine bB (fun i _=>nx_step ?_); first | (rw [lkN_37 hcc]; simp_all; done) | (rw [lkN_o hcc]; simp_all; done) | (rw [lkN_37 (k:=k2) hcc,hg41,hk3,hk4]; rfl) | (rw [lkN_o hcc,hk4,hg62,h95,ib]; rfl) | (rw [lkN_o hcc,hk4,hg62,h95]; rfl))) rfl (rowB_low _) .nil))),?_⟩⟩
    omega
   have hcc:¬ (bAt p k0).toNat=37:=by have h:=hc34; simp at h; omega
   refine cD (fun hq54=>?_) (fun hq54=>?_)
   ·have hk2:0 < k2:=by omega
    have hk4:decide (0 < k2)=true:=decide_eq_true hk2
    refine ⟨by omega,OpG.lk (LOp.indexB (i:=k2 - 1) Tryz.underlying238 sz4 rfl rfl (by omega) (by omega) rfl) ?_⟩
    refine OpG.lk (LOp.loadB row4 rfl rfl (by omega)) (cB (fun hg62=>?_) (fun hg62=>?_))
    ·refine ⟨(by assumption),cB (fun hg67=>?_) (fun hg67=>?_)⟩
     ·have h95:((bAt p k0).toNat==95)=true:=by have h:=hg67; rw [beq_iff_eq] at h ⊢; omega
      refine OpG.lk (LOp.indexB (i:=k2) Tryz.underlying238 sz4 rfl rfl (by omega) (by omega) rfl) (OpG.wr (LOp.storeB sz4 rfl rfl rfl (by omega)) rfl ?_)
      refine ⟨by kernel_rfl,⟨by omega,?_⟩⟩
      refine ⟨(k2+1),by omega,(cO (.cons rfl rfl (.cons rfl rfl (.cons rfl rfl (.cons rfl rfl (.cons rfl rfl (.cons rfl rfl .nil)))))) (.cons rfl rfl (rowB_low _) (.cons (by (refine bB (fun i _=>nx_step ?_); first | (rw [lkN_37 hcc]; simp_all; done) | (rw [lkN_o hcc]; simp_all; done) | (rw [lkN_37 (k:=k2) hcc,hg41,hk3,hk4]; rfl) | (rw [lkN_o hcc,hk4,hg62,h95,ib]; rfl) | (rw [lkN_o hcc,hk4,hg62,h95]; rfl))) rfl (rowB_low _) .nil))),?_⟩
      omega
     have h95:((bAt p k0).toNat==95)=false:=by have h:=hg67; rw [beq_eq_false_iff_ne] at h ⊢; omega
     refine ⟨(by assumption),⟨by omega,?_⟩⟩
     refine OpG.lk (LOp.indexStrI (k:=k2 - 1) Tryz.underlying9 rfl rfl (by omega) (by omega)) (OpG.lk (LOp.indexB (i:=k2) Tryz.underlying238 sz4 rfl rfl (by omega) (by omega) rfl) ?_)
     refine OpG.wr (LOp.storeB sz4 rfl rfl rfl (by omega)) rfl ⟨by kernel_rfl,⟨by omega,?_⟩⟩
     refine ⟨(k2+1),by omega,(cO (.cons rfl rfl (.cons rfl rfl (.cons rfl rfl (.cons rfl rfl (.cons rfl rfl (.cons rfl rfl .nil)))))) (.cons rfl rfl (rowB_low _) (.cons (by (refine bB (fun i _=>nx_step ?_); first | (rw [lkN_37 hcc]; simp_all; done) | (rw [lkN_o hcc]; simp_all; done) | (rw [lkN_37 (k:=k2) hcc,hg41,hk3,hk4]; rfl) | (rw [lkN_o hcc,hk4,hg62,h95,ib]; rfl) | (rw [lkN_o hcc,hk4,hg62,h95]; rfl))) rfl (rowB_low _) .nil))),?_⟩
     omega
    refine OpG.lk (LOp.indexB (i:=k2) Tryz.underlying238 sz4 rfl rfl (by omega) (by omega) rfl) (OpG.wr (LOp.storeB sz4 rfl rfl rfl (by omega)) rfl ?_)
    refine ⟨by kernel_rfl,⟨by omega,?_⟩⟩
    refine ⟨(k2+1),by omega,(cO (.cons rfl rfl (.cons rfl rfl (.cons rfl rfl (.cons rfl rfl (.cons rfl rfl (.cons rfl rfl .nil)))))) (.cons rfl rfl (rowB_low _) (.cons (by (refine bB (fun i _=>nx_step ?_); first | (rw [lkN_37 hcc]; simp_all; done) | (rw [lkN_o hcc]; simp_all; done) | (rw [lkN_37 (k:=k2) hcc,hg41,hk3,hk4]; rfl) | (rw [lkN_o hcc,hk4,hg62,h95,ib]; rfl) | (rw [lkN_o hcc,hk4,hg62,h95]; rfl))) rfl (rowB_low _) .nil))),?_⟩
    omega
   have hk2:k2=0:=by omega
   refine ⟨by omega,⟨(k2+1),by omega,(cO (.cons rfl rfl (.cons rfl rfl (.cons rfl rfl (.cons rfl rfl (.cons rfl rfl (.cons rfl rfl .nil)))))) (.cons rfl rfl (rowB_low _) (.cons (by (refine bB (fun i _=>nx_zero ?_); first | (rw [lkN_37 hcc]; simp_all; done) | (rw [lkN_o hcc]; simp_all; done) | (rw [lkN_37 (k:=k2) hcc,hg41,hk3,hk4]; rfl) | (rw [lkN_o hcc,hk4,hg62,h95,ib]; rfl) | (rw [lkN_o hcc,hk4,hg62,h95]; rfl))) rfl (rowB_low _) .nil))),?_⟩⟩
   omega
  refine RegG.via (fun _ h=>AWP.swap 0 1 (fl:=[(0,.v (.string s)),(1,.v (.string p)),(5,.sl 1 0 0 (s.size+1)),(6,.v (.int .i64 ((k0:Nat):Int)))]) (hl:=[(1,⟨0,rowB (s.size+1) (lk s p (k0+1)),1,false⟩)]) (u:=2) (cO (.cons rfl rfl (.cons rfl rfl (.cons rfl rfl (.cons rfl rfl .nil)))) (.cons (bB (fun i hi=>nx_end hi (by omega))) rfl (rowB_low _) .nil)) ⟨rfl,rfl,rfl,rfl,trivial⟩ ⟨rowB_in _,trivial⟩ (by decide) (by decide) (by decide) (fl':=[(0,.v (.string s)),(1,.v (.string p)),(5,.sl 0 0 0 (s.size+1)),(6,.v (.int .i64 ((k0:Nat):Int)))]) (hl':=[(0,⟨0,rowB (s.size+1) (lk s p (k0+1)),1,false⟩)]) rfl (by simp only [List.map,Blk.ren,rowB_ren]; rfl) h) (RegG.go ?_)
  refine ⟨by omega,⟨(k0+1),by omega,(cO (.cons rfl rfl (.cons rfl rfl (.cons rfl rfl (.cons rfl rfl .nil)))) (.cons (by rfl) rfl (rowB_low _) .nil)),?_⟩⟩
  omega
 refine OpG.lk (LOp.indexB (i:=s.size) Tryz.underlying238 sz4 rfl rfl (by omega) (by omega) rfl) (OpG.lk (LOp.loadB row4 rfl rfl (by omega)) ?_)
 refine rV Tryz.results77 rfl ?_
 have e:k0=p.size:=by omega
 subst e; rfl
end Go.Proofs.YthpangmpihkniaaGreatDoor
namespace Go.Proofs.YthpangmpihkniaaGreatDoor
set_option linter.unusedVariables false
set_option linter.unusedSimpArgs false
open Go.RowKit
theorem cond14_p (r:List GVal) (hr:FitL r (fun y=>FitVal y)) (e:List AV) (he:IsEx e):CdR r e→PRet Tryz.prog 36 [.agg (rwA e),.tree 3 (r.map gvA)] (fun q=>q=.v (.int .i64 (cS (rowF r) e))) :=
 IsEx.ind (M:=fun e=>CdR r e→PRet Tryz.prog 36 [.agg (rwA e),.tree 3 (r.map gvA)] (fun q=>q=.v (.int .i64 (cS (rowF r) e)))) (fun x hx ih hc=>cond14_w x hx r hr hc ih (fun s p hs hp=>like14_w s hs p hp)) he
theorem rowL_of {t:GTab} {r:List GVal} (h:RowFit t r):RowL (varsOf t) r:=⟨by rw [h.1]; simp [varsOf],fun j hl h2=>by
 have h3:j < t.columns_.length:=by have:=h.1; omega
 have e:(varsOf t)[j]=varC t.columns_[j]:=by simp [varsOf]
 rw [e]; exact fitV_of (h.2 j hl h3)⟩
/-- A possible row. -/
def PossS (t:GTab) (w:List GVal):Prop:=RowFit t w∧∀ e∈t.checks_,cS (rowF w) e≠0
/-- A table whose checks can be evaluated. -/
structure TabOk (t:GTab):Prop where
 cl:t.columns_.length≤1000
 lk:LOk (varsOf t)
 ck:∀ e∈t.checks_,CondE (varsOf t) e
set_option maxRecDepth 100000 in
set_option maxHeartbeats 4000000 in
theorem possible28_p (t:GTab) (ht:FitTab t) (w:List GVal) (hw:FitL w (fun y=>FitVal y)) (hto:TabOk t):PRet Tryz.prog 12 [.agg (tabA t),.tree 3 (w.map gvA)] (fun r=>∃ b:Bool,r=.v (.bool b)∧(b=true↔PossS t w)):=by
 refine PRet.of_vc infOk [21] [] Tryz.func12 rfl Tryz.ntmps12 rfl (by kernel_rfl) (ArgG.mk (fits12_p t ht w hw hto.cl) rfl ?_)
 rintro _ ⟨e0,rfl,he0⟩
 refine cB (fun hc9=>?_) (fun hc9=>?_)
 ·have hq9:¬ ((e0:Int)=(0:Int)):=by simpa using hc9
  have hrf:¬ RowFit t w:=fun h=>absurd (he0.2 h) (by simpa using hc9)
  exact rV Tryz.results12 rfl ⟨_,rfl,fun h=>absurd h Bool.false_ne_true,fun h=>absurd h.1 hrf⟩
 have hq9:(e0:Int)=(0:Int):=by simpa using hc9
 have hrf:=he0.1 (by simpa using hc9)
 refine LpG.on (fun k0:Nat=>(⟨fL [(1,.tree 3 (w.map gvA)),(2,.ptr 0 0 0),(5,.v (.int .i64 ((k0:Nat):Int)))],hLz [(0,⟨0,tabA t,0,false⟩)],1⟩:St)) (fun k0=>(t.checks_.length - k0)) (fun k0=>(k0≤t.checks_.length∧∀ j (hl:j < t.checks_.length),j < k0→cS (rowF w) t.checks_[j]≠0)) 0 (cO (.cons rfl rfl (.cons rfl rfl (.cons rfl rfl .nil))) (.cons rfl rfl rfl .nil)) ⟨Nat.zero_le _,fun j _ h=>absurd h (Nat.not_lt_zero j)⟩ ?_
 rintro k0 hinv
 have hgr_k0:t.checks_.length≤140737488355328:=ht.checks_.1
 obtain ⟨hle_k0,hj_k0⟩:=hinv
 refine LenG.of (cL (fun hlt14=>?_) (fun hge14=>?_))
 ·refine IdxG.of (by assumption) (OpG.lk (LOp.ldTN row47 rfl (exTake (ht.checks_.2 _ (List.getElem_mem _)))) ?_)
  refine ArgG.mk (cond14_p w hw t.checks_[k0] (ht.checks_.2 _ (List.getElem_mem _)) (cd_of (rowL_of hrf) hto.lk (hto.ck _ (List.getElem_mem _)) (ht.checks_.2 _ (List.getElem_mem _)))) (show pureL [.agg (rwA t.checks_[k0]),.tree 3 (w.map gvA)]=true by simp [pureL,AV.pureB,exPure (ht.checks_.2 _ (List.getElem_mem _))]) ?_
  rintro _ rfl
  refine cB (fun hc24=>?_) (fun hc24=>?_)
  ·have hq24:((cS (rowF w) t.checks_[k0]):Int)=(0:Int):=by simpa using hc24
   exact rV Tryz.results12 rfl ⟨_,rfl,fun h=>absurd h Bool.false_ne_true,fun h=>absurd (by simpa using hc24) (h.2 _ (List.getElem_mem hlt14))⟩
  have hq24:¬ (((cS (rowF w) t.checks_[k0]):Int)=(0:Int)):=by simpa using hc24
  refine ⟨by omega,⟨(k0+1),by omega,(cO (.cons rfl rfl (.cons rfl rfl (.cons rfl rfl .nil))) (.cons rfl rfl rfl .nil)),?_⟩⟩
  refine ⟨by omega,fun j hl h=>?_⟩
  rcases Nat.lt_succ_iff_lt_or_eq.1 h with h | rfl
  ·exact hj_k0 j hl h
  simpa using hc24
 exact rV Tryz.results12 rfl ⟨_,rfl,fun _=>⟨hrf,fun e he=>by obtain ⟨j,hj,rfl⟩:=List.getElem_of_mem he; exact hj_k0 j hj (by omega)⟩,fun _=>rfl⟩
end Go.Proofs.YthpangmpihkniaaGreatDoor
namespace Go.Proofs.YthpangmpihkniaaGreatDoor
set_option linter.unusedVariables false
set_option linter.unusedSimpArgs false
open Go.RowKit
theorem row_ls:RowF (fun l:List ByteArray=>[AV.tree 1 (l.map sA)]) 1:=⟨fun _=>rfl,fun _=>rfl,fun _ _=>rfl,fun _ _=>rfl,fun _ _=>rfl,fun _=>rfl⟩
theorem row_refA:RowF refA 3:=⟨fun _=>rfl,fun _=>rfl,fun _ _=>rfl,fun _ _=>rfl,fun _ _=>rfl,fun _=>rfl⟩
/-- All numbers of a schema exist. -/
structure ForOk (s:List GTab) (n:Nat) (t:GTab) (f:GFor):Prop where
 cols:∀ x∈f.columns_,0≤x∧x < t.columns_.length
 tab:∃ j q:Nat,f.table_=((j:Nat):Int)∧f.key_=((q:Nat):Int)∧j≤n∧∃ h:j < s.length,q < s[j].keys_.length
structure TabV (s:List GTab) (n:Nat) (t:GTab):Prop where
 keys:∀ k∈t.keys_,∀ x∈k,0≤x∧x < t.columns_.length
 fors:∀ f∈t.foreign_,ForOk s n t f
def SchV (s:List GTab):Prop:=∀ n (h:n < s.length),TabV s n s[n]
/-- The definition of a table. -/
structure DefOk (x:GSta):Prop where
 cl:x.create_.columns_.length≤20
 kl:x.create_.keys_.length≤10
 fl:x.create_.foreign_.length≤10
 key:∀ k∈x.create_.keys_,k.length≤20
 fcl:∀ f∈x.create_.foreign_,f.columns_.length≤20∧f.target_.length≤20
theorem by179:(Tryz.prog.info? 179).map (·.bytes)=some 24:=by kernel_rfl
theorem by181:(Tryz.prog.info? 181).map (·.bytes)=some 64:=by kernel_rfl
theorem row50:rowOf Tryz.prog 50=some (some 22):=by kernel_rfl
theorem sz179:sizeInfo Tryz.prog 179=some 1:=by kernel_rfl
theorem sz181:sizeInfo Tryz.prog 181=some 3:=by kernel_rfl
theorem sz35:sizeInfo Tryz.prog 35=some 5:=by kernel_rfl
theorem sz51:sizeInfo Tryz.prog 51=some 1:=by kernel_rfl
theorem zr179:zeroOf Tryz.prog 179=some (.slice none 0 0):=by kernel_rfl
theorem zr181:zeroOf Tryz.prog 181=some (.agg #[.slice none 0 0,.string ⟨#[]⟩,.slice none 0 0]):=by kernel_rfl
set_option maxRecDepth 100000 in
set_option maxHeartbeats 4000000 in
theorem definition_p (s:List GTab) (hs:FitL s (fun y=>FitTab y)) (n:Nat) (hn:n < s.length) (hv:SchV s) (hsm:∀ t∈s,SmTab t):PRet Tryz.prog 46 [.tree 5 (s.map tabA),.v (.int .i64 ((n:Nat):Int))] (fun r=>∃ x:GSta,r=.agg (staA x)∧FitSta x∧DefOk x∧x.create_.columns_=s[n].columns_):=by
 have hsn:=hs.2 _ (List.getElem_mem hn)
 have hmn:=hsm _ (List.getElem_mem hn)
 have hm1:=hmn.cols
 have hm2:=hmn.keys
 have hm3:=hmn.fors
 refine PRet.of_vc infOk [62,78] [8,14] Tryz.func46 rfl Tryz.ntmps46 rfl (by kernel_rfl) ?_
 refine IdxG.of (by assumption) ⟨by kernel_rfl,LpG.via (fun _ h=>AWP.lazyC 2 3 1 rfl rfl rfl rfl rfl 4 rfl h) ?_⟩
 refine LpG.on (fun k0:KL (List ByteArray)=>(⟨fL [(0,.tree 5 (s.map tabA)),(4,.ptr 0 0 0),(5,.ptr 1 0 0),(6,.ptr 2 0 0),(7,.v (.int .i64 ((k0.k:Nat):Int)))],hLz [(0,⟨0,[.v (.int .i64 0),.v (.string ⟨#[]⟩),.v (.slice none 0 0),.v (.slice none 0 0),.v (.slice none 0 0),.v (.slice none 0 0),.v (.slice none 0 0),.v (.slice none 0 0),.v (.slice none 0 0),.v (.slice none 0 0),.v (.int .i64 0),.v (.string ⟨#[]⟩),.v (.string ⟨#[]⟩),.v (.int .i64 0),.v (.int .i64 0),.v (.int .i64 0),.v (.string ⟨#[]⟩),.v (.slice none 0 0),.v (.slice none 0 0),.v (.slice none 0 0),.v (.int .i64 0),.v (.string ⟨#[]⟩)],0,false⟩),(1,⟨0,tabA s[n],0,false⟩),(2,⟨0,[.v (.int .i64 1),.v (.string s[n].name_),.tree 6 (s[n].columns_.map colA),.sl 3 k0.L.length 0 k0.L.length,.v (.slice none 0 0),.tree 8 (s[n].checks_.map rwA),.v (.slice none 0 0),.v (.slice none 0 0),.v (.slice none 0 0),.v (.slice none 0 0),.v (.int .i64 0),.v (.string ⟨#[]⟩),.v (.string ⟨#[]⟩),.v (.int .i64 0),.v (.int .i64 0),.v (.int .i64 0),.v (.string ⟨#[]⟩),.v (.slice none 0 0),.v (.slice none 0 0),.v (.slice none 0 0),.v (.int .i64 0),.v (.string ⟨#[]⟩)],0,false⟩),(3,⟨k0.L.length,rF (fun l=>[.tree 1 (l.map sA)]) k0.L,1,Nat.beq k0.L.length 0⟩)],4⟩:St)) (fun k0=>(s[n].keys_.length - k0.k)) (fun k0=>(k0.k≤s[n].keys_.length∧(k0.L.length=k0.k∧∀ y∈k0.L,FitL y (fun z=>FitS z)∧y.length≤20))) (⟨0,[]⟩:KL (List ByteArray)) (cO (.cons rfl rfl (.cons rfl rfl (.cons rfl rfl (.cons rfl rfl (.cons rfl rfl .nil))))) (.cons rfl rfl rfl (.cons rfl rfl rfl (.cons (by rfl) rfl rfl (.cons (by rfl) rfl (rF_low row_ls _ _) .nil))))) ⟨Nat.zero_le _,⟨rfl,fun y hy=>absurd hy (by simp)⟩⟩ ?_
 rintro k0 hinv
 have hgr_k0:s[n].keys_.length≤140737488355328:=(hs.2 _ (List.getElem_mem _)).keys_.1
 obtain ⟨hle_k0,hi_k0⟩:=hinv
 refine LenG.of (cL (fun hlt30=>?_) (fun hge30=>?_))
 ·have hin:=(hv n hn).keys _ (List.getElem_mem hlt30)
  have hkl:=hi_k0.1
  have hk20:=hmn.key _ (List.getElem_mem hlt30)
  refine IdxG.of (by assumption) (ArgG.mk (names_p (s[n]) (hs.2 _ (List.getElem_mem _)) (s[n].keys_[k0.k]) ((hs.2 _ (List.getElem_mem _)).keys_.2 _ (List.getElem_mem _)) (by assumption) (by omega)) rfl ?_)
  rintro _ ⟨L0,rfl,hL0,hLf0⟩
  refine OpG.mk _ _ _ 5 (LOp.appRow row_ls (a:=L0) Tryz.underlying36 sz179 zr179 by179 rfl rfl rfl (Src.slB rfl rfl rfl rfl) rfl (by omega) (by omega) (by unfold TV; omega)) rfl rfl ?_
  refine ⟨by kernel_rfl,?_⟩
  refine ⟨by omega,?_⟩
  refine ⟨(⟨k0.k+1,k0.L++[L0]⟩:KL (List ByteArray)),(by show s[n].keys_.length - (k0.k+1) < s[n].keys_.length - k0.k; omega),(cO (.cons rfl rfl (.cons rfl rfl (.cons rfl rfl (.cons rfl rfl (.cons rfl rfl .nil))))) (.cons rfl rfl rfl (.cons rfl rfl rfl (.cons (by (rw [List.length_append]; rfl)) rfl rfl (.cons (by (rw [List.length_append]; rfl)) rfl (rF_low row_ls _ _) .nil))))),?_⟩
  refine ⟨by show k0.k+1≤_; omega,?_⟩
  exact ⟨by show (_++[_]).length=k0.k+1; rw [List.length_append,hi_k0.1]; rfl,all_snoc hi_k0.2 ⟨hLf0,by omega⟩⟩
 refine RegG.via (fun _ h=>AWP.freezeB [3] 2 0 0 [.v (.int .i64 1),.v (.string s[n].name_),.tree 6 (s[n].columns_.map colA),.sl 3 k0.L.length 0 k0.L.length,.v (.slice none 0 0),.tree 8 (s[n].checks_.map rwA),.v (.slice none 0 0),.v (.slice none 0 0),.v (.slice none 0 0),.v (.slice none 0 0),.v (.int .i64 0),.v (.string ⟨#[]⟩),.v (.string ⟨#[]⟩),.v (.int .i64 0),.v (.int .i64 0),.v (.int .i64 0),.v (.string ⟨#[]⟩),.v (.slice none 0 0),.v (.slice none 0 0),.v (.slice none 0 0),.v (.int .i64 0),.v (.string ⟨#[]⟩)] [.v (.int .i64 1),.v (.string s[n].name_),.tree 6 (s[n].columns_.map colA),.tree 1 (k0.L.map (fun l=>[.tree 1 (l.map sA)])),.v (.slice none 0 0),.tree 8 (s[n].checks_.map rwA),.v (.slice none 0 0),.v (.slice none 0 0),.v (.slice none 0 0),.v (.slice none 0 0),.v (.int .i64 0),.v (.string ⟨#[]⟩),.v (.string ⟨#[]⟩),.v (.int .i64 0),.v (.int .i64 0),.v (.int .i64 0),.v (.string ⟨#[]⟩),.v (.slice none 0 0),.v (.slice none 0 0),.v (.slice none 0 0),.v (.int .i64 0),.v (.string ⟨#[]⟩)] rfl rfl (.keep (.keep (.keep (.fz (FzP.rows row_ls (List.mem_singleton.2 rfl) rfl) (.same _))))) rfl h) ?_
 refine RegG.go ?_
 refine LpG.via (fun _ h=>AWP.lazyC 2 4 3 rfl rfl rfl rfl rfl 5 rfl h) ?_
 refine LpG.on (fun k2:KL GRef=>(⟨fL [(0,.tree 5 (s.map tabA)),(4,.ptr 0 0 0),(5,.ptr 1 0 0),(6,.ptr 2 0 0),(8,.v (.int .i64 ((k2.k:Nat):Int)))],hLz [(0,⟨0,[.v (.int .i64 0),.v (.string ⟨#[]⟩),.v (.slice none 0 0),.v (.slice none 0 0),.v (.slice none 0 0),.v (.slice none 0 0),.v (.slice none 0 0),.v (.slice none 0 0),.v (.slice none 0 0),.v (.slice none 0 0),.v (.int .i64 0),.v (.string ⟨#[]⟩),.v (.string ⟨#[]⟩),.v (.int .i64 0),.v (.int .i64 0),.v (.int .i64 0),.v (.string ⟨#[]⟩),.v (.slice none 0 0),.v (.slice none 0 0),.v (.slice none 0 0),.v (.int .i64 0),.v (.string ⟨#[]⟩)],0,false⟩),(1,⟨0,tabA s[n],0,false⟩),(2,⟨0,[.v (.int .i64 1),.v (.string s[n].name_),.tree 6 (s[n].columns_.map colA),.tree 1 (k0.L.map (fun l=>[.tree 1 (l.map sA)])),.sl 4 k2.L.length 0 k2.L.length,.tree 8 (s[n].checks_.map rwA),.v (.slice none 0 0),.v (.slice none 0 0),.v (.slice none 0 0),.v (.slice none 0 0),.v (.int .i64 0),.v (.string ⟨#[]⟩),.v (.string ⟨#[]⟩),.v (.int .i64 0),.v (.int .i64 0),.v (.int .i64 0),.v (.string ⟨#[]⟩),.v (.slice none 0 0),.v (.slice none 0 0),.v (.slice none 0 0),.v (.int .i64 0),.v (.string ⟨#[]⟩)],0,false⟩),(4,⟨k2.L.length,rF refA k2.L,3,Nat.beq k2.L.length 0⟩)],5⟩:St)) (fun k2=>(s[n].foreign_.length - k2.k)) (fun k2=>(k2.k≤s[n].foreign_.length∧(k2.L.length=k2.k∧∀ y∈k2.L,FitRef y∧y.columns_.length≤20∧y.target_.length≤20))) (⟨0,[]⟩:KL GRef) (cO (.cons rfl rfl (.cons rfl rfl (.cons rfl rfl (.cons rfl rfl (.cons rfl rfl .nil))))) (.cons rfl rfl rfl (.cons rfl rfl rfl (.cons (by rfl) rfl rfl (.cons (by rfl) rfl (rF_low row_refA _ _) .nil))))) ⟨Nat.zero_le _,⟨rfl,fun y hy=>absurd hy (by simp)⟩⟩ ?_
 rintro k2 hinv
 have hgr_k2:s[n].foreign_.length≤140737488355328:=(hs.2 _ (List.getElem_mem _)).foreign_.1
 obtain ⟨hle_k2,hi_k2⟩:=hinv
 refine LenG.of (cL (fun hlt51=>?_) (fun hge51=>?_))
 ·obtain ⟨j1,q1,hj1,hq1,hjn,hjs,hqs⟩:=((hv n hn).fors _ (List.getElem_mem hlt51)).tab
  have hfl:=hi_k2.1
  have hin1:=((hv n hn).fors _ (List.getElem_mem hlt51)).cols
  have hin2:=(hv j1 hjs).keys _ (List.getElem_mem hqs)
  have hf20:=hmn.fcol _ (List.getElem_mem hlt51)
  have hk20:=(hsm _ (List.getElem_mem hjs)).key _ (List.getElem_mem hqs)
  refine IdxG.of (by assumption) (OpG.lk (LOp.indexI Tryz.underlying23 sz35 rfl rfl hj1 hjs) ?_)
  refine ArgG.mk (names_p (s[n]) (hs.2 _ (List.getElem_mem _)) (s[n].foreign_[k2.k].columns_) ((hs.2 _ (List.getElem_mem _)).foreign_.2 _ (List.getElem_mem _)).columns_ (by assumption) (by omega)) rfl ?_
  rintro _ ⟨L1,rfl,hL1,hLf1⟩
  refine OpG.lk (LOp.indexI Tryz.underlying31 sz51 rfl rfl hq1 hqs) ?_
  refine ArgG.mk (names_p (s[j1]) (hs.2 _ (List.getElem_mem _)) (s[j1].keys_[q1]) ((hs.2 _ (List.getElem_mem _)).keys_.2 _ (List.getElem_mem _)) (by assumption) (by omega)) rfl ?_
  rintro _ ⟨L2,rfl,hL2,hLf2⟩
  refine OpG.mk _ _ _ 8 (LOp.appRow row_refA (a:=(⟨L1,s[j1].name_,L2⟩:GRef)) Tryz.underlying37 sz181 zr181 by181 rfl rfl rfl (Src.slB rfl rfl rfl rfl) rfl (by omega) (by omega) (by unfold TV; omega)) rfl rfl ?_
  refine ⟨by kernel_rfl,?_⟩
  refine ⟨by omega,?_⟩
  refine ⟨(⟨k2.k+1,k2.L++[(⟨L1,s[j1].name_,L2⟩:GRef)]⟩:KL GRef),(by show s[n].foreign_.length - (k2.k+1) < s[n].foreign_.length - k2.k; omega),(cO (.cons rfl rfl (.cons rfl rfl (.cons rfl rfl (.cons rfl rfl (.cons rfl rfl .nil))))) (.cons rfl rfl rfl (.cons rfl rfl rfl (.cons (by (rw [List.length_append]; rfl)) rfl rfl (.cons (by (rw [List.length_append]; rfl)) rfl (rF_low row_refA _ _) .nil))))),?_⟩
  refine ⟨by show k2.k+1≤_; omega,?_⟩
  exact ⟨by show (_++[_]).length=k2.k+1; rw [List.length_append,hi_k2.1]; rfl,all_snoc hi_k2.2 ⟨⟨hLf1,(hs.2 _ (List.getElem_mem hjs)).name_,hLf2⟩,by show L1.length≤20; omega,by show L2.length≤20; omega⟩⟩
 refine RegG.via (fun _ h=>AWP.freezeB [4] 2 0 0 [.v (.int .i64 1),.v (.string s[n].name_),.tree 6 (s[n].columns_.map colA),.tree 1 (k0.L.map (fun l=>[.tree 1 (l.map sA)])),.sl 4 k2.L.length 0 k2.L.length,.tree 8 (s[n].checks_.map rwA),.v (.slice none 0 0),.v (.slice none 0 0),.v (.slice none 0 0),.v (.slice none 0 0),.v (.int .i64 0),.v (.string ⟨#[]⟩),.v (.string ⟨#[]⟩),.v (.int .i64 0),.v (.int .i64 0),.v (.int .i64 0),.v (.string ⟨#[]⟩),.v (.slice none 0 0),.v (.slice none 0 0),.v (.slice none 0 0),.v (.int .i64 0),.v (.string ⟨#[]⟩)] [.v (.int .i64 1),.v (.string s[n].name_),.tree 6 (s[n].columns_.map colA),.tree 1 (k0.L.map (fun l=>[.tree 1 (l.map sA)])),.tree 3 (k2.L.map refA),.tree 8 (s[n].checks_.map rwA),.v (.slice none 0 0),.v (.slice none 0 0),.v (.slice none 0 0),.v (.slice none 0 0),.v (.int .i64 0),.v (.string ⟨#[]⟩),.v (.string ⟨#[]⟩),.v (.int .i64 0),.v (.int .i64 0),.v (.int .i64 0),.v (.string ⟨#[]⟩),.v (.slice none 0 0),.v (.slice none 0 0),.v (.slice none 0 0),.v (.int .i64 0),.v (.string ⟨#[]⟩)] rfl rfl (.keep (.keep (.keep (.keep (.fz (FzP.rows row_refA (List.mem_singleton.2 rfl) rfl) (.same _)))))) rfl h) ?_
 refine RegG.go ?_
 refine ⟨.inr rfl,_,Outs.cell Tryz.results46 row50 rfl rfl rfl rfl rfl ⟨[],FzP.pure rfl⟩,?_⟩
 have g1:=hi_k0.1
 have g2:=hi_k2.1
 exact ⟨⟨1,s[n].name_,⟨s[n].columns_,k0.L,k2.L,s[n].checks_⟩⟩,rfl,⟨hsn.name_,⟨hsn.columns_,⟨by show k0.L.length≤_; omega,fun y hy=>(hi_k0.2 y hy).1⟩,⟨by show k2.L.length≤_; omega,fun y hy=>(hi_k2.2 y hy).1⟩,hsn.checks_⟩⟩,⟨hm1,by show k0.L.length≤10; omega,by show k2.L.length≤10; omega,fun k hk=>(hi_k0.2 k hk).2,fun f hf=>(hi_k2.2 f hf).2⟩,rfl⟩
end Go.Proofs.YthpangmpihkniaaGreatDoor
namespace Go.Proofs.YthpangmpihkniaaGreatDoor
set_option linter.unusedVariables false
set_option linter.unusedSimpArgs false
open Go.RowKit
theorem row_tabA:RowF tabA 5:=⟨fun _=>rfl,fun _=>rfl,fun _ _=>rfl,fun _ _=>rfl,fun _ _=>rfl,fun _=>rfl⟩
theorem row_forA:RowF forA 3:=⟨fun _=>rfl,fun _=>rfl,fun _ _=>rfl,fun _ _=>rfl,fun _ _=>rfl,fun _=>rfl⟩
theorem row_li:RowF (fun l:List Int=>[AV.tree 1 (l.map iA)]) 1:=⟨fun _=>rfl,fun _=>rfl,fun _ _=>rfl,fun _ _=>rfl,fun _ _=>rfl,fun _=>rfl⟩
structure KFE where
 k:Nat
 L:List GFor
 e:Int
abbrev schB (S:List GTab):Blk:=⟨S.length,rF tabA S,5,Nat.beq S.length 0⟩
theorem bod130:bodied Tryz.prog 130=true:=by kernel_rfl
theorem bod132:bodied Tryz.prog 132=true:=by kernel_rfl
theorem by111:(Tryz.prog.info? 111).map (·.bytes)=some 40:=by kernel_rfl
theorem by35:(Tryz.prog.info? 35).map (·.bytes)=some 112:=by kernel_rfl
theorem by51:(Tryz.prog.info? 51).map (·.bytes)=some 24:=by kernel_rfl
theorem row35:rowOf Tryz.prog 35=some (some 5):=by kernel_rfl
theorem sz111:sizeInfo Tryz.prog 111=some 3:=by kernel_rfl
theorem zr111:zeroOf Tryz.prog 111=some (.agg #[.slice none 0 0,.int .i64 0,.int .i64 0]):=by kernel_rfl
theorem zr35:zeroOf Tryz.prog 35=some (.agg #[.string ⟨#[]⟩,.slice none 0 0,.slice none 0 0,.slice none 0 0,.slice none 0 0]):=by kernel_rfl
theorem zr51:zeroOf Tryz.prog 51=some (.slice none 0 0):=by kernel_rfl
set_option maxRecDepth 100000 in
set_option maxHeartbeats 4000000 in
theorem table_h (x:GSta) (hx:FitSta x) (S:List GTab) (hS:FitL S (fun y=>FitTab y)) (hS2:S.length≤8) (hd:DefOk x) (hfl:∀ f∈x.create_.foreign_,f.columns_.length=f.target_.length):HRet Tryz.prog 86 [.sl TOP S.length 0 S.length,.agg (staA x)] [(TOP,schB S)] [(TOP,some (schB S))] (fun r=>∃ (t:GTab) (e:Int),r=.tup [.agg (tabA t),.v (.int .i64 e)]∧FitTab t):=by
 have hd1:=hd.kl
 have hd2:=hd.fl
 refine HRet.of_vc infOk [47,61,62,64,83,144] [9,10,33] Tryz.func86 rfl Tryz.ntmps86 rfl (by kernel_rfl) (LpG.via (fun _ h=>AWP.lazyC 2 2 1 rfl rfl rfl rfl rfl 4 rfl h) ?_)
 refine LpG.on (fun k0:KL (List Int)=>(⟨fL [(0,.sl TOP S.length 0 S.length),(3,.ptr 0 0 0),(4,.ptr 1 0 0),(6,.ptr 2 0 0),(7,.v (.int .i64 ((k0.k:Nat):Int)))],hLz [(0,⟨0,staA x,0,false⟩),(1,⟨0,[.v (.string ⟨#[]⟩),.v (.slice none 0 0),.v (.slice none 0 0),.v (.slice none 0 0),.v (.slice none 0 0)],0,false⟩),(2,⟨0,[.v (.string x.table_),.tree 6 (x.create_.columns_.map colA),.sl 3 k0.L.length 0 k0.L.length,.v (.slice none 0 0),.tree 8 (x.create_.checks_.map rwA)],0,false⟩),(3,⟨k0.L.length,rF (fun l=>[.tree 1 (l.map iA)]) k0.L,1,Nat.beq k0.L.length 0⟩),(1000000,schB S)],4⟩:St)) (fun k0=>(x.create_.keys_.length - k0.k)) (fun k0=>(k0.k≤x.create_.keys_.length∧(k0.L.length=k0.k∧∀ y∈k0.L,FitL y (fun _=>True)))) (⟨0,[]⟩:KL (List Int)) (cO (.cons rfl rfl (.cons rfl rfl (.cons rfl rfl (.cons rfl rfl (.cons rfl rfl .nil))))) (.cons rfl rfl rfl (.cons rfl rfl rfl (.cons (by rfl) rfl rfl (.cons (by rfl) rfl (rF_low row_li _ _) (.cons rfl rfl (rF_low row_tabA _ _) .nil)))))) ⟨Nat.zero_le _,⟨rfl,fun y hy=>absurd hy (by simp)⟩⟩ ?_
 rintro k0 hinv
 have hgr_k0:x.create_.keys_.length≤140737488355328:=hx.create_.keys_.1
 obtain ⟨hle_k0,hi_k0⟩:=hinv
 refine LenG.of (cL (fun hlt36=>?_) (fun hge36=>?_))
 ·have hkl:=hi_k0.1
  have hk20:=hd.key _ (List.getElem_mem hlt36)
  refine IdxG.of (by assumption) ?_
  obtain ⟨_,⟨L0,b0,rfl,hLf0,hL0⟩,hcl0⟩:=numbersu_p ⟨x.table_,x.create_.columns_⟩ ⟨hx.table_,hx.create_.columns_⟩ x.create_.keys_[k0.k] (hx.create_.keys_.2 _ (List.getElem_mem hlt36)) (by omega)
  refine OpG.lk (LOp.callU bod130 (.cons (FzP.aggL (.cons (.pure rfl) (.cons (.pure rfl) (.cons .unk (.cons .unk (.cons .unk .nil)))))) (.cons (.pure rfl) .nil)) hcl0) ⟨by kernel_rfl,cB (fun hc51=>?_) (fun hc51=>?_)⟩
  ·exact ⟨.inr rfl,_,OutsH.of [] (ResIs.res Tryz.results86 (.cons (OutX.cellN row35 rfl rfl trivial rfl rfl rfl) (.cons (OutX.tmp rfl) .nil))) rfl ⟨.same rfl (by decide),trivial⟩ (.tup (.fz (FzP.aggL (.cons (.pure rfl) (.cons (FzP.nil (n:=6)) (.cons (FzP.nil (n:=1)) (.cons (FzP.nil (n:=3)) (.cons (FzP.nil (n:=8)) .nil)))))) (.same .nil))),⟨⟨⟨#[]⟩,[],[],[],[]⟩,_,rfl,⟨Nat.zero_le _,⟨Nat.zero_le _,by simp⟩,⟨Nat.zero_le _,by simp⟩,⟨Nat.zero_le _,by simp⟩,⟨Nat.zero_le _,by simp⟩⟩⟩⟩
  refine OpG.mk _ _ _ 5 (LOp.appRow row_li (a:=L0) Tryz.underlying31 sz51 zr51 by51 rfl rfl rfl (Src.slB rfl rfl rfl rfl) rfl (by omega) (by omega) (by unfold TV; omega)) rfl rfl ⟨by omega,⟨(⟨k0.k+1,k0.L++[L0]⟩:KL (List Int)),(by show x.create_.keys_.length - (k0.k+1) < x.create_.keys_.length - k0.k; omega),(cO (.cons rfl rfl (.cons rfl rfl (.cons rfl rfl (.cons rfl rfl (.cons rfl rfl .nil))))) (.cons rfl rfl rfl (.cons rfl rfl rfl (.cons (by (rw [List.length_append]; rfl)) rfl rfl (.cons (by (rw [List.length_append]; rfl)) rfl (rF_low row_li _ _) (.cons rfl rfl (rF_low row_tabA _ _) .nil)))))),?_⟩⟩
  exact ⟨by show k0.k+1≤_; omega,⟨by show (_++[_]).length=k0.k+1; rw [List.length_append,hi_k0.1]; rfl,all_snoc hi_k0.2 hLf0⟩⟩
 refine RegG.via (fun _ h=>AWP.freezeB [3] 2 0 0 [.v (.string x.table_),.tree 6 (x.create_.columns_.map colA),.sl 3 k0.L.length 0 k0.L.length,.v (.slice none 0 0),.tree 8 (x.create_.checks_.map rwA)] [.v (.string x.table_),.tree 6 (x.create_.columns_.map colA),.tree 1 (k0.L.map (fun l=>[.tree 1 (l.map iA)])),.v (.slice none 0 0),.tree 8 (x.create_.checks_.map rwA)] rfl rfl (.keep (.keep (.fz (FzP.rows row_li (List.mem_singleton.2 rfl) rfl) (.same _)))) rfl h) (RegG.go ?_)
 refine OpG.nw (LOp.buildSlice0 4 Tryz.underlying23 sz35) rfl (OpG.mk _ _ _ 5 (LOp.appRowsO row_tabA (l:=[]) (l':=S) Tryz.underlying23 sz35 zr35 by35 rfl rfl rfl rfl rfl (by simp only [List.length_nil]; omega) (by simp only [List.length_nil]; omega) (by unfold TV; omega)) rfl rfl ?_)
 refine OpG.lk (LOp.wkF (LOp.ldN row35 rfl rfl rfl rfl rfl) (fun _=>FzP.aggL (.cons (.pure rfl) (.cons (.pure rfl) (.cons (.pure rfl) (.cons (FzP.nil (n:=3)) (.cons (.pure rfl) .nil))))))) (OpG.mk _ _ _ 6 (LOp.appRowB row_tabA (l:=[]++S) (a:=(⟨x.table_,x.create_.columns_,k0.L,[],x.create_.checks_⟩:GTab)) Tryz.underlying23 sz35 zr35 by35 rfl rfl rfl (Src.slB rfl rfl rfl rfl) rfl (by simp only [List.nil_append]; omega) (by simp only [List.nil_append]; omega) (by unfold TV; omega)) rfl rfl ?_)
 refine ⟨by kernel_rfl,?_⟩
 obtain ⟨all,hae⟩:∃ all:List GTab,all=[]++S++[(⟨x.table_,x.create_.columns_,k0.L,[],x.create_.checks_⟩:GTab)]:=⟨_,rfl⟩
 have hkl:=hi_k0.1
 have hall:FitL all (fun y=>FitTab y):=by subst hae; exact ⟨by simp; omega,all_snoc hS.2 ⟨hx.table_,hx.create_.columns_,⟨by show k0.L.length≤_; omega,fun y hy=>hi_k0.2 y hy⟩,⟨Nat.zero_le _,by simp⟩,hx.create_.checks_⟩⟩
 refine RegG.via (fun _ h=>AWP.freeze [4] 10 (.tree 5 (all.map tabA)) (by rw [hae]; exact FzP.rowsF row_tabA (List.mem_singleton.2 rfl) rfl) rfl h) (RegG.go ?_)
 refine LpG.via (fun _ h=>AWP.lazyC 2 3 3 rfl rfl rfl rfl rfl 7 rfl h) (LpG.on (fun k2:KFE=>(⟨fL [(3,.ptr 0 0 0),(4,.ptr 1 0 0),(6,.ptr 2 0 0),(10,.tree 5 (all.map tabA)),(11,.v (.int .i64 k2.e)),(12,.v (.int .i64 ((k2.k:Nat):Int)))],hLz [(0,⟨0,staA x,0,false⟩),(1,⟨0,[.v (.string ⟨#[]⟩),.v (.slice none 0 0),.v (.slice none 0 0),.v (.slice none 0 0),.v (.slice none 0 0)],0,false⟩),(2,⟨0,[.v (.string x.table_),.tree 6 (x.create_.columns_.map colA),.tree 1 (k0.L.map (fun l=>[.tree 1 (l.map iA)])),.sl 6 k2.L.length 0 k2.L.length,.tree 8 (x.create_.checks_.map rwA)],0,false⟩),(6,⟨k2.L.length,rF forA k2.L,3,Nat.beq k2.L.length 0⟩),(1000000,schB S)],7⟩:St)) (fun k2=>(x.create_.foreign_.length - k2.k)) (fun k2=>(k2.k≤x.create_.foreign_.length∧(k2.L.length=k2.k∧∀ y∈k2.L,FitFor y))) (⟨0,[],0⟩:KFE) (cO (.cons rfl rfl (.cons rfl rfl (.cons rfl rfl (.cons rfl rfl (.cons rfl rfl (.cons rfl rfl .nil)))))) (.cons rfl rfl rfl (.cons rfl rfl rfl (.cons (by rfl) rfl rfl (.cons (by rfl) rfl (rF_low row_forA _ _) (.cons rfl rfl (rF_low row_tabA _ _) .nil)))))) ⟨Nat.zero_le _,⟨rfl,fun y hy=>absurd hy (by simp)⟩⟩ ?_)
 rintro k2 hinv
 have hgr_k2:x.create_.foreign_.length≤140737488355328:=hx.create_.foreign_.1
 obtain ⟨hle_k2,hi_k2⟩:=hinv
 refine LenG.of (cL (fun hlt70=>?_) (fun hge70=>?_))
 ·have hfl2:=hi_k2.1
  have hf20:=hd.fcl _ (List.getElem_mem hlt70)
  have hfe:=hfl _ (List.getElem_mem hlt70)
  refine IdxG.of (by assumption) ?_
  obtain ⟨_,⟨L1,b1,rfl,hLf1,hL1⟩,hcl1⟩:=numbersu_p ⟨x.table_,x.create_.columns_⟩ ⟨hx.table_,hx.create_.columns_⟩ x.create_.foreign_[k2.k].columns_ ((hx.create_.foreign_.2 _ (List.getElem_mem hlt70)).columns_) (by omega)
  refine OpG.lk (LOp.callU bod130 (.cons (FzP.aggL (.cons (.pure rfl) (.cons (.pure rfl) (.cons .unk (.cons .unk (.cons .unk .nil)))))) (.cons (.pure rfl) .nil)) hcl1) (ArgG.mk (find12_p all hall (x.create_.foreign_[k2.k].table_) (hx.create_.foreign_.2 _ (List.getElem_mem _)).table_) rfl ?_)
  rintro _ ⟨j2,b2,rfl,hj2⟩
  refine cB (fun hg95=>?_) (fun hg95=>?_)
  ·exact cT ⟨.inr rfl,_,OutsH.of [] (ResIs.res Tryz.results86 (.cons (OutX.cellN row35 rfl rfl trivial rfl rfl rfl) (.cons (OutX.tmp rfl) .nil))) rfl ⟨.same rfl (by decide),trivial⟩ (.tup (.fz (FzP.aggL (.cons (.pure rfl) (.cons (FzP.nil (n:=6)) (.cons (FzP.nil (n:=1)) (.cons (FzP.nil (n:=3)) (.cons (FzP.nil (n:=8)) .nil)))))) (.same .nil))),⟨⟨⟨#[]⟩,[],[],[],[]⟩,_,rfl,⟨Nat.zero_le _,⟨Nat.zero_le _,by simp⟩,⟨Nat.zero_le _,by simp⟩,⟨Nat.zero_le _,by simp⟩,⟨Nat.zero_le _,by simp⟩⟩⟩⟩
  refine cB (fun hc98=>?_) (fun hc98=>?_)
  ·exact ⟨.inr rfl,_,OutsH.of [] (ResIs.res Tryz.results86 (.cons (OutX.cellN row35 rfl rfl trivial rfl rfl rfl) (.cons (OutX.tmp rfl) .nil))) rfl ⟨.same rfl (by decide),trivial⟩ (.tup (.fz (FzP.aggL (.cons (.pure rfl) (.cons (FzP.nil (n:=6)) (.cons (FzP.nil (n:=1)) (.cons (FzP.nil (n:=3)) (.cons (FzP.nil (n:=8)) .nil)))))) (.same .nil))),⟨⟨⟨#[]⟩,[],[],[],[]⟩,_,rfl,⟨Nat.zero_le _,⟨Nat.zero_le _,by simp⟩,⟨Nat.zero_le _,by simp⟩,⟨Nat.zero_le _,by simp⟩,⟨Nat.zero_le _,by simp⟩⟩⟩⟩
  have hb1t:b1=true:=by simpa using hg95
  have hb2t:b2=true:=by simpa using hc98
  have hjl:=hj2 hb2t
  refine IdxG.of (by assumption) (ArgG.mk (numbers_p (all[j2]) (hall.2 _ (List.getElem_mem _)) (x.create_.foreign_[k2.k].target_) (hx.create_.foreign_.2 _ (List.getElem_mem _)).target_ (by omega)) rfl ?_)
  rintro _ ⟨L3,b3,rfl,hLf3,hL3⟩
  refine ⟨by kernel_rfl,LpG.on (fun k4:KE=>(⟨fL [(3,.ptr 0 0 0),(4,.ptr 1 0 0),(6,.ptr 2 0 0),(10,.tree 5 (all.map tabA)),(11,.v (.int .i64 k2.e)),(12,.v (.int .i64 ((k2.k:Nat):Int))),(14,.tree 1 (L1.map iA)),(16,.v (.int .i64 ((j2:Nat):Int))),(18,.tree 1 (L3.map iA)),(19,.v (.bool b3)),(20,.v (.int .i64 k4.e)),(21,.v (.int .i64 ((k4.k:Nat):Int)))],hLz [(0,⟨0,staA x,0,false⟩),(1,⟨0,[.v (.string ⟨#[]⟩),.v (.slice none 0 0),.v (.slice none 0 0),.v (.slice none 0 0),.v (.slice none 0 0)],0,false⟩),(2,⟨0,[.v (.string x.table_),.tree 6 (x.create_.columns_.map colA),.tree 1 (k0.L.map (fun l=>[.tree 1 (l.map iA)])),.sl 6 k2.L.length 0 k2.L.length,.tree 8 (x.create_.checks_.map rwA)],0,false⟩),(6,⟨k2.L.length,rF forA k2.L,3,Nat.beq k2.L.length 0⟩),(1000000,schB S)],8⟩:St)) (fun k4=>(all[j2].keys_.length - k4.k)) (fun k4=>(k4.k≤all[j2].keys_.length∧(0≤k4.e→b3=true))) (⟨0,-1⟩:KE) (cO (.cons rfl rfl (.cons rfl rfl (.cons rfl rfl (.cons rfl rfl (.cons rfl rfl (.cons rfl rfl (.cons rfl rfl (.cons rfl rfl (.cons rfl rfl (.cons rfl rfl (.cons rfl rfl (.cons rfl rfl .nil)))))))))))) (.cons rfl rfl rfl (.cons rfl rfl rfl (.cons rfl rfl rfl (.cons rfl rfl (rF_low row_forA _ _) (.cons rfl rfl (rF_low row_tabA _ _) .nil)))))) ⟨Nat.zero_le _,fun h=>absurd h (by decide)⟩ ?_⟩
  rintro k4 hinv
  have hgr_k4:all[j2].keys_.length≤140737488355328:=(hall.2 _ (List.getElem_mem _)).keys_.1
  obtain ⟨hle_k4,hi_k4⟩:=hinv
  refine IdxG.of (by assumption) (LenG.of ?_)
  refine cL (fun hlt117=>?_) (fun hge117=>?_)
  ·refine cB (fun hg121=>?_) (fun hg121=>?_)
   ·refine IdxG.of (by assumption) (IdxG.of (by assumption) ?_)
    refine ArgG.mk (ints_p (all[j2].keys_[k4.k]) ((hall.2 _ (List.getElem_mem _)).keys_.2 _ (List.getElem_mem _)) L3 hLf3) rfl ?_
    rintro _ ⟨b4,rfl⟩
    refine cB (fun hc132=>?_) (fun hc132=>?_)
    ·refine ⟨by omega,⟨(⟨k4.k+1,_⟩:KE),(by show all[j2].keys_.length - (k4.k+1) < all[j2].keys_.length - k4.k; omega),(cO (.cons rfl rfl (.cons rfl rfl (.cons rfl rfl (.cons rfl rfl (.cons rfl rfl (.cons rfl rfl (.cons rfl rfl (.cons rfl rfl (.cons rfl rfl (.cons rfl rfl (.cons rfl rfl (.cons rfl rfl .nil)))))))))))) (.cons rfl rfl rfl (.cons rfl rfl rfl (.cons rfl rfl rfl (.cons rfl rfl (rF_low row_forA _ _) (.cons rfl rfl (rF_low row_tabA _ _) .nil)))))),?_⟩⟩
     refine ⟨by show k4.k+1≤_; omega,?_⟩
     exact fun _=>hg121
    refine ⟨by omega,⟨(⟨k4.k+1,_⟩:KE),(by show all[j2].keys_.length - (k4.k+1) < all[j2].keys_.length - k4.k; omega),(cO (.cons rfl rfl (.cons rfl rfl (.cons rfl rfl (.cons rfl rfl (.cons rfl rfl (.cons rfl rfl (.cons rfl rfl (.cons rfl rfl (.cons rfl rfl (.cons rfl rfl (.cons rfl rfl (.cons rfl rfl .nil)))))))))))) (.cons rfl rfl rfl (.cons rfl rfl rfl (.cons rfl rfl rfl (.cons rfl rfl (rF_low row_forA _ _) (.cons rfl rfl (rF_low row_tabA _ _) .nil)))))),?_⟩⟩
    exact ⟨by show k4.k+1≤_; omega,hi_k4⟩
   refine cF ⟨by omega,⟨(⟨k4.k+1,_⟩:KE),(by show all[j2].keys_.length - (k4.k+1) < all[j2].keys_.length - k4.k; omega),(cO (.cons rfl rfl (.cons rfl rfl (.cons rfl rfl (.cons rfl rfl (.cons rfl rfl (.cons rfl rfl (.cons rfl rfl (.cons rfl rfl (.cons rfl rfl (.cons rfl rfl (.cons rfl rfl (.cons rfl rfl .nil)))))))))))) (.cons rfl rfl rfl (.cons rfl rfl rfl (.cons rfl rfl rfl (.cons rfl rfl (rF_low row_forA _ _) (.cons rfl rfl (rF_low row_tabA _ _) .nil)))))),?_⟩⟩
   exact ⟨by show k4.k+1≤_; omega,hi_k4⟩
  refine cB (fun hc135=>?_) (fun hc135=>?_)
  ·exact ⟨.inr rfl,_,OutsH.of [] (ResIs.res Tryz.results86 (.cons (OutX.cellN row35 rfl rfl trivial rfl rfl rfl) (.cons (OutX.tmp rfl) .nil))) rfl ⟨.same rfl (by decide),trivial⟩ (.tup (.fz (FzP.aggL (.cons (.pure rfl) (.cons (FzP.nil (n:=6)) (.cons (FzP.nil (n:=1)) (.cons (FzP.nil (n:=3)) (.cons (FzP.nil (n:=8)) .nil)))))) (.same .nil))),⟨⟨⟨#[]⟩,[],[],[],[]⟩,_,rfl,⟨Nat.zero_le _,⟨Nat.zero_le _,by simp⟩,⟨Nat.zero_le _,by simp⟩,⟨Nat.zero_le _,by simp⟩,⟨Nat.zero_le _,by simp⟩⟩⟩⟩
  have hb3t:b3=true:=hi_k4 (by have h:=of_decide_eq_false hc135; omega)
  have hn1:=hL1 hb1t
  have hn3:=hL3 hb3t
  have hn1l:=hn1.1
  have hn3l:=hn3.1
  refine IdxG.of (by assumption) ?_
  obtain ⟨_,⟨b5,rfl⟩,hcl5⟩:=typesu_p ⟨x.table_,x.create_.columns_⟩ ⟨hx.table_,hx.create_.columns_⟩ ⟨all[j2].name_,all[j2].columns_⟩ ⟨(hall.2 _ (List.getElem_mem hjl)).name_,(hall.2 _ (List.getElem_mem hjl)).columns_⟩ L1 hLf1 L3 hLf3 hn1.2 hn3.2 (by omega)
  refine OpG.lk (LOp.callU bod132 (.cons (FzP.aggL (.cons (.pure rfl) (.cons (.pure rfl) (.cons .unk (.cons .unk (.cons .unk .nil)))))) (.cons (FzP.aggL (.cons (.pure rfl) (.cons (.pure rfl) (.cons .unk (.cons .unk (.cons .unk .nil)))))) (.cons (.pure rfl) (.cons (.pure rfl) .nil)))) hcl5) ⟨by kernel_rfl,cB (fun hc145=>?_) (fun hc145=>?_)⟩
  ·refine OpG.mk _ _ _ 9 (LOp.appRow row_forA (a:=(⟨L1,((j2:Nat):Int),k4.e⟩:GFor)) Tryz.underlying32 sz111 zr111 by111 rfl rfl rfl (Src.slB rfl rfl rfl rfl) rfl (by omega) (by omega) (by unfold TV; omega)) rfl rfl ⟨by omega,⟨(⟨k2.k+1,k2.L++[(⟨L1,((j2:Nat):Int),k4.e⟩:GFor)],_⟩:KFE),(by show x.create_.foreign_.length - (k2.k+1) < x.create_.foreign_.length - k2.k; omega),(cO (.cons rfl rfl (.cons rfl rfl (.cons rfl rfl (.cons rfl rfl (.cons rfl rfl (.cons rfl rfl .nil)))))) (.cons rfl rfl rfl (.cons rfl rfl rfl (.cons (by (rw [List.length_append]; rfl)) rfl rfl (.cons (by (rw [List.length_append]; rfl)) rfl (rF_low row_forA _ _) (.cons rfl rfl (rF_low row_tabA _ _) .nil)))))),?_⟩⟩
   exact ⟨by show k2.k+1≤_; omega,⟨by show (_++[_]).length=k2.k+1; rw [List.length_append,hi_k2.1]; rfl,all_snoc hi_k2.2 ⟨hLf1⟩⟩⟩
  refine OpG.mk _ _ _ 9 (LOp.appRow row_forA (a:=(⟨L1,((j2:Nat):Int),k4.e⟩:GFor)) Tryz.underlying32 sz111 zr111 by111 rfl rfl rfl (Src.slB rfl rfl rfl rfl) rfl (by omega) (by omega) (by unfold TV; omega)) rfl rfl ⟨by omega,⟨(⟨k2.k+1,k2.L++[(⟨L1,((j2:Nat):Int),k4.e⟩:GFor)],_⟩:KFE),(by show x.create_.foreign_.length - (k2.k+1) < x.create_.foreign_.length - k2.k; omega),(cO (.cons rfl rfl (.cons rfl rfl (.cons rfl rfl (.cons rfl rfl (.cons rfl rfl (.cons rfl rfl .nil)))))) (.cons rfl rfl rfl (.cons rfl rfl rfl (.cons (by (rw [List.length_append]; rfl)) rfl rfl (.cons (by (rw [List.length_append]; rfl)) rfl (rF_low row_forA _ _) (.cons rfl rfl (rF_low row_tabA _ _) .nil)))))),?_⟩⟩
  exact ⟨by show k2.k+1≤_; omega,⟨by show (_++[_]).length=k2.k+1; rw [List.length_append,hi_k2.1]; rfl,all_snoc hi_k2.2 ⟨hLf1⟩⟩⟩
 refine cB (fun hc156=>?_) (fun hc156=>?_)
 ·exact ⟨.inr rfl,_,OutsH.of [] (ResIs.res Tryz.results86 (.cons (OutX.cellN row35 rfl rfl trivial rfl rfl rfl) (.cons (OutX.tmp rfl) .nil))) rfl ⟨.same rfl (by decide),trivial⟩ (.tup (.fz (FzP.aggL (.cons (.pure rfl) (.cons (FzP.nil (n:=6)) (.cons (FzP.nil (n:=1)) (.cons (FzP.nil (n:=3)) (.cons (FzP.nil (n:=8)) .nil)))))) (.same .nil))),⟨⟨⟨#[]⟩,[],[],[],[]⟩,_,rfl,⟨Nat.zero_le _,⟨Nat.zero_le _,by simp⟩,⟨Nat.zero_le _,by simp⟩,⟨Nat.zero_le _,by simp⟩,⟨Nat.zero_le _,by simp⟩⟩⟩⟩
 refine RegG.via (fun _ h=>AWP.freezeB [6] 2 0 0 [.v (.string x.table_),.tree 6 (x.create_.columns_.map colA),.tree 1 (k0.L.map (fun l=>[.tree 1 (l.map iA)])),.sl 6 k2.L.length 0 k2.L.length,.tree 8 (x.create_.checks_.map rwA)] [.v (.string x.table_),.tree 6 (x.create_.columns_.map colA),.tree 1 (k0.L.map (fun l=>[.tree 1 (l.map iA)])),.tree 3 (k2.L.map forA),.tree 8 (x.create_.checks_.map rwA)] rfl rfl (.keep (.keep (.keep (.fz (FzP.rows row_forA (List.mem_singleton.2 rfl) rfl) (.same _))))) rfl h) (RegG.go ?_)
 refine ⟨.inr rfl,_,OutsH.of [] (ResIs.res Tryz.results86 (.cons (OutX.cellN row35 rfl rfl trivial rfl rfl rfl) (.cons (OutX.tmp rfl) .nil))) rfl ⟨.same rfl (by decide),trivial⟩ .same,?_⟩
 have g1:=hi_k0.1
 have g2:=hi_k2.1
 exact ⟨⟨x.table_,x.create_.columns_,k0.L,k2.L,x.create_.checks_⟩,_,rfl,⟨hx.table_,hx.create_.columns_,⟨by show k0.L.length≤_; omega,fun y hy=>hi_k0.2 y hy⟩,⟨by show k2.L.length≤_; omega,fun y hy=>hi_k2.2 y hy⟩,hx.create_.checks_⟩⟩
end Go.Proofs.YthpangmpihkniaaGreatDoor
namespace Go.Proofs.YthpangmpihkniaaGreatDoor
set_option linter.unusedVariables false
set_option linter.unusedSimpArgs false
open Go.RowKit
theorem sX {α:Type} {f:α→List AV} {q:Nat} (h:RowF f q) {g:Nat→Nat} {v:Nat} {l:List α} {n:Bool}:some (⟨v,rF f l,q,n⟩:Blk)=some ((Blk.mk v (rF f l) q n).ren g):=by rw [rF_blk h]
theorem row_staA:RowF staA 22:=⟨fun _=>rfl,fun _=>rfl,fun _ _=>rfl,fun _ _=>rfl,fun _ _=>rfl,fun _=>rfl⟩
theorem map_next {s:List GTab} {k:Nat} {L:List GSta} {x:GSta} (h:k < s.length) (hi:L.map (fun x=>x.create_.columns_)=(s.take k).map (fun t=>t.columns_)) (hx:x.create_.columns_=s[k].columns_):(L++[x]).map (fun x=>x.create_.columns_)=(s.take (k+1)).map (fun t=>t.columns_):=by
 rw [List.take_succ_eq_append_getElem h,List.map_append,List.map_append,hi]; simp [hx]
theorem cols_ok {s:List GTab} {k:Nat} {L:List GSta} (hk:¬ k < s.length) (hi:L.map (fun x=>x.create_.columns_)=(s.take k).map (fun t=>t.columns_)) (h:∀ x∈L,∀ c∈x.create_.columns_,ColOk c):∀ t∈s,∀ c∈t.columns_,ColOk c:=by
 rw [List.take_of_length_le (by omega)] at hi
 intro t ht c hc
 have h1:t.columns_∈s.map (fun t=>t.columns_):=List.mem_map.2 ⟨t,ht,rfl⟩
 rw [← hi] at h1
 obtain ⟨x,hx,e⟩:=List.mem_map.1 h1
 exact h x hx c (by rw [e]; exact hc)
theorem bod85:bodied Tryz.prog 85=true:=by kernel_rfl
theorem bod86:bodied Tryz.prog 86=true:=by kernel_rfl
theorem by50:(Tryz.prog.info? 50).map (·.bytes)=some 392:=by kernel_rfl
theorem sz50:sizeInfo Tryz.prog 50=some 22:=by kernel_rfl
theorem zr50:zeroOf Tryz.prog 50=some (.agg #[.int .i64 0,.string ⟨#[]⟩,.slice none 0 0,.slice none 0 0,.slice none 0 0,.slice none 0 0,.slice none 0 0,.slice none 0 0,.slice none 0 0,.slice none 0 0,.int .i64 0,.string ⟨#[]⟩,.string ⟨#[]⟩,.int .i64 0,.int .i64 0,.int .i64 0,.string ⟨#[]⟩,.slice none 0 0,.slice none 0 0,.slice none 0 0,.int .i64 0,.string ⟨#[]⟩]):=by kernel_rfl
set_option maxRecDepth 100000 in
set_option maxHeartbeats 4000000 in
theorem build_p (l:List GSta) (hl:FitL l (fun y=>FitSta y)) (hdl:∀ x∈l,DefOk x) (hl2:l.length≤1000):PRet Tryz.prog 47 [.tree 22 (l.map staA)] (fun r=>∃ (i e:Int),r=.tup [.unk,.v (.int .i64 i),.v (.int .i64 e)]∧(e=0→∀ x∈l,∀ c∈x.create_.columns_,ColOk c)):=by
 refine PRet.of_vc infOk [68,79] [] Tryz.func47 rfl Tryz.ntmps47 rfl (by kernel_rfl) (LpG.via (fun _ h=>AWP.lazyT 5 5 rfl 1 rfl h) ?_)
 refine LpG.on (fun k0:KL GTab=>(⟨fL [(0,.tree 22 (l.map staA)),(5,.sl 0 k0.L.length 0 k0.L.length),(6,.v (.int .i64 ((k0.k:Nat):Int)))],hLz [(0,⟨k0.L.length,rF tabA k0.L,5,Nat.beq k0.L.length 0⟩)],1⟩:St)) (fun k0=>(l.length - k0.k)) (fun k0=>(k0.k≤l.length∧k0.L.length=k0.k∧(∀ x∈k0.L,FitTab x)∧(∀ j (hl:j < l.length),j < k0.k→∀ c∈l[j].create_.columns_,ColOk c))) (⟨0,[]⟩:KL GTab) (cO (.cons rfl rfl (.cons (by rfl) rfl (.cons rfl rfl .nil))) (.cons (by rfl) rfl (rF_low row_tabA _ _) .nil)) ⟨Nat.zero_le _,rfl,by simp,fun j _ h=>absurd h (Nat.not_lt_zero j)⟩ ?_
 rintro k0 hinv
 have hgr_k0:l.length≤140737488355328:=hl.1
 obtain ⟨hle_k0,hL_k0,hf_k0,hi_k0⟩:=hinv
 refine LenG.of (cL (fun hlt14=>?_) (fun hge14=>?_))
 ·have hdx:=hdl _ (List.getElem_mem hlt14)
  refine IdxG.of (by assumption) (IdxG.of (by assumption) ?_)
  refine cN (fun hq22=>?_) (fun hq22=>?_)
  exact cT ⟨.inr rfl,_,Outs.three Tryz.results47 (OutR.tmp ⟨[],FzP.unk⟩) (OutR.tmp ⟨[],FzP.pure rfl⟩) (OutR.tmp ⟨[],FzP.pure rfl⟩),⟨_,_,rfl,fun h=>absurd h (by decide)⟩⟩
  refine cD (fun hq32=>?_) (fun hq32=>?_)
  ·refine cT (cT ?_)
   refine cT (cT ?_)
   exact cT ⟨.inr rfl,_,Outs.three Tryz.results47 (OutR.tmp ⟨[],FzP.unk⟩) (OutR.tmp ⟨[],FzP.pure rfl⟩) (OutR.tmp ⟨[],FzP.pure rfl⟩),⟨_,_,rfl,fun h=>absurd h (by decide)⟩⟩
  refine LenG.of (cD (fun hq38=>?_) (fun hq38=>?_))
  ·refine cT (cT ?_)
   refine cT (cT ?_)
   exact ⟨.inr rfl,_,Outs.three Tryz.results47 (OutR.tmp ⟨[],FzP.unk⟩) (OutR.tmp ⟨[],FzP.pure rfl⟩) (OutR.tmp ⟨[],FzP.pure rfl⟩),⟨_,_,rfl,fun h=>absurd h (by decide)⟩⟩
  refine LenG.of (cD (fun hq44=>?_) (fun hq44=>?_))
  ·refine cT (cT ?_)
   exact cT ⟨.inr rfl,_,Outs.three Tryz.results47 (OutR.tmp ⟨[],FzP.unk⟩) (OutR.tmp ⟨[],FzP.pure rfl⟩) (OutR.tmp ⟨[],FzP.pure rfl⟩),⟨_,_,rfl,fun h=>absurd h (by decide)⟩⟩
  refine LenG.of (cD (fun hq50=>?_) (fun hq50=>?_))
  ·refine cT (cT ?_)
   exact ⟨.inr rfl,_,Outs.three Tryz.results47 (OutR.tmp ⟨[],FzP.unk⟩) (OutR.tmp ⟨[],FzP.pure rfl⟩) (OutR.tmp ⟨[],FzP.pure rfl⟩),⟨_,_,rfl,fun h=>absurd h (by decide)⟩⟩
  refine LenG.of (cD (fun hq29=>?_) (fun hq29=>?_))
  ·exact cT ⟨.inr rfl,_,Outs.three Tryz.results47 (OutR.tmp ⟨[],FzP.unk⟩) (OutR.tmp ⟨[],FzP.pure rfl⟩) (OutR.tmp ⟨[],FzP.pure rfl⟩),⟨_,_,rfl,fun h=>absurd h (by decide)⟩⟩
  refine IdxG.of (by assumption) (ArgG.mk (invalid_p (l[k0.k]) (hl.2 _ (List.getElem_mem _))) rfl ?_)
  rintro _ ⟨b0,rfl,hb0⟩
  refine cB (fun hc56=>?_) (fun hc56=>?_)
  ·exact cT ⟨.inr rfl,_,Outs.three Tryz.results47 (OutR.tmp ⟨[],FzP.unk⟩) (OutR.tmp ⟨[],FzP.pure rfl⟩) (OutR.tmp ⟨[],FzP.pure rfl⟩),⟨_,_,rfl,fun h=>absurd h (by decide)⟩⟩
  have hinv0:=hb0 (by simpa using hc56)
  refine IdxG.of (by assumption) ?_
  obtain ⟨_,⟨b1,rfl⟩,hcl1⟩:=exists_p k0.L ⟨by omega,hf_k0⟩ l[k0.k] (hl.2 _ (List.getElem_mem hlt14)) (by have:=hdx.cl; omega)
  refine OpG.lk (LOp.callB [0] bod85 rfl (fun i h h'=>match i,h with | 0,_=>FzP.rows row_tabA (List.mem_singleton.2 rfl) rfl | 1,_=>FzP.pure rfl) hcl1) (cB (fun hc62=>?_) (fun hc62=>?_))
  ·exact cT ⟨.inr rfl,_,Outs.three Tryz.results47 (OutR.tmp ⟨[],FzP.unk⟩) (OutR.tmp ⟨[],FzP.pure rfl⟩) (OutR.tmp ⟨[],FzP.pure rfl⟩),⟨_,_,rfl,fun h=>absurd h (by decide)⟩⟩
  refine cF (IdxG.of (by assumption) ?_)
  obtain ⟨_,⟨t2,e2,rfl,ht2⟩,hcl2⟩:=table_h l[k0.k] (hl.2 _ (List.getElem_mem hlt14)) k0.L ⟨by omega,hf_k0⟩ (by omega) hdx hinv0.2
  refine OpG.lk (LOp.still (LOp.callH [(TOP,0)] bod86 hcl2 rfl rfl rfl rfl ⟨sX row_tabA,trivial⟩ ⟨rF_ok row_tabA,trivial⟩ ⟨rF_in row_tabA _ _,trivial⟩ rfl rfl rfl rfl rfl rfl) ⟨⟨by simp [gOf],sX row_tabA,rfl⟩,trivial⟩) (cB (fun hc83=>?_) (fun hc83=>?_))
  ·have hq83:¬ ((e2:Int)=(0:Int)):=by simpa using hc83
   exact ⟨.inr rfl,_,Outs.three Tryz.results47 (OutR.tmp ⟨[],FzP.unk⟩) (OutR.tmp ⟨[],FzP.pure rfl⟩) (OutR.tmp ⟨[],FzP.pure rfl⟩),⟨_,_,rfl,fun h=>absurd h (by simpa using hc83)⟩⟩
  have hq83:(e2:Int)=(0:Int):=by simpa using hc83
  refine OpG.mk _ _ _ 4 (LOp.appRow row_tabA (a:=t2) Tryz.underlying23 sz35 zr35 by35 rfl rfl rfl (Src.slB rfl rfl rfl rfl) rfl (by omega) (by omega) (by unfold TV; omega)) rfl rfl ⟨by omega,⟨(⟨k0.k+1,k0.L++[t2]⟩:KL GTab),(by show l.length - (k0.k+1) < l.length - k0.k; omega),(cO (.cons rfl rfl (.cons (by (rw [List.length_append]; rfl)) rfl (.cons rfl rfl .nil))) (.cons (by (rw [List.length_append]; rfl)) rfl (rF_low row_tabA _ _) .nil)),?_⟩⟩
  refine ⟨by show k0.k+1≤_; omega,by show (_++[_]).length=k0.k+1; rw [List.length_append,hL_k0]; rfl,fun y_ hy_=>(List.mem_append.1 hy_).elim (hf_k0 y_) (fun hy_=>by rw [List.mem_singleton.1 hy_]; exact ht2),?_⟩
  intro j hl hj
  rcases Nat.lt_succ_iff_lt_or_eq.1 hj with hj | rfl
  ·exact hi_k0 j hl hj
  exact hinv0.1
 exact ⟨.inr rfl,_,Outs.three Tryz.results47 (OutR.tmp ⟨[],FzP.unk⟩) (OutR.tmp ⟨[],FzP.pure rfl⟩) (OutR.tmp ⟨[],FzP.pure rfl⟩),⟨_,_,rfl,fun _ x hx=>by obtain ⟨j,hj,rfl⟩:=List.getElem_of_mem hx; exact hi_k0 j hj (by omega)⟩⟩
set_option maxRecDepth 100000 in
set_option maxHeartbeats 4000000 in
theorem valid12_p (s:List GTab) (hs:FitL s (fun y=>FitTab y)) (hsm:∀ t∈s,SmTab t) (hs12:s.length≤12):PRet Tryz.prog 21 [.tree 5 (s.map tabA)] (fun r=>∃ b:Bool,r=.v (.bool b)∧(b=true→SchV s∧∀ t∈s,∀ c∈t.columns_,ColOk c)):=by
 refine PRet.of_vc infOk [90] [20] Tryz.func21 rfl Tryz.ntmps21 rfl (by kernel_rfl) ?_
 refine LpG.on (fun k0:Nat=>(⟨fL [(0,.tree 5 (s.map tabA)),(3,.v (.int .i64 ((k0:Nat):Int)))],hLz [],0⟩:St)) (fun k0=>(s.length - k0)) (fun k0=>(k0≤s.length∧∀ j (hl:j < s.length),j < k0→TabV s j s[j])) 0 (cO (.cons rfl rfl (.cons rfl rfl .nil)) .nil) ⟨Nat.zero_le _,fun j _ h=>absurd h (Nat.not_lt_zero j)⟩ ?_
 rintro k0 hinv
 have hgr_k0:s.length≤140737488355328:=hs.1
 obtain ⟨hle_k0,hj_k0⟩:=hinv
 refine LenG.of (cL (fun hlt15=>?_) (fun hge15=>?_))
 ·refine LpG.on (fun k2:Nat=>(⟨fL [(0,.tree 5 (s.map tabA)),(3,.v (.int .i64 ((k0:Nat):Int))),(4,.v (.int .i64 ((k2:Nat):Int)))],hLz [],0⟩:St)) (fun k2=>(s[k0].keys_.length - k2)) (fun k2=>(k2≤s[k0].keys_.length∧∀ j (hl:j < s[k0].keys_.length),j < k2→∀ x∈s[k0].keys_[j],0≤x∧x < s[k0].columns_.length)) 0 (cO (.cons rfl rfl (.cons rfl rfl (.cons rfl rfl .nil))) .nil) ⟨Nat.zero_le _,fun j _ h=>absurd h (Nat.not_lt_zero j)⟩ ?_
  rintro k2 hinv
  have hgr_k2:s[k0].keys_.length≤140737488355328:=(hs.2 _ (List.getElem_mem _)).keys_.1
  obtain ⟨hle_k2,hj_k2⟩:=hinv
  refine IdxG.of (by assumption) (LenG.of ?_)
  refine cL (fun hlt25=>?_) (fun hge25=>?_)
  ·refine IdxG.of (by assumption) (IdxG.of (by assumption) ?_)
   refine IdxG.of (by assumption) (ArgG.mk (inside_p (s[k0]) (hs.2 _ (List.getElem_mem _)) (s[k0].keys_[k2]) ((hs.2 _ (List.getElem_mem _)).keys_.2 _ (List.getElem_mem _))) rfl ?_)
   rintro _ ⟨b0,rfl,hb0⟩
   refine ⟨by kernel_rfl,?_⟩
   refine cB (fun hc41=>?_) (fun hc41=>?_)
   ·exact rV Tryz.results21 rfl bF
   refine ⟨by omega,?_⟩
   refine ⟨(k2+1),by omega,(cO (.cons rfl rfl (.cons rfl rfl (.cons rfl rfl .nil))) .nil),?_⟩
   refine ⟨by omega,fun j hl h=>?_⟩
   rcases Nat.lt_succ_iff_lt_or_eq.1 h with h | rfl
   ·exact hj_k2 j hl h
   exact hb0 (by simpa using hc41)
  refine LpG.on (fun k4:Nat=>(⟨fL [(0,.tree 5 (s.map tabA)),(3,.v (.int .i64 ((k0:Nat):Int))),(5,.v (.int .i64 ((k4:Nat):Int)))],hLz [],0⟩:St)) (fun k4=>(s[k0].foreign_.length - k4)) (fun k4=>(k4≤s[k0].foreign_.length∧∀ j (hl:j < s[k0].foreign_.length),j < k4→ForOk s k0 s[k0] s[k0].foreign_[j])) 0 (cO (.cons rfl rfl (.cons rfl rfl (.cons rfl rfl .nil))) .nil) ⟨Nat.zero_le _,fun j _ h=>absurd h (Nat.not_lt_zero j)⟩ ?_
  rintro k4 hinv
  have hgr_k4:s[k0].foreign_.length≤140737488355328:=(hs.2 _ (List.getElem_mem _)).foreign_.1
  obtain ⟨hle_k4,hj_k4⟩:=hinv
  refine IdxG.of (by assumption) (LenG.of ?_)
  refine cL (fun hlt49=>?_) (fun hge49=>?_)
  ·refine IdxG.of (by assumption) (IdxG.of (by assumption) ?_)
   refine IdxG.of (by assumption) (ArgG.mk (inside_p (s[k0]) (hs.2 _ (List.getElem_mem _)) (s[k0].foreign_[k4].columns_) ((hs.2 _ (List.getElem_mem _)).foreign_.2 _ (List.getElem_mem _)).columns_) rfl ?_)
   rintro _ ⟨b1,rfl,hb1⟩
   refine cB (fun hg68=>?_) (fun hg68=>?_)
   ·refine cT (cT ?_)
    refine cT ⟨by kernel_rfl,cT ?_⟩
    exact rV Tryz.results21 rfl bF
   refine cD (fun hq73=>?_) (fun hq73=>?_)
   refine cT (cT ?_)
   refine ⟨by kernel_rfl,?_⟩
   exact cT (rV Tryz.results21 rfl bF)
   refine cD (fun hq79=>?_) (fun hq79=>?_)
   refine cT ⟨by kernel_rfl,cT ?_⟩
   exact rV Tryz.results21 rfl bF
   refine cD (fun hq84=>?_) (fun hq84=>?_)
   ·refine ⟨by kernel_rfl,?_⟩
    exact cT (rV Tryz.results21 rfl bF)
   obtain ⟨j1,hj1⟩:∃ j:Nat,s[k0].foreign_[k4].table_=((j:Nat):Int):=⟨s[k0].foreign_[k4].table_.toNat,by omega⟩
   refine OpG.lk (LOp.indexI Tryz.underlying23 sz35 rfl rfl hj1 (by omega)) ?_
   refine LenG.of ⟨by kernel_rfl,cD (fun hq95=>?_) (fun hq95=>?_)⟩
   ·exact rV Tryz.results21 rfl bF
   refine ⟨by omega,?_⟩
   refine ⟨(k4+1),by omega,(cO (.cons rfl rfl (.cons rfl rfl (.cons rfl rfl .nil))) .nil),?_⟩
   refine ⟨by omega,fun j hl h=>?_⟩
   rcases Nat.lt_succ_iff_lt_or_eq.1 h with h | rfl
   ·exact hj_k4 j hl h
   exact ⟨hb1 (by simpa using hg68),j1,s[k0].foreign_[j].key_.toNat,hj1,by omega,by omega,by omega,by omega⟩
  refine ⟨by omega,?_⟩
  refine ⟨(k0+1),by omega,(cO (.cons rfl rfl (.cons rfl rfl .nil)) .nil),?_⟩
  refine ⟨by omega,fun j hl h=>?_⟩
  rcases Nat.lt_succ_iff_lt_or_eq.1 h with h | rfl
  ·exact hj_k0 j hl h
  exact ⟨fun y hy=>by obtain ⟨j,hj,rfl⟩:=List.getElem_of_mem hy; exact hj_k2 j hj (by omega),fun y hy=>by obtain ⟨j,hj,rfl⟩:=List.getElem_of_mem hy; exact hj_k4 j hj (by omega)⟩
 have hv:SchV s:=fun j hl=>hj_k0 j hl (by omega)
 refine LpG.via (fun _ h=>AWP.lazyT 7 22 rfl 1 rfl h) ?_
 refine LpG.on (fun k6:KL GSta=>(⟨fL [(0,.tree 5 (s.map tabA)),(7,.sl 0 k6.L.length 0 k6.L.length),(8,.v (.int .i64 ((k6.k:Nat):Int)))],hLz [(0,⟨k6.L.length,rF staA k6.L,22,Nat.beq k6.L.length 0⟩)],1⟩:St)) (fun k6=>(s.length - k6.k)) (fun k6=>(k6.k≤s.length∧k6.L.length=k6.k∧(∀ x∈k6.L,FitSta x)∧((∀ x∈k6.L,DefOk x)∧k6.L.map (fun x=>x.create_.columns_)=(s.take k6.k).map (fun t=>t.columns_)))) (⟨0,[]⟩:KL GSta) (cO (.cons rfl rfl (.cons (by rfl) rfl (.cons rfl rfl .nil))) (.cons (by rfl) rfl (rF_low row_staA _ _) .nil)) ⟨Nat.zero_le _,rfl,by simp,⟨by simp,rfl⟩⟩ ?_
 rintro k6 hinv
 have hgr_k6:s.length≤140737488355328:=hs.1
 obtain ⟨hle_k6,hL_k6,hf_k6,hi_k6⟩:=hinv
 refine LenG.of (cL (fun hlt99=>?_) (fun hge99=>?_))
 ·refine ArgG.mk (definition_p s hs k6.k (by omega) hv hsm) rfl ?_
  rintro _ ⟨x2,rfl,hx2,hd2,hxc2⟩
  refine OpG.mk _ _ _ 2 (LOp.appRow row_staA (a:=x2) Tryz.underlying115 sz50 zr50 by50 rfl rfl rfl (Src.slB rfl rfl rfl rfl) rfl (by omega) (by omega) (by unfold TV; omega)) rfl rfl ?_
  refine ⟨by omega,?_⟩
  refine ⟨(⟨k6.k+1,k6.L++[x2]⟩:KL GSta),(by show s.length - (k6.k+1) < s.length - k6.k; omega),(cO (.cons rfl rfl (.cons (by (rw [List.length_append]; rfl)) rfl (.cons rfl rfl .nil))) (.cons (by (rw [List.length_append]; rfl)) rfl (rF_low row_staA _ _) .nil)),?_⟩
  refine ⟨by show k6.k+1≤_; omega,by show (_++[_]).length=k6.k+1; rw [List.length_append,hL_k6]; rfl,fun y_ hy_=>(List.mem_append.1 hy_).elim (hf_k6 y_) (fun hy_=>by rw [List.mem_singleton.1 hy_]; exact hx2),?_⟩
  exact ⟨all_snoc hi_k6.1 hd2,map_next hlt99 hi_k6.2 hxc2⟩
 refine RegG.via (fun _ h=>AWP.freeze [0] 7 (.tree 22 (k6.L.map staA)) (FzP.rows row_staA (List.mem_singleton.2 rfl) rfl) rfl h) ?_
 refine RegG.go ?_
 refine ArgG.mk (build_p k6.L ⟨by omega,hf_k6⟩ hi_k6.1 (by omega)) rfl ?_
 rintro _ ⟨i3,e3,rfl,he3⟩
 exact rV Tryz.results21 rfl ⟨_,rfl,fun hr=>⟨hv,cols_ok hge99 hi_k6.2 (he3 (by simpa using hr))⟩⟩
end Go.Proofs.YthpangmpihkniaaGreatDoor
namespace Go.Proofs.YthpangmpihkniaaGreatDoor
set_option linter.unusedVariables false
set_option linter.unusedSimpArgs false
open Go.RowKit
structure GChg where
 table_:Int
 iD_:Int
 old_:List GVal
 new_:List GVal
instance:Inhabited GChg:=⟨⟨0,0,[],[]⟩⟩
theorem vars_fit {t:GTab} (h:t.columns_.length≤1000):FitL (varsOf t) (fun _=>True):=⟨by unfold varsOf; rw [List.length_map]; omega,fun _ _=>trivial⟩
/-- A table of a valid and small schema. -/
structure TabS (t:GTab):Prop where
 sm:SmTab t
 c1:1≤t.columns_.length
 c5:t.columns_.length≤5
 col:∀ c∈t.columns_,ColOk c
 ck:∀ e∈t.checks_,CondE (varsOf t) e
structure SchS (s:List GTab):Prop where
 len:s.length≤4
 tab:∀ t∈s,TabS t
 v:SchV s
theorem TabS.to {t:GTab} (h:TabS t):TabOk t:=⟨by have:=h.c5; omega,fun x hx h1=>by
 obtain ⟨c,hc,rfl⟩:=List.mem_map.1 hx
 have hk:=h.col c hc
 unfold ColOk at hk
 have h1:c.type_=1:=h1
 show -2147483648≤c.low_∧c.high_≤2147483647
 omega,h.ck⟩
theorem nb {b:Bool} (h:(!b)=false):b=true:=by cases b <;> simp_all
set_option maxRecDepth 100000 in
set_option maxHeartbeats 4000000 in
theorem schema29_p (s:List GTab) (hs:FitL s (fun y=>FitTab y)):PRet Tryz.prog 6 [.tree 5 (s.map tabA)] (fun r=>∃ b:Bool,r=.v (.bool b)∧(b=true→SchS s)):=by
 refine PRet.of_vc infOk [] [] Tryz.func6 rfl Tryz.ntmps6 rfl (by kernel_rfl) (ArgG.mk (smallSchema_p s hs) rfl ?_)
 rintro _ ⟨b0,rfl,hb0⟩
 refine cB (fun hg8=>?_) (fun hg8=>?_)
 ·refine cT (cT ?_)
  exact rV Tryz.results6 rfl bF
 have hsm0:=hb0 (by simpa using hg8)
 have hs12:=hsm0.1
 have hsm:=hsm0.2
 refine ArgG.mk (valid12_p s hs (by assumption) (by omega)) rfl ?_
 rintro _ ⟨b1,rfl,hb1⟩
 refine cB (fun hg13=>?_) (fun hg13=>?_)
 ·exact cT (rV Tryz.results6 rfl bF)
 have hv0:=hb1 (by simpa using hg13)
 refine LenG.of (cD (fun hq17=>?_) (fun hq17=>?_))
 ·exact rV Tryz.results6 rfl bF
 refine LpG.on (fun k0:Nat=>(⟨fL [(0,.tree 5 (s.map tabA)),(3,.v (.int .i64 ((k0:Nat):Int)))],hLz [],0⟩:St)) (fun k0=>(s.length - k0)) (fun k0=>(k0≤s.length∧∀ j (hl:j < s.length),j < k0→TabS s[j])) 0 (cO (.cons rfl rfl (.cons rfl rfl .nil)) .nil) ⟨Nat.zero_le _,fun j _ h=>absurd h (Nat.not_lt_zero j)⟩ ?_
 rintro k0 hinv
 have hgr_k0:s.length≤140737488355328:=hs.1
 obtain ⟨hle_k0,hj_k0⟩:=hinv
 refine LenG.of (cL (fun hlt21=>?_) (fun hge21=>?_))
 ·have hst:=hs.2 _ (List.getElem_mem hlt21)
  refine IdxG.of (by assumption) (LenG.of ?_)
  refine cD (fun hq31=>?_) (fun hq31=>?_)
  ·exact cT (rV Tryz.results6 rfl bF)
  refine IdxG.of (by assumption) (LenG.of ?_)
  refine cE (fun hq39=>?_) (fun hq39=>?_)
  ·exact rV Tryz.results6 rfl bF
  refine LpG.on (fun k2:Nat=>(⟨fL [(0,.tree 5 (s.map tabA)),(3,.v (.int .i64 ((k0:Nat):Int))),(4,.v (.int .i64 ((k2:Nat):Int)))],hLz [],0⟩:St)) (fun k2=>(s[k0].checks_.length - k2)) (fun k2=>(k2≤s[k0].checks_.length∧∀ j (hl:j < s[k0].checks_.length),j < k2→CondE (varsOf s[k0]) s[k0].checks_[j])) 0 (cO (.cons rfl rfl (.cons rfl rfl (.cons rfl rfl .nil))) .nil) ⟨Nat.zero_le _,fun j _ h=>absurd h (Nat.not_lt_zero j)⟩ ?_
  rintro k2 hinv
  have hgr_k2:s[k0].checks_.length≤140737488355328:=(hs.2 _ (List.getElem_mem _)).checks_.1
  obtain ⟨hle_k2,hj_k2⟩:=hinv
  refine IdxG.of (by assumption) (LenG.of ?_)
  refine cL (fun hlt47=>?_) (fun hge47=>?_)
  ·obtain ⟨a2,he_a2,ha2⟩:=(hst.checks_.2 _ (List.getElem_mem hlt47)).open_
   refine IdxG.of (by assumption) (IdxG.as (j:=k2) (by assumption) he_a2 ?_)
   refine cE (fun hq60=>?_) (fun hq60=>?_)
   ·refine ⟨by kernel_rfl,cT ?_⟩
    exact rV Tryz.results6 rfl bF
   refine IdxG.of (by assumption) (IdxG.as (j:=k2) (by assumption) he_a2 ?_)
   refine IdxG.of (by assumption) (ArgG.mk (variables12_p (s[k0]) (hs.2 _ (List.getElem_mem _)) (by omega)) rfl ?_)
   rintro _ rfl
   refine ArgG.mk (condition29_w a2 ha2 (varsOf s[k0]) (vars_fit (by omega))) rfl ?_
   rintro _ ⟨b3,rfl,hb3⟩
   refine ⟨by kernel_rfl,cB (fun hc76=>?_) (fun hc76=>?_)⟩
   ·exact rV Tryz.results6 rfl bF
   refine ⟨by omega,⟨(k2+1),by omega,(cO (.cons rfl rfl (.cons rfl rfl (.cons rfl rfl .nil))) .nil),?_⟩⟩
   refine ⟨by omega,fun j hl h=>?_⟩
   rcases Nat.lt_succ_iff_lt_or_eq.1 h with h | rfl
   ·exact hj_k2 j hl h
   rw [he_a2]; exact (hb3 (by simpa using hc76)).resolve_left (by assumption)
  refine ⟨by omega,⟨(k0+1),by omega,(cO (.cons rfl rfl (.cons rfl rfl .nil)) .nil),?_⟩⟩
  refine ⟨by omega,fun j hl h=>?_⟩
  rcases Nat.lt_succ_iff_lt_or_eq.1 h with h | rfl
  ·exact hj_k0 j hl h
  exact ⟨hsm _ (List.getElem_mem hlt21),by omega,by omega,hv0.2 _ (List.getElem_mem hlt21),fun y hy=>by obtain ⟨j,hj,rfl⟩:=List.getElem_of_mem hy; exact hj_k2 j hj (by omega)⟩
 exact rV Tryz.results6 rfl ⟨_,rfl,fun _=>⟨by omega,fun t ht=>by obtain ⟨j,hj,rfl⟩:=List.getElem_of_mem ht; exact hj_k0 j hj (by omega),hv0.1⟩⟩
end Go.Proofs.YthpangmpihkniaaGreatDoor
