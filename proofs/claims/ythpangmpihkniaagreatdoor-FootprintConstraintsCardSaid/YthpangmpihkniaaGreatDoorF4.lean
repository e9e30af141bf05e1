/- Texts of the claim. -/
import Derived.Test.YthpangmpihkniaaGreatDoorF3
import Derived.Test.YthpangmpihkniaaGreatDoorQ2
namespace Go.Proofs.YthpangmpihkniaaGreatDoor
set_option maxRecDepth 1000000
set_option maxHeartbeats 0
set_option linter.unusedVariables false
set_option linter.unusedSimpArgs false
open Go.RowKit
theorem yi {P:Program} {τ:Nat->AV} {η:au} {d:Option Tmp} {ty:TypeId} {pos:String} {af:Array Edge} {g:Option (Nat×Bool)} {t k:Nat} {x i:Operand} {s:ByteArray} {v:Int} (hu:P.underlying t=some .string) (hx:aev τ x=.v (.string s)) (hi:aev τ i=.v (.int .i64 v)) (hv:v=((k:Nat):Int)) (hk:k < s.size) :
  LOp P ⟨d,.index t x i,ty,pos,af,g⟩ τ η [] [] (.v (.int .u8 (((bAt s k).toNat:Nat):Int))):=by subst hv; exact ru hu hx hi hk
theorem bB {n:Nat} {F G:Nat->Bool} (h:∀ i,i < n->F i=G i):some (Blk.mk 0 (lp n F) 1 false)=some (Blk.mk 0 (lp n G) 1 false):=by rw [Lb h]
section
variable {s p:ByteArray} {c k i:Nat} {prev:Nat->Bool} {v:Bool}
theorem jw (h:c=37):ip s c prev k=(prev k||(decide (0 < k)&&ip s c prev (k - 1))):=by
 subst h
 cases k with
 | zero=>simp [ip]
 | succ k=>simp [ip]
theorem j7 (h:¬ c=37):ip s c prev k=(decide (0 < k)&&(prev (k - 1)&&(c==95||c==(bAt s (k - 1)).toNat))):=by
 cases k with
 | zero=>simp [ip,h]
 | succ k=>simp [ip,h]
theorem qo (hv:v=ip s c prev k):(if i=k then v else (decide (i < k)&&ip s c prev i))=(decide (i < k+1)&&ip s c prev i):=by
 by_cases h:i=k
 ·subst h; rw [if_pos rfl,hv]; simp
 rw [if_neg h,show decide (i < k+1)=decide (i < k) by rw [decide_eq_decide]; omega]
theorem ib {a b:Nat}:(((a:Nat):Int)==((b:Nat):Int))=(a==b):=by rw [Bool.eq_iff_iff]; simp only [beq_iff_eq]; omega
theorem Qg {X:Nat->Bool}:false=(decide (i < 0)&&X i):=by simp
theorem Qf (hv:false=ip s c prev k):(decide (i < k)&&ip s c prev i)=(decide (i < k+1)&&ip s c prev i):=by
 by_cases h:i=k
 ·subst h; rw [<- hv]; simp
 rw [show decide (i < k+1)=decide (i < k) by rw [decide_eq_decide]; omega]
theorem Ty {n m:Nat} (hi:i < n) (hm:n<=m):(decide (i < m)&&ip s (bAt p k).toNat (lk s p k) i)=lk s p (k+1) i:=by
 rw [decide_eq_true (by omega:i < m),Bool.true_and]; rfl
end
theorem by4:(Tryz.prog.info? 4).map (·.bytes)=some 1:=by kernel_rfl
theorem Wb:el Tryz.prog 4=some none:=by kernel_rfl
theorem sz4:aa Tryz.prog 4=some 1:=by kernel_rfl
theorem zr4:ax Tryz.prog 4=some (.bool false):=by kernel_rfl
theorem Lx (s:ByteArray) (hs:lw s) (p:ByteArray) (hp:lw p):PRet Tryz.prog 77 [.v (.string s),.v (.string p)] (fun q=>q=.v (.bool (H6 s p))):=by
 have hs1:s.size<=140737488351232:=hs
 have hp1:p.size<=140737488351232:=hp
 refine PRet.of_vc ao [12,14,24,39,40,48,49,52,60,61,74,78,83,84,100014,100052,100078] [5] Tryz.func77 rfl Tryz.ntmps77 rfl (by kernel_rfl) ⟨by omega,OpG.nw (Am (len:=s.size+1) 0 Tryz.underlying238 sz4 zr4 by4 rfl rfl (by omega) (by omega) (by omega)) rfl ?_⟩
 refine OpG.lk (d6 (i:=0) Tryz.underlying238 sz4 rfl rfl (by omega) (by omega) rfl) (OpG.wr (ig sz4 rfl rfl rfl (by omega)) rfl ?_)
 refine LpG.on (fun k0:Nat=>(⟨fL [(0,.v (.string s)),(1,.v (.string p)),(5,.sl 0 0 0 (s.size+1)),(6,.v (.int .i64 ((k0:Nat):Int)))],bl [(0,⟨0,lp (s.size+1) (lk s p k0),1,false⟩)],1⟩:St)) (fun k0=>(p.size - k0)) (fun k0=>(k0<=p.size)) 0 (cO (.cons rfl rfl (.cons rfl rfl (.cons rfl rfl (.cons rfl rfl .nil)))) (.cons (by rfl) rfl (cz _) .nil)) (Nat.zero_le _) ?_
 rintro k0 hinv
 have hgr_k0:p.size<=140737488355328:=Nat.le_trans hp (by decide)
 have hle_k0:=hinv
 refine cL (fun hlt18=>?_) (fun hge18=>?_)
 ·refine ⟨by omega,OpG.nw (Am (len:=s.size+1) 1 Tryz.underlying238 sz4 zr4 by4 rfl rfl (by omega) (by omega) (by omega)) rfl ?_⟩
  refine LpG.on (fun k2:Nat=>(⟨fL [(0,.v (.string s)),(1,.v (.string p)),(5,.sl 0 0 0 (s.size+1)),(6,.v (.int .i64 ((k0:Nat):Int))),(7,.sl 1 0 0 (s.size+1)),(8,.v (.int .i64 ((k2:Nat):Int)))],bl [(0,⟨0,lp (s.size+1) (lk s p k0),1,false⟩),(1,⟨0,lp (s.size+1) (fun m=>decide (m < k2)&&ip s (bAt p k0).toNat (lk s p k0) m),1,false⟩)],2⟩:St)) (fun k2=>((s.size+1) - k2)) (fun k2=>(k2<=(s.size+1))) 0 (cO (.cons rfl rfl (.cons rfl rfl (.cons rfl rfl (.cons rfl rfl (.cons rfl rfl (.cons rfl rfl .nil)))))) (.cons rfl rfl (cz _) (.cons (by exact bB (fun i _=>Qg)) rfl (cz _) .nil))) (Nat.zero_le _) ?_
  rintro k2 hinv
  have hle_k2:=hinv
  refine cD (fun hq28=>?_) (fun hq28=>?_)
  ·refine ⟨(by assumption),cB (fun hc34=>?_) (fun hc34=>?_)⟩
   ·have hcc:(bAt p k0).toNat=37:=by have h:=hc34; simp at h; omega
    refine OpG.lk (d6 (i:=k2) Tryz.underlying238 sz4 rfl rfl (by omega) (by omega) rfl) (OpG.lk (qb Wb rfl rfl (by omega)) ?_)
    refine cB (fun hg41=>?_) (fun hg41=>?_)
    ·refine OpG.lk (d6 (i:=k2) Tryz.underlying238 sz4 rfl rfl (by omega) (by omega) rfl) (OpG.wr (ig sz4 rfl rfl rfl (by omega)) rfl ?_)
     refine ⟨by omega,⟨(k2+1),by omega,(cO (.cons rfl rfl (.cons rfl rfl (.cons rfl rfl (.cons rfl rfl (.cons rfl rfl (.cons rfl rfl .nil)))))) (.cons rfl rfl (cz _) (.cons (by (refine bB (fun i _=>qo ?_); first | (rw [jw hcc]; simp_all; done) | (rw [j7 hcc]; simp_all; done) | (rw [jw (k:=k2) hcc,hg41,hk3,hk4]; rfl) | (rw [j7 hcc,hk4,hg62,h95,ib]; rfl) | (rw [j7 hcc,hk4,hg62,h95]; rfl))) rfl (cz _) .nil))),?_⟩⟩
     omega
    refine cB (fun hg44=>?_) (fun hg44=>?_)
    ·have hq44:((k2:Nat):Int) > (0:Int):=of_decide_eq_true hg44
     have hk2:0 < k2:=by have h:=hg44; simp at h; omega
     have hk3:decide (k2 - 1 < k2)=true:=decide_eq_true (by omega)
     have hk4:decide (0 < k2)=true:=decide_eq_true hk2
     refine ⟨by omega,OpG.lk (d6 (i:=k2 - 1) Tryz.underlying238 sz4 rfl rfl (by omega) (by omega) rfl) ?_⟩
     refine OpG.lk (qb Wb rfl rfl (by omega)) (OpG.lk (d6 (i:=k2) Tryz.underlying238 sz4 rfl rfl (by omega) (by omega) rfl) ?_)
     refine OpG.wr (ig sz4 rfl rfl rfl (by omega)) rfl ⟨by omega,⟨(k2+1),by omega,(cO (.cons rfl rfl (.cons rfl rfl (.cons rfl rfl (.cons rfl rfl (.cons rfl rfl (.cons rfl rfl .nil)))))) (.cons rfl rfl (cz _) (.cons (by (refine bB (fun i _=>qo ?_); first | (rw [jw hcc]; simp_all; done) | (rw [j7 hcc]; simp_all; done) | (rw [jw (k:=k2) hcc,hg41,hk3,hk4]; rfl) | (rw [j7 hcc,hk4,hg62,h95,ib]; rfl) | (rw [j7 hcc,hk4,hg62,h95]; rfl))) rfl (cz _) .nil))),?_⟩⟩
     omega
    have hq44:¬ (((k2:Nat):Int) > (0:Int)):=of_decide_eq_false hg44
    have hk2:k2=0:=by have h:=hg44; simp at h; omega
    refine OpG.lk (d6 (i:=k2) Tryz.underlying238 sz4 rfl rfl (by omega) (by omega) rfl) (OpG.wr (ig sz4 rfl rfl rfl (by omega)) rfl ?_)
    refine ⟨by omega,⟨(k2+1),by omega,(cO (.cons rfl rfl (.cons rfl rfl (.cons rfl rfl (.cons rfl rfl (.cons rfl rfl (.cons rfl rfl .nil)))))) (.cons rfl rfl (cz _) (.cons (by (refine bB (fun i _=>qo ?_); first | (rw [jw hcc]; simp_all; done) | (rw [j7 hcc]; simp_all; done) | (rw [jw (k:=k2) hcc,hg41,hk3,hk4]; rfl) | (rw [j7 hcc,hk4,hg62,h95,ib]; rfl) | (rw [j7 hcc,hk4,hg62,h95]; rfl))) rfl (cz _) .nil))),?_⟩⟩
    omega
   have hcc:¬ (bAt p k0).toNat=37:=by have h:=hc34; simp at h; omega
   refine cD (fun hq54=>?_) (fun hq54=>?_)
   ·have hk2:0 < k2:=by omega
    have hk4:decide (0 < k2)=true:=decide_eq_true hk2
    refine ⟨by omega,OpG.lk (d6 (i:=k2 - 1) Tryz.underlying238 sz4 rfl rfl (by omega) (by omega) rfl) ?_⟩
    refine OpG.lk (qb Wb rfl rfl (by omega)) (cB (fun hg62=>?_) (fun hg62=>?_))
    ·refine ⟨(by assumption),cB (fun hg67=>?_) (fun hg67=>?_)⟩
     ·have h95:((bAt p k0).toNat==95)=true:=by have h:=hg67; rw [beq_iff_eq] at h ⊢; omega
      refine OpG.lk (d6 (i:=k2) Tryz.underlying238 sz4 rfl rfl (by omega) (by omega) rfl) (OpG.wr (ig sz4 rfl rfl rfl (by omega)) rfl ?_)
      refine ⟨by kernel_rfl,⟨by omega,?_⟩⟩
      refine ⟨(k2+1),by omega,(cO (.cons rfl rfl (.cons rfl rfl (.cons rfl rfl (.cons rfl rfl (.cons rfl rfl (.cons rfl rfl .nil)))))) (.cons rfl rfl (cz _) (.cons (by (refine bB (fun i _=>qo ?_); first | (rw [jw hcc]; simp_all; done) | (rw [j7 hcc]; simp_all; done) | (rw [jw (k:=k2) hcc,hg41,hk3,hk4]; rfl) | (rw [j7 hcc,hk4,hg62,h95,ib]; rfl) | (rw [j7 hcc,hk4,hg62,h95]; rfl))) rfl (cz _) .nil))),?_⟩
      omega
     have h95:((bAt p k0).toNat==95)=false:=by have h:=hg67; rw [beq_eq_false_iff_ne] at h ⊢; omega
     refine ⟨(by assumption),⟨by omega,?_⟩⟩
     refine OpG.lk (yi (k:=k2 - 1) Tryz.underlying9 rfl rfl (by omega) (by omega)) (OpG.lk (d6 (i:=k2) Tryz.underlying238 sz4 rfl rfl (by omega) (by omega) rfl) ?_)
     refine OpG.wr (ig sz4 rfl rfl rfl (by omega)) rfl ⟨by kernel_rfl,⟨by omega,?_⟩⟩
     refine ⟨(k2+1),by omega,(cO (.cons rfl rfl (.cons rfl rfl (.cons rfl rfl (.cons rfl rfl (.cons rfl rfl (.cons rfl rfl .nil)))))) (.cons rfl rfl (cz _) (.cons (by (refine bB (fun i _=>qo ?_); first | (rw [jw hcc]; simp_all; done) | (rw [j7 hcc]; simp_all; done) | (rw [jw (k:=k2) hcc,hg41,hk3,hk4]; rfl) | (rw [j7 hcc,hk4,hg62,h95,ib]; rfl) | (rw [j7 hcc,hk4,hg62,h95]; rfl))) rfl (cz _) .nil))),?_⟩
     omega
    refine OpG.lk (d6 (i:=k2) Tryz.underlying238 sz4 rfl rfl (by omega) (by omega) rfl) (OpG.wr (ig sz4 rfl rfl rfl (by omega)) rfl ?_)
    refine ⟨by kernel_rfl,⟨by omega,?_⟩⟩
    refine ⟨(k2+1),by omega,(cO (.cons rfl rfl (.cons rfl rfl (.cons rfl rfl (.cons rfl rfl (.cons rfl rfl (.cons rfl rfl .nil)))))) (.cons rfl rfl (cz _) (.cons (by (refine bB (fun i _=>qo ?_); first | (rw [jw hcc]; simp_all; done) | (rw [j7 hcc]; simp_all; done) | (rw [jw (k:=k2) hcc,hg41,hk3,hk4]; rfl) | (rw [j7 hcc,hk4,hg62,h95,ib]; rfl) | (rw [j7 hcc,hk4,hg62,h95]; rfl))) rfl (cz _) .nil))),?_⟩
    omega
   have hk2:k2=0:=by omega
   refine ⟨by omega,⟨(k2+1),by omega,(cO (.cons rfl rfl (.cons rfl rfl (.cons rfl rfl (.cons rfl rfl (.cons rfl rfl (.cons rfl rfl .nil)))))) (.cons rfl rfl (cz _) (.cons (by (refine bB (fun i _=>Qf ?_); first | (rw [jw hcc]; simp_all; done) | (rw [j7 hcc]; simp_all; done) | (rw [jw (k:=k2) hcc,hg41,hk3,hk4]; rfl) | (rw [j7 hcc,hk4,hg62,h95,ib]; rfl) | (rw [j7 hcc,hk4,hg62,h95]; rfl))) rfl (cz _) .nil))),?_⟩⟩
   omega
  refine RegG.via (fun _ h=>Ng 0 1 (fl:=[(0,.v (.string s)),(1,.v (.string p)),(5,.sl 1 0 0 (s.size+1)),(6,.v (.int .i64 ((k0:Nat):Int)))]) (hl:=[(1,⟨0,lp (s.size+1) (lk s p (k0+1)),1,false⟩)]) (u:=2) (cO (.cons rfl rfl (.cons rfl rfl (.cons rfl rfl (.cons rfl rfl .nil)))) (.cons (bB (fun i hi=>Ty hi (by omega))) rfl (cz _) .nil)) ⟨rfl,rfl,rfl,rfl,trivial⟩ ⟨P1 _,trivial⟩ (by decide) (by decide) (by decide) (fl':=[(0,.v (.string s)),(1,.v (.string p)),(5,.sl 0 0 0 (s.size+1)),(6,.v (.int .i64 ((k0:Nat):Int)))]) (hl':=[(0,⟨0,lp (s.size+1) (lk s p (k0+1)),1,false⟩)]) rfl (by simp only [List.map,Blk.ren,K9]; rfl) h) (cr ?_)
  refine ⟨by omega,⟨(k0+1),by omega,(cO (.cons rfl rfl (.cons rfl rfl (.cons rfl rfl (.cons rfl rfl .nil)))) (.cons (by rfl) rfl (cz _) .nil)),?_⟩⟩
  omega
 refine OpG.lk (d6 (i:=s.size) Tryz.underlying238 sz4 rfl rfl (by omega) (by omega) rfl) (OpG.lk (qb Wb rfl rfl (by omega)) ?_)
 refine rV Tryz.results77 rfl ?_
 have e:k0=p.size:=by omega
 subst e; rfl
theorem Mt (r:List GVal) (hr:bw r (fun y=>FitVal y)) (e:List AV) (he:IsEx e):CdR r e->PRet Tryz.prog 36 [.agg (rwA e),.tree 3 (r.map gvA)] (fun q=>q=.v (.int .i64 (cS (a8 r) e))) :=
 IsEx.ind (M:=fun e=>CdR r e->PRet Tryz.prog 36 [.agg (rwA e),.tree 3 (r.map gvA)] (fun q=>q=.v (.int .i64 (cS (a8 r) e)))) (fun x hx ih hc=>Ms x hx r hr hc ih (fun s p hs hp=>Lx s hs p hp)) he
theorem P0 {t:GTab} {r:List GVal} (h:n9 t r):M6 (ap t) r:=⟨by rw [h.1]; simp [ap],fun j hl h2=>by
 have h3:j < t.columns_.length:=by have:=h.1; omega
 have e:(ap t)[j]=wz t.columns_[j]:=by simp [ap]
 rw [e]; exact I0 (h.2 j hl h3)⟩
/-- A possible row. -/
def B2 (t:GTab) (w:List GVal):Prop:=n9 t w/\∀ e∈t.checks_,cS (a8 w) e≠0
/-- A table whose checks can be evaluated. -/
structure TabOk (t:GTab):Prop where
 cl:t.columns_.length<=1000
 lk:LOk (ap t)
 ck:∀ e∈t.checks_,CondE (ap t) e
theorem gk (t:GTab) (ht:FitTab t) (w:List GVal) (hw:bw w (fun y=>FitVal y)) (hto:TabOk t):PRet Tryz.prog 12 [.agg (ef t),.tree 3 (w.map gvA)] (fun r=>∃ b:Bool,r=.v (.bool b)/\(b=true↔B2 t w)):=by
 refine PRet.of_vc ao [21] [] Tryz.func12 rfl Tryz.ntmps12 rfl (by kernel_rfl) (ArgG.mk (Dq t ht w hw hto.cl) rfl ?_)
 rintro _ ⟨e0,rfl,he0⟩
 refine cB (fun hc9=>?_) (fun hc9=>?_)
 ·have hq9:¬ ((e0:Int)=(0:Int)):=by simpa using hc9
  have hrf:¬ n9 t w:=fun h=>absurd (he0.2 h) (by simpa using hc9)
  exact rV Tryz.results12 rfl ⟨_,rfl,fun h=>absurd h Bool.false_ne_true,fun h=>absurd h.1 hrf⟩
 have hq9:(e0:Int)=(0:Int):=by simpa using hc9
 have hrf:=he0.1 (by simpa using hc9)
 refine LpG.on (fun k0:Nat=>(⟨fL [(1,.tree 3 (w.map gvA)),(2,.ptr 0 0 0),(5,.v (.int .i64 ((k0:Nat):Int)))],bl [(0,⟨0,ef t,0,false⟩)],1⟩:St)) (fun k0=>(t.checks_.length - k0)) (fun k0=>(k0<=t.checks_.length/\∀ j (hl:j < t.checks_.length),j < k0->cS (a8 w) t.checks_[j]≠0)) 0 (cO (.cons rfl rfl (.cons rfl rfl (.cons rfl rfl .nil))) (.cons rfl rfl rfl .nil)) ⟨Nat.zero_le _,fun j _ h=>absurd h (Nat.not_lt_zero j)⟩ ?_
 rintro k0 hinv
 have hgr_k0:t.checks_.length<=140737488355328:=ht.checks_.1
 obtain ⟨hle_k0,hj_k0⟩:=hinv
 refine LenG.of (cL (fun hlt14=>?_) (fun hge14=>?_))
 ·refine IdxG.of (by assumption) (OpG.lk (aq d8 rfl (cj (ht.checks_.2 _ (Ze _)))) ?_)
  refine ArgG.mk (Mt w hw t.checks_[k0] (ht.checks_.2 _ (Ze _)) (Yo (P0 hrf) hto.lk (hto.ck _ (Ze _)) (ht.checks_.2 _ (Ze _)))) (show ay [.agg (rwA t.checks_[k0]),.tree 3 (w.map gvA)]=true by simp [ay,AV.pureB,cm (ht.checks_.2 _ (Ze _))]) ?_
  rintro _ rfl
  refine cB (fun hc24=>?_) (fun hc24=>?_)
  ·have hq24:((cS (a8 w) t.checks_[k0]):Int)=(0:Int):=by simpa using hc24
   exact rV Tryz.results12 rfl ⟨_,rfl,fun h=>absurd h Bool.false_ne_true,fun h=>absurd (by simpa using hc24) (h.2 _ (Ze hlt14))⟩
  have hq24:¬ (((cS (a8 w) t.checks_[k0]):Int)=(0:Int)):=by simpa using hc24
  refine ⟨by omega,⟨(k0+1),by omega,(cO (.cons rfl rfl (.cons rfl rfl (.cons rfl rfl .nil))) (.cons rfl rfl rfl .nil)),?_⟩⟩
  refine ⟨by omega,fun j hl h=>?_⟩
  rcases Nat.lt_succ_iff_lt_or_eq.1 h with h | rfl
  ·exact hj_k0 j hl h
  simpa using hc24
 exact rV Tryz.results12 rfl ⟨_,rfl,fun _=>⟨hrf,fun e he=>by obtain ⟨j,hj,rfl⟩:=List.getElem_of_mem he; exact hj_k0 j hj (by omega)⟩,fun _=>rfl⟩
theorem Cu:RowF (fun l:List ByteArray=>[AV.tree 1 (l.map sA)]) 1:=⟨fun _=>rfl,fun _=>rfl,fun _ _=>rfl,fun _ _=>rfl,fun _ _=>rfl,fun _=>rfl⟩
theorem sh:RowF Tn 3:=⟨fun _=>rfl,fun _=>rfl,fun _ _=>rfl,fun _ _=>rfl,fun _ _=>rfl,fun _=>rfl⟩
/-- All numbers of a schema exist. -/
structure ForOk (s:List GTab) (n:Nat) (t:GTab) (f:GFor):Prop where
 cols:∀ x∈f.columns_,0<=x/\x < t.columns_.length
 tab:∃ j q:Nat,f.table_=((j:Nat):Int)/\f.key_=((q:Nat):Int)/\j<=n/\∃ h:j < s.length,q < s[j].keys_.length
structure TabV (s:List GTab) (n:Nat) (t:GTab):Prop where
 keys:∀ k∈t.keys_,∀ x∈k,0<=x/\x < t.columns_.length
 fors:∀ f∈t.foreign_,ForOk s n t f
def Su (s:List GTab):Prop:=∀ n (h:n < s.length),TabV s n s[n]
/-- The definition of a table. -/
structure DefOk (x:GSta):Prop where
 cl:x.create_.columns_.length<=20
 kl:x.create_.keys_.length<=10
 fl:x.create_.foreign_.length<=10
 key:∀ k∈x.create_.keys_,k.length<=20
 fcl:∀ f∈x.create_.foreign_,f.columns_.length<=20/\f.target_.length<=20
/-- The definition of a foreign key. -/
structure ForD (s:List GTab) (t:GTab) (f:GFor) (r:GRef):Prop where
 len:r.columns_.length=f.columns_.length
 nam:Gb t.columns_ f.columns_ r.columns_
 tab:∃ j q:Nat,f.table_=((j:Nat):Int)/\f.key_=((q:Nat):Int)/\∃ hj:j < s.length,∃ hq:q < s[j].keys_.length,r.table_=s[j].name_/\r.target_.length=s[j].keys_[q].length/\Gb s[j].columns_ s[j].keys_[q] r.target_
def Na (s:List GTab) (t:GTab) (L:List GRef):Prop:=∀ j (h:j < L.length) (h2:j < t.foreign_.length),ForD s t t.foreign_[j] L[j]
theorem Na.snoc {s:List GTab} {t:GTab} {L:List GRef} {r:GRef} {k:Nat} (h:Na s t L) (e:L.length=k) (hk:k < t.foreign_.length) (hr:ForD s t t.foreign_[k] r):Na s t (L++[r]):=by
 intro j hj h2
 by_cases c:j < L.length
 ·rw [List.getElem_append_left c]; exact h j c h2
 have e2:j=k:=by simp at hj; omega
 subst e2
 rw [List.getElem_append_right (by omega)]
 simpa [e] using hr
/-- The definition of a table of a schema. -/
structure DefS (s:List GTab) (t:GTab) (x:GSta):Prop where
 name:x.table_=t.name_
 cols:x.create_.columns_=t.columns_
 keys:x.create_.keys_.map List.length=t.keys_.map List.length
 fl:x.create_.foreign_.length=t.foreign_.length
 fors:Na s t x.create_.foreign_
theorem Yu:(Tryz.prog.info? 179).map (·.bytes)=some 24:=by kernel_rfl
theorem Yt:(Tryz.prog.info? 181).map (·.bytes)=some 64:=by kernel_rfl
theorem Xd:el Tryz.prog 50=some (some 22):=by kernel_rfl
theorem W2:aa Tryz.prog 179=some 1:=by kernel_rfl
theorem W1:aa Tryz.prog 181=some 3:=by kernel_rfl
theorem sy:aa Tryz.prog 35=some 5:=by kernel_rfl
theorem Wa:aa Tryz.prog 51=some 1:=by kernel_rfl
theorem Wm:ax Tryz.prog 179=some (.slice none 0 0):=by kernel_rfl
theorem Wl:ax Tryz.prog 181=some (.agg #[.slice none 0 0,.string ⟨#[]⟩,.slice none 0 0]):=by kernel_rfl
theorem Ac (s:List GTab) (hs:bw s (fun y=>FitTab y)) (n:Nat) (hn:n < s.length) (hv:Su s) (hsm:∀ t∈s,SmTab t):PRet Tryz.prog 46 [.tree 5 (s.map ef),.v (.int .i64 ((n:Nat):Int))] (fun r=>∃ x:GSta,r=.agg (F5 x)/\FitSta x/\DefOk x/\DefS s s[n] x):=by
 have hsn:=hs.2 _ (Ze hn)
 have hmn:=hsm _ (Ze hn)
 have hm1:=hmn.cols
 have hm2:=hmn.keys
 have hm3:=hmn.fors
 refine PRet.of_vc ao [62,78] [8,14] Tryz.func46 rfl Tryz.ntmps46 rfl (by kernel_rfl) ?_
 refine IdxG.of (by assumption) ⟨by kernel_rfl,LpG.via (fun _ h=>g7 2 3 1 rfl rfl rfl rfl rfl 4 rfl h) ?_⟩
 refine LpG.on (fun k0:KL (List ByteArray)=>(⟨fL [(0,.tree 5 (s.map ef)),(4,.ptr 0 0 0),(5,.ptr 1 0 0),(6,.ptr 2 0 0),(7,.v (.int .i64 ((k0.k:Nat):Int)))],bl [(0,⟨0,[.v (.int .i64 0),.v (.string ⟨#[]⟩),.v (.slice none 0 0),.v (.slice none 0 0),.v (.slice none 0 0),.v (.slice none 0 0),.v (.slice none 0 0),.v (.slice none 0 0),.v (.slice none 0 0),.v (.slice none 0 0),.v (.int .i64 0),.v (.string ⟨#[]⟩),.v (.string ⟨#[]⟩),.v (.int .i64 0),.v (.int .i64 0),.v (.int .i64 0),.v (.string ⟨#[]⟩),.v (.slice none 0 0),.v (.slice none 0 0),.v (.slice none 0 0),.v (.int .i64 0),.v (.string ⟨#[]⟩)],0,false⟩),(1,⟨0,ef s[n],0,false⟩),(2,⟨0,[.v (.int .i64 1),.v (.string s[n].name_),.tree 6 (s[n].columns_.map us),.sl 3 k0.L.length 0 k0.L.length,.v (.slice none 0 0),.tree 8 (s[n].checks_.map rwA),.v (.slice none 0 0),.v (.slice none 0 0),.v (.slice none 0 0),.v (.slice none 0 0),.v (.int .i64 0),.v (.string ⟨#[]⟩),.v (.string ⟨#[]⟩),.v (.int .i64 0),.v (.int .i64 0),.v (.int .i64 0),.v (.string ⟨#[]⟩),.v (.slice none 0 0),.v (.slice none 0 0),.v (.slice none 0 0),.v (.int .i64 0),.v (.string ⟨#[]⟩)],0,false⟩),(3,⟨k0.L.length,rF (fun l=>[.tree 1 (l.map sA)]) k0.L,1,Nat.beq k0.L.length 0⟩)],4⟩:St)) (fun k0=>(s[n].keys_.length - k0.k)) (fun k0=>(k0.k<=s[n].keys_.length/\(k0.L.length=k0.k/\(∀ y∈k0.L,bw y (fun z=>lw z)/\y.length<=20)/\k0.L.map List.length=(s[n].keys_.take k0.k).map List.length))) (⟨0,[]⟩:KL (List ByteArray)) (cO (.cons rfl rfl (.cons rfl rfl (.cons rfl rfl (.cons rfl rfl (.cons rfl rfl .nil))))) (.cons rfl rfl rfl (.cons rfl rfl rfl (.cons (by rfl) rfl rfl (.cons (by rfl) rfl (ag Cu _ _) .nil))))) ⟨Nat.zero_le _,⟨rfl,fun y hy=>absurd hy (by simp),rfl⟩⟩ ?_
 rintro k0 hinv
 have hgr_k0:s[n].keys_.length<=140737488355328:=(hs.2 _ (Ze _)).keys_.1
 obtain ⟨hle_k0,hi_k0⟩:=hinv
 refine LenG.of (cL (fun hlt30=>?_) (fun hge30=>?_))
 ·have hin:=(hv n hn).keys _ (Ze hlt30)
  have hkl:=hi_k0.1
  have hk20:=hmn.key _ (Ze hlt30)
  refine IdxG.of (by assumption) (ArgG.mk (Bb (s[n]) (hs.2 _ (Ze _)) (s[n].keys_[k0.k]) ((hs.2 _ (Ze _)).keys_.2 _ (Ze _)) (by assumption) (by omega)) rfl ?_)
  rintro _ ⟨L0,rfl,hL0,hLf0,hLn0⟩
  refine OpG.mk _ _ _ 5 (aj Cu (a:=L0) Tryz.underlying36 W2 Wm Yu rfl rfl rfl (az rfl rfl rfl rfl) rfl (by omega) (by omega) (by unfold TV; omega)) rfl rfl ?_
  refine ⟨by kernel_rfl,?_⟩
  refine ⟨by omega,?_⟩
  refine ⟨(⟨k0.k+1,k0.L++[L0]⟩:KL (List ByteArray)),(by show s[n].keys_.length - (k0.k+1) < s[n].keys_.length - k0.k; omega),(cO (.cons rfl rfl (.cons rfl rfl (.cons rfl rfl (.cons rfl rfl (.cons rfl rfl .nil))))) (.cons rfl rfl rfl (.cons rfl rfl rfl (.cons (by (rw [Zi]; rfl)) rfl rfl (.cons (by (rw [Zi]; rfl)) rfl (ag Cu _ _) .nil))))),?_⟩
  refine ⟨by show k0.k+1<=_; omega,?_⟩
  exact ⟨by show (_++[_]).length=k0.k+1; rw [Zi,hi_k0.1]; rfl,fa hi_k0.2.1 ⟨hLf0,by omega⟩,by show (_++[_]).map _=_; rw [List.take_succ_eq_append_getElem hlt30,List.map_append,List.map_append,hi_k0.2.2]; simp [hL0]⟩
 refine RegG.via (fun _ h=>gg [3] 2 0 0 [.v (.int .i64 1),.v (.string s[n].name_),.tree 6 (s[n].columns_.map us),.sl 3 k0.L.length 0 k0.L.length,.v (.slice none 0 0),.tree 8 (s[n].checks_.map rwA),.v (.slice none 0 0),.v (.slice none 0 0),.v (.slice none 0 0),.v (.slice none 0 0),.v (.int .i64 0),.v (.string ⟨#[]⟩),.v (.string ⟨#[]⟩),.v (.int .i64 0),.v (.int .i64 0),.v (.int .i64 0),.v (.string ⟨#[]⟩),.v (.slice none 0 0),.v (.slice none 0 0),.v (.slice none 0 0),.v (.int .i64 0),.v (.string ⟨#[]⟩)] [.v (.int .i64 1),.v (.string s[n].name_),.tree 6 (s[n].columns_.map us),.tree 1 (k0.L.map (fun l=>[.tree 1 (l.map sA)])),.v (.slice none 0 0),.tree 8 (s[n].checks_.map rwA),.v (.slice none 0 0),.v (.slice none 0 0),.v (.slice none 0 0),.v (.slice none 0 0),.v (.int .i64 0),.v (.string ⟨#[]⟩),.v (.string ⟨#[]⟩),.v (.int .i64 0),.v (.int .i64 0),.v (.int .i64 0),.v (.string ⟨#[]⟩),.v (.slice none 0 0),.v (.slice none 0 0),.v (.slice none 0 0),.v (.int .i64 0),.v (.string ⟨#[]⟩)] rfl rfl (.keep (.keep (.keep (.fz (FzP.rows Cu (Zj.2 rfl) rfl) (.same _))))) rfl h) ?_
 refine cr ?_
 refine LpG.via (fun _ h=>g7 2 4 3 rfl rfl rfl rfl rfl 5 rfl h) ?_
 refine LpG.on (fun k2:KL GRef=>(⟨fL [(0,.tree 5 (s.map ef)),(4,.ptr 0 0 0),(5,.ptr 1 0 0),(6,.ptr 2 0 0),(8,.v (.int .i64 ((k2.k:Nat):Int)))],bl [(0,⟨0,[.v (.int .i64 0),.v (.string ⟨#[]⟩),.v (.slice none 0 0),.v (.slice none 0 0),.v (.slice none 0 0),.v (.slice none 0 0),.v (.slice none 0 0),.v (.slice none 0 0),.v (.slice none 0 0),.v (.slice none 0 0),.v (.int .i64 0),.v (.string ⟨#[]⟩),.v (.string ⟨#[]⟩),.v (.int .i64 0),.v (.int .i64 0),.v (.int .i64 0),.v (.string ⟨#[]⟩),.v (.slice none 0 0),.v (.slice none 0 0),.v (.slice none 0 0),.v (.int .i64 0),.v (.string ⟨#[]⟩)],0,false⟩),(1,⟨0,ef s[n],0,false⟩),(2,⟨0,[.v (.int .i64 1),.v (.string s[n].name_),.tree 6 (s[n].columns_.map us),.tree 1 (k0.L.map (fun l=>[.tree 1 (l.map sA)])),.sl 4 k2.L.length 0 k2.L.length,.tree 8 (s[n].checks_.map rwA),.v (.slice none 0 0),.v (.slice none 0 0),.v (.slice none 0 0),.v (.slice none 0 0),.v (.int .i64 0),.v (.string ⟨#[]⟩),.v (.string ⟨#[]⟩),.v (.int .i64 0),.v (.int .i64 0),.v (.int .i64 0),.v (.string ⟨#[]⟩),.v (.slice none 0 0),.v (.slice none 0 0),.v (.slice none 0 0),.v (.int .i64 0),.v (.string ⟨#[]⟩)],0,false⟩),(4,⟨k2.L.length,rF Tn k2.L,3,Nat.beq k2.L.length 0⟩)],5⟩:St)) (fun k2=>(s[n].foreign_.length - k2.k)) (fun k2=>(k2.k<=s[n].foreign_.length/\(k2.L.length=k2.k/\(∀ y∈k2.L,FitRef y/\y.columns_.length<=20/\y.target_.length<=20)/\Na s s[n] k2.L))) (⟨0,[]⟩:KL GRef) (cO (.cons rfl rfl (.cons rfl rfl (.cons rfl rfl (.cons rfl rfl (.cons rfl rfl .nil))))) (.cons rfl rfl rfl (.cons rfl rfl rfl (.cons (by rfl) rfl rfl (.cons (by rfl) rfl (ag sh _ _) .nil))))) ⟨Nat.zero_le _,⟨rfl,fun y hy=>absurd hy (by simp),fun j h=>absurd h (Nat.not_lt_zero j)⟩⟩ ?_
 rintro k2 hinv
 have hgr_k2:s[n].foreign_.length<=140737488355328:=(hs.2 _ (Ze _)).foreign_.1
 obtain ⟨hle_k2,hi_k2⟩:=hinv
 refine LenG.of (cL (fun hlt51=>?_) (fun hge51=>?_))
 ·obtain ⟨j1,q1,hj1,hq1,hjn,hjs,hqs⟩:=((hv n hn).fors _ (Ze hlt51)).tab
  have hfl:=hi_k2.1
  have hin1:=((hv n hn).fors _ (Ze hlt51)).cols
  have hin2:=(hv j1 hjs).keys _ (Ze hqs)
  have hf20:=hmn.fcol _ (Ze hlt51)
  have hk20:=(hsm _ (Ze hjs)).key _ (Ze hqs)
  refine IdxG.of (by assumption) (OpG.lk (ah Tryz.underlying23 sy rfl rfl hj1 hjs) ?_)
  refine ArgG.mk (Bb (s[n]) (hs.2 _ (Ze _)) (s[n].foreign_[k2.k].columns_) ((hs.2 _ (Ze _)).foreign_.2 _ (Ze _)).columns_ (by assumption) (by omega)) rfl ?_
  rintro _ ⟨L1,rfl,hL1,hLf1,hLn1⟩
  refine OpG.lk (ah Tryz.underlying31 Wa rfl rfl hq1 hqs) ?_
  refine ArgG.mk (Bb (s[j1]) (hs.2 _ (Ze _)) (s[j1].keys_[q1]) ((hs.2 _ (Ze _)).keys_.2 _ (Ze _)) (by assumption) (by omega)) rfl ?_
  rintro _ ⟨L2,rfl,hL2,hLf2,hLn2⟩
  refine OpG.mk _ _ _ 8 (aj sh (a:=(⟨L1,s[j1].name_,L2⟩:GRef)) Tryz.underlying37 W1 Wl Yt rfl rfl rfl (az rfl rfl rfl rfl) rfl (by omega) (by omega) (by unfold TV; omega)) rfl rfl ?_
  refine ⟨by kernel_rfl,?_⟩
  refine ⟨by omega,?_⟩
  refine ⟨(⟨k2.k+1,k2.L++[(⟨L1,s[j1].name_,L2⟩:GRef)]⟩:KL GRef),(by show s[n].foreign_.length - (k2.k+1) < s[n].foreign_.length - k2.k; omega),(cO (.cons rfl rfl (.cons rfl rfl (.cons rfl rfl (.cons rfl rfl (.cons rfl rfl .nil))))) (.cons rfl rfl rfl (.cons rfl rfl rfl (.cons (by (rw [Zi]; rfl)) rfl rfl (.cons (by (rw [Zi]; rfl)) rfl (ag sh _ _) .nil))))),?_⟩
  refine ⟨by show k2.k+1<=_; omega,?_⟩
  exact ⟨by show (_++[_]).length=k2.k+1; rw [Zi,hi_k2.1]; rfl,fa hi_k2.2.1 ⟨⟨hLf1,(hs.2 _ (Ze hjs)).name_,hLf2⟩,by show L1.length<=20; omega,by show L2.length<=20; omega⟩,hi_k2.2.2.snoc hi_k2.1 hlt51 ⟨hL1,hLn1,j1,q1,hj1,hq1,hjs,hqs,rfl,hL2,hLn2⟩⟩
 refine RegG.via (fun _ h=>gg [4] 2 0 0 [.v (.int .i64 1),.v (.string s[n].name_),.tree 6 (s[n].columns_.map us),.tree 1 (k0.L.map (fun l=>[.tree 1 (l.map sA)])),.sl 4 k2.L.length 0 k2.L.length,.tree 8 (s[n].checks_.map rwA),.v (.slice none 0 0),.v (.slice none 0 0),.v (.slice none 0 0),.v (.slice none 0 0),.v (.int .i64 0),.v (.string ⟨#[]⟩),.v (.string ⟨#[]⟩),.v (.int .i64 0),.v (.int .i64 0),.v (.int .i64 0),.v (.string ⟨#[]⟩),.v (.slice none 0 0),.v (.slice none 0 0),.v (.slice none 0 0),.v (.int .i64 0),.v (.string ⟨#[]⟩)] [.v (.int .i64 1),.v (.string s[n].name_),.tree 6 (s[n].columns_.map us),.tree 1 (k0.L.map (fun l=>[.tree 1 (l.map sA)])),.tree 3 (k2.L.map Tn),.tree 8 (s[n].checks_.map rwA),.v (.slice none 0 0),.v (.slice none 0 0),.v (.slice none 0 0),.v (.slice none 0 0),.v (.int .i64 0),.v (.string ⟨#[]⟩),.v (.string ⟨#[]⟩),.v (.int .i64 0),.v (.int .i64 0),.v (.int .i64 0),.v (.string ⟨#[]⟩),.v (.slice none 0 0),.v (.slice none 0 0),.v (.slice none 0 0),.v (.int .i64 0),.v (.string ⟨#[]⟩)] rfl rfl (.keep (.keep (.keep (.keep (.fz (FzP.rows sh (Zj.2 rfl) rfl) (.same _)))))) rfl h) ?_
 refine cr ?_
 refine ⟨.inr rfl,_,Kh.cell Tryz.results46 Xd rfl rfl rfl rfl rfl ⟨[],FzP.pure rfl⟩,?_⟩
 have g1:=hi_k0.1
 have g2:=hi_k2.1
 exact ⟨⟨1,s[n].name_,⟨s[n].columns_,k0.L,k2.L,s[n].checks_⟩⟩,rfl,⟨hsn.name_,⟨hsn.columns_,⟨by show k0.L.length<=_; omega,fun y hy=>(hi_k0.2.1 y hy).1⟩,⟨by show k2.L.length<=_; omega,fun y hy=>(hi_k2.2.1 y hy).1⟩,hsn.checks_⟩⟩,⟨hm1,by show k0.L.length<=10; omega,by show k2.L.length<=10; omega,fun k hk=>(hi_k0.2.1 k hk).2,fun f hf=>(hi_k2.2.1 f hf).2⟩,⟨rfl,rfl,by have e:=hi_k0.2.2; rwa [List.take_of_length_le (by omega)] at e,by show k2.L.length=_; omega,hi_k2.2.2⟩⟩
theorem cv:RowF ef 5:=⟨fun _=>rfl,fun _=>rfl,fun _ _=>rfl,fun _ _=>rfl,fun _ _=>rfl,fun _=>rfl⟩
theorem ij:RowF Mh 3:=⟨fun _=>rfl,fun _=>rfl,fun _ _=>rfl,fun _ _=>rfl,fun _ _=>rfl,fun _=>rfl⟩
theorem Cv:RowF (fun l:List Int=>[AV.tree 1 (l.map iA)]) 1:=⟨fun _=>rfl,fun _=>rfl,fun _ _=>rfl,fun _ _=>rfl,fun _ _=>rfl,fun _=>rfl⟩
structure KFE where
 k:Nat
 L:List GFor
 e:Int
abbrev Tf (S:List GTab):Blk:=⟨S.length,rF ef S,5,Nat.beq S.length 0⟩
/-- A foreign key of a definition refers to columns of the same types; S: the tables ahead. -/
def FkT (S:List GTab) (x:GSta) (f:GRef):Prop:=∃ (uc:List GCol),((f.table_=x.table_/\uc=x.create_.columns_)\/∃ u∈S,u.name_=f.table_/\u.columns_=uc)/\∃ L1 L3:List Int,L1.length=f.columns_.length/\Gb x.create_.columns_ L1 f.columns_/\Gb uc L3 f.target_/\L3.length=f.target_.length/\Wi x.create_.columns_ uc L1 L3
theorem Ix {S:List GTab} {x:GSta} {k:Nat} {e e':Int} (hi:e=0->∀ j (hl:j < x.create_.foreign_.length),j < k->FkT S x x.create_.foreign_[j]) (h:e'=0->e=0/\∀ hk:k < x.create_.foreign_.length,FkT S x x.create_.foreign_[k]):e'=0->∀ j (hl:j < x.create_.foreign_.length),j < k+1->FkT S x x.create_.foreign_[j]:=fun he j hl hj=>by
 rcases Nat.lt_succ_iff_lt_or_eq.1 hj with hj | rfl
 ·exact hi (h he).1 j hl hj
 exact (h he).2 hl
theorem Ye {S:List GTab} {x:GSta} {f:GRef} {all:List GTab} {T0:GTab} {j:Nat} {L1 L3:List Int} (hae:all=[]++S++[T0]) (h0:T0.name_=x.table_) (h1:T0.columns_=x.create_.columns_) (hj:j < all.length) (hn:all[j].name_=f.table_) (l1:L1.length=f.columns_.length) (n1:Gb x.create_.columns_ L1 f.columns_) (n3:Gb all[j].columns_ L3 f.target_) (l3:L3.length=f.target_.length) (ht:Wi x.create_.columns_ all[j].columns_ L1 L3):FkT S x f:=by
 refine ⟨all[j].columns_,?_,L1,L3,l1,n1,n3,l3,ht⟩
 have hm:all[j]∈[]++S++[T0]:=hae ▸ Ze hj
 rw [List.nil_append] at hm
 rcases Zk.1 hm with hm | hm
 ·exact .inr ⟨_,hm,hn,rfl⟩
 have e:=Zj.1 hm
 exact .inl ⟨by rw [<- hn,e,h0],by rw [e,h1]⟩
theorem Ou:co Tryz.prog 130=true:=by kernel_rfl
theorem Vm:co Tryz.prog 132=true:=by kernel_rfl
theorem Vf:(Tryz.prog.info? 111).map (·.bytes)=some 40:=by kernel_rfl
theorem Yr:(Tryz.prog.info? 35).map (·.bytes)=some 112:=by kernel_rfl
theorem by51:(Tryz.prog.info? 51).map (·.bytes)=some 24:=by kernel_rfl
theorem A3:el Tryz.prog 35=some (some 5):=by kernel_rfl
theorem Kw:aa Tryz.prog 111=some 3:=by kernel_rfl
theorem Sz:ax Tryz.prog 111=some (.agg #[.slice none 0 0,.int .i64 0,.int .i64 0]):=by kernel_rfl
theorem Wj:ax Tryz.prog 35=some (.agg #[.string ⟨#[]⟩,.slice none 0 0,.slice none 0 0,.slice none 0 0,.slice none 0 0]):=by kernel_rfl
theorem zr51:ax Tryz.prog 51=some (.slice none 0 0):=by kernel_rfl
theorem Pj (x:GSta) (hx:FitSta x) (S:List GTab) (hS:bw S (fun y=>FitTab y)) (hS2:S.length<=8) (hd:DefOk x) (hfl:∀ f∈x.create_.foreign_,f.columns_.length=f.target_.length):Sw Tryz.prog 86 [.sl TOP S.length 0 S.length,.agg (F5 x)] [(TOP,Tf S)] [(TOP,some (Tf S))] (fun r=>∃ (t:GTab) (e:Int),r=.tup [.agg (ef t),.v (.int .i64 e)]/\FitTab t/\(e=0->t.name_=x.table_/\t.columns_=x.create_.columns_/\∀ f∈x.create_.foreign_,FkT S x f)):=by
 have hd1:=hd.kl
 have hd2:=hd.fl
 refine Sw.of_vc ao [47,61,62,64,83,144] [9,10,33] Tryz.func86 rfl Tryz.ntmps86 rfl (by kernel_rfl) (LpG.via (fun _ h=>g7 2 2 1 rfl rfl rfl rfl rfl 4 rfl h) ?_)
 refine LpG.on (fun k0:KL (List Int)=>(⟨fL [(0,.sl TOP S.length 0 S.length),(3,.ptr 0 0 0),(4,.ptr 1 0 0),(6,.ptr 2 0 0),(7,.v (.int .i64 ((k0.k:Nat):Int)))],bl [(0,⟨0,F5 x,0,false⟩),(1,⟨0,[.v (.string ⟨#[]⟩),.v (.slice none 0 0),.v (.slice none 0 0),.v (.slice none 0 0),.v (.slice none 0 0)],0,false⟩),(2,⟨0,[.v (.string x.table_),.tree 6 (x.create_.columns_.map us),.sl 3 k0.L.length 0 k0.L.length,.v (.slice none 0 0),.tree 8 (x.create_.checks_.map rwA)],0,false⟩),(3,⟨k0.L.length,rF (fun l=>[.tree 1 (l.map iA)]) k0.L,1,Nat.beq k0.L.length 0⟩),(1000000,Tf S)],4⟩:St)) (fun k0=>(x.create_.keys_.length - k0.k)) (fun k0=>(k0.k<=x.create_.keys_.length/\(k0.L.length=k0.k/\∀ y∈k0.L,bw y (fun _=>True)))) (⟨0,[]⟩:KL (List Int)) (cO (.cons rfl rfl (.cons rfl rfl (.cons rfl rfl (.cons rfl rfl (.cons rfl rfl .nil))))) (.cons rfl rfl rfl (.cons rfl rfl rfl (.cons (by rfl) rfl rfl (.cons (by rfl) rfl (ag Cv _ _) (.cons rfl rfl (ag cv _ _) .nil)))))) ⟨Nat.zero_le _,⟨rfl,fun y hy=>absurd hy (by simp)⟩⟩ ?_
 rintro k0 hinv
 have hgr_k0:x.create_.keys_.length<=140737488355328:=hx.create_.keys_.1
 obtain ⟨hle_k0,hi_k0⟩:=hinv
 refine LenG.of (cL (fun hlt36=>?_) (fun hge36=>?_))
 ·have hkl:=hi_k0.1
  have hk20:=hd.key _ (Ze hlt36)
  refine IdxG.of (by assumption) ?_
  obtain ⟨_,⟨L0,b0,rfl,hLf0,hL0,hLn0⟩,hcl0⟩:=qp ⟨x.table_,x.create_.columns_⟩ ⟨hx.table_,hx.create_.columns_⟩ x.create_.keys_[k0.k] (hx.create_.keys_.2 _ (Ze hlt36)) (by omega)
  refine OpG.lk (qc Ou (.cons (FzP.aggL (.cons (.pure rfl) (.cons (.pure rfl) (.cons .unk (.cons .unk (.cons .unk .nil)))))) (.cons (.pure rfl) .nil)) hcl0) ⟨by kernel_rfl,cB (fun hc51=>?_) (fun hc51=>?_)⟩
  ·exact ⟨.inr rfl,_,M7.of [] (fw Tryz.results86 (.cons (V5.cellN A3 rfl rfl trivial rfl rfl rfl) (.cons (V5.tmp rfl) .nil))) rfl ⟨.same rfl (by decide),trivial⟩ (.tup (.fz (FzP.aggL (.cons (.pure rfl) (.cons (FzP.nil (n:=6)) (.cons (FzP.nil (n:=1)) (.cons (FzP.nil (n:=3)) (.cons (FzP.nil (n:=8)) .nil)))))) (.same .nil))),⟨⟨⟨#[]⟩,[],[],[],[]⟩,_,rfl,⟨Nat.zero_le _,⟨Nat.zero_le _,by simp⟩,⟨Nat.zero_le _,by simp⟩,⟨Nat.zero_le _,by simp⟩,⟨Nat.zero_le _,by simp⟩⟩,by exact fun h=>absurd h (by decide)⟩⟩
  refine OpG.mk _ _ _ 5 (aj Cv (a:=L0) Tryz.underlying31 Wa zr51 by51 rfl rfl rfl (az rfl rfl rfl rfl) rfl (by omega) (by omega) (by unfold TV; omega)) rfl rfl ⟨by omega,⟨(⟨k0.k+1,k0.L++[L0]⟩:KL (List Int)),(by show x.create_.keys_.length - (k0.k+1) < x.create_.keys_.length - k0.k; omega),(cO (.cons rfl rfl (.cons rfl rfl (.cons rfl rfl (.cons rfl rfl (.cons rfl rfl .nil))))) (.cons rfl rfl rfl (.cons rfl rfl rfl (.cons (by (rw [Zi]; rfl)) rfl rfl (.cons (by (rw [Zi]; rfl)) rfl (ag Cv _ _) (.cons rfl rfl (ag cv _ _) .nil)))))),?_⟩⟩
  exact ⟨by show k0.k+1<=_; omega,⟨by show (_++[_]).length=k0.k+1; rw [Zi,hi_k0.1]; rfl,fa hi_k0.2 hLf0⟩⟩
 refine RegG.via (fun _ h=>gg [3] 2 0 0 [.v (.string x.table_),.tree 6 (x.create_.columns_.map us),.sl 3 k0.L.length 0 k0.L.length,.v (.slice none 0 0),.tree 8 (x.create_.checks_.map rwA)] [.v (.string x.table_),.tree 6 (x.create_.columns_.map us),.tree 1 (k0.L.map (fun l=>[.tree 1 (l.map iA)])),.v (.slice none 0 0),.tree 8 (x.create_.checks_.map rwA)] rfl rfl (.keep (.keep (.fz (FzP.rows Cv (Zj.2 rfl) rfl) (.same _)))) rfl h) (cr ?_)
 refine OpG.nw (mz 4 Tryz.underlying23 sy) rfl (OpG.mk _ _ _ 5 (rx cv (l:=[]) (l':=S) Tryz.underlying23 sy Wj Yr rfl rfl rfl rfl rfl (by simp only [List.length_nil]; omega) (by simp only [List.length_nil]; omega) (by unfold TV; omega)) rfl rfl ?_)
 refine OpG.lk (J5 (q9 A3 rfl rfl rfl rfl rfl) (fun _=>FzP.aggL (.cons (.pure rfl) (.cons (.pure rfl) (.cons (.pure rfl) (.cons (FzP.nil (n:=3)) (.cons (.pure rfl) .nil))))))) (OpG.mk _ _ _ 6 (Ca cv (l:=[]++S) (a:=(⟨x.table_,x.create_.columns_,k0.L,[],x.create_.checks_⟩:GTab)) Tryz.underlying23 sy Wj Yr rfl rfl rfl (az rfl rfl rfl rfl) rfl (by simp only [List.nil_append]; omega) (by simp only [List.nil_append]; omega) (by unfold TV; omega)) rfl rfl ?_)
 refine ⟨by kernel_rfl,?_⟩
 obtain ⟨all,hae⟩:∃ all:List GTab,all=[]++S++[(⟨x.table_,x.create_.columns_,k0.L,[],x.create_.checks_⟩:GTab)]:=⟨_,rfl⟩
 have hkl:=hi_k0.1
 have hall:bw all (fun y=>FitTab y):=by subst hae; exact ⟨by simp; omega,fa hS.2 ⟨hx.table_,hx.create_.columns_,⟨by show k0.L.length<=_; omega,fun y hy=>hi_k0.2 y hy⟩,⟨Nat.zero_le _,by simp⟩,hx.create_.checks_⟩⟩
 refine RegG.via (fun _ h=>fg [4] 10 (.tree 5 (all.map ef)) (by rw [hae]; exact kq cv (Zj.2 rfl) rfl) rfl h) (cr ?_)
 refine LpG.via (fun _ h=>g7 2 3 3 rfl rfl rfl rfl rfl 7 rfl h) (LpG.on (fun k2:KFE=>(⟨fL [(3,.ptr 0 0 0),(4,.ptr 1 0 0),(6,.ptr 2 0 0),(10,.tree 5 (all.map ef)),(11,.v (.int .i64 k2.e)),(12,.v (.int .i64 ((k2.k:Nat):Int)))],bl [(0,⟨0,F5 x,0,false⟩),(1,⟨0,[.v (.string ⟨#[]⟩),.v (.slice none 0 0),.v (.slice none 0 0),.v (.slice none 0 0),.v (.slice none 0 0)],0,false⟩),(2,⟨0,[.v (.string x.table_),.tree 6 (x.create_.columns_.map us),.tree 1 (k0.L.map (fun l=>[.tree 1 (l.map iA)])),.sl 6 k2.L.length 0 k2.L.length,.tree 8 (x.create_.checks_.map rwA)],0,false⟩),(6,⟨k2.L.length,rF Mh k2.L,3,Nat.beq k2.L.length 0⟩),(1000000,Tf S)],7⟩:St)) (fun k2=>(x.create_.foreign_.length - k2.k)) (fun k2=>(k2.k<=x.create_.foreign_.length/\(k2.L.length=k2.k/\(∀ y∈k2.L,FitFor y)/\(k2.e=0->∀ j (hl:j < x.create_.foreign_.length),j < k2.k->FkT S x x.create_.foreign_[j])))) (⟨0,[],0⟩:KFE) (cO (.cons rfl rfl (.cons rfl rfl (.cons rfl rfl (.cons rfl rfl (.cons rfl rfl (.cons rfl rfl .nil)))))) (.cons rfl rfl rfl (.cons rfl rfl rfl (.cons (by rfl) rfl rfl (.cons (by rfl) rfl (ag ij _ _) (.cons rfl rfl (ag cv _ _) .nil)))))) ⟨Nat.zero_le _,⟨rfl,fun y hy=>absurd hy (by simp),fun _ j _ h=>absurd h (Nat.not_lt_zero j)⟩⟩ ?_)
 rintro k2 hinv
 have hgr_k2:x.create_.foreign_.length<=140737488355328:=hx.create_.foreign_.1
 obtain ⟨hle_k2,hi_k2⟩:=hinv
 refine LenG.of (cL (fun hlt70=>?_) (fun hge70=>?_))
 ·have hfl2:=hi_k2.1
  have hf20:=hd.fcl _ (Ze hlt70)
  have hfe:=hfl _ (Ze hlt70)
  refine IdxG.of (by assumption) ?_
  obtain ⟨_,⟨L1,b1,rfl,hLf1,hL1,hLn1⟩,hcl1⟩:=qp ⟨x.table_,x.create_.columns_⟩ ⟨hx.table_,hx.create_.columns_⟩ x.create_.foreign_[k2.k].columns_ ((hx.create_.foreign_.2 _ (Ze hlt70)).columns_) (by omega)
  refine OpG.lk (qc Ou (.cons (FzP.aggL (.cons (.pure rfl) (.cons (.pure rfl) (.cons .unk (.cons .unk (.cons .unk .nil)))))) (.cons (.pure rfl) .nil)) hcl1) (ArgG.mk (Ds all hall (x.create_.foreign_[k2.k].table_) (hx.create_.foreign_.2 _ (Ze _)).table_) rfl ?_)
  rintro _ ⟨j2,b2,rfl,hj2,hk2⟩
  refine cB (fun hg95=>?_) (fun hg95=>?_)
  ·exact cT ⟨.inr rfl,_,M7.of [] (fw Tryz.results86 (.cons (V5.cellN A3 rfl rfl trivial rfl rfl rfl) (.cons (V5.tmp rfl) .nil))) rfl ⟨.same rfl (by decide),trivial⟩ (.tup (.fz (FzP.aggL (.cons (.pure rfl) (.cons (FzP.nil (n:=6)) (.cons (FzP.nil (n:=1)) (.cons (FzP.nil (n:=3)) (.cons (FzP.nil (n:=8)) .nil)))))) (.same .nil))),⟨⟨⟨#[]⟩,[],[],[],[]⟩,_,rfl,⟨Nat.zero_le _,⟨Nat.zero_le _,by simp⟩,⟨Nat.zero_le _,by simp⟩,⟨Nat.zero_le _,by simp⟩,⟨Nat.zero_le _,by simp⟩⟩,by exact fun h=>absurd h (by decide)⟩⟩
  refine cB (fun hc98=>?_) (fun hc98=>?_)
  ·exact ⟨.inr rfl,_,M7.of [] (fw Tryz.results86 (.cons (V5.cellN A3 rfl rfl trivial rfl rfl rfl) (.cons (V5.tmp rfl) .nil))) rfl ⟨.same rfl (by decide),trivial⟩ (.tup (.fz (FzP.aggL (.cons (.pure rfl) (.cons (FzP.nil (n:=6)) (.cons (FzP.nil (n:=1)) (.cons (FzP.nil (n:=3)) (.cons (FzP.nil (n:=8)) .nil)))))) (.same .nil))),⟨⟨⟨#[]⟩,[],[],[],[]⟩,_,rfl,⟨Nat.zero_le _,⟨Nat.zero_le _,by simp⟩,⟨Nat.zero_le _,by simp⟩,⟨Nat.zero_le _,by simp⟩,⟨Nat.zero_le _,by simp⟩⟩,by exact fun h=>absurd h (by decide)⟩⟩
  have hb1t:b1=true:=by simpa using hg95
  have hb2t:b2=true:=by simpa using hc98
  have hjl:=hj2 hb2t
  refine IdxG.of (by assumption) (ArgG.mk (Hq (all[j2]) (hall.2 _ (Ze _)) (x.create_.foreign_[k2.k].target_) (hx.create_.foreign_.2 _ (Ze _)).target_ (by omega)) rfl ?_)
  rintro _ ⟨L3,b3,rfl,hLf3,hL3,hLn3⟩
  refine ⟨by kernel_rfl,LpG.on (fun k4:KE=>(⟨fL [(3,.ptr 0 0 0),(4,.ptr 1 0 0),(6,.ptr 2 0 0),(10,.tree 5 (all.map ef)),(11,.v (.int .i64 k2.e)),(12,.v (.int .i64 ((k2.k:Nat):Int))),(14,.tree 1 (L1.map iA)),(16,.v (.int .i64 ((j2:Nat):Int))),(18,.tree 1 (L3.map iA)),(19,.v (.bool b3)),(20,.v (.int .i64 k4.e)),(21,.v (.int .i64 ((k4.k:Nat):Int)))],bl [(0,⟨0,F5 x,0,false⟩),(1,⟨0,[.v (.string ⟨#[]⟩),.v (.slice none 0 0),.v (.slice none 0 0),.v (.slice none 0 0),.v (.slice none 0 0)],0,false⟩),(2,⟨0,[.v (.string x.table_),.tree 6 (x.create_.columns_.map us),.tree 1 (k0.L.map (fun l=>[.tree 1 (l.map iA)])),.sl 6 k2.L.length 0 k2.L.length,.tree 8 (x.create_.checks_.map rwA)],0,false⟩),(6,⟨k2.L.length,rF Mh k2.L,3,Nat.beq k2.L.length 0⟩),(1000000,Tf S)],8⟩:St)) (fun k4=>(all[j2].keys_.length - k4.k)) (fun k4=>(k4.k<=all[j2].keys_.length/\(0<=k4.e->b3=true))) (⟨0,-1⟩:KE) (cO (.cons rfl rfl (.cons rfl rfl (.cons rfl rfl (.cons rfl rfl (.cons rfl rfl (.cons rfl rfl (.cons rfl rfl (.cons rfl rfl (.cons rfl rfl (.cons rfl rfl (.cons rfl rfl (.cons rfl rfl .nil)))))))))))) (.cons rfl rfl rfl (.cons rfl rfl rfl (.cons rfl rfl rfl (.cons rfl rfl (ag ij _ _) (.cons rfl rfl (ag cv _ _) .nil)))))) ⟨Nat.zero_le _,fun h=>absurd h (by decide)⟩ ?_⟩
  rintro k4 hinv
  have hgr_k4:all[j2].keys_.length<=140737488355328:=(hall.2 _ (Ze _)).keys_.1
  obtain ⟨hle_k4,hi_k4⟩:=hinv
  refine IdxG.of (by assumption) (LenG.of ?_)
  refine cL (fun hlt117=>?_) (fun hge117=>?_)
  ·refine cB (fun hg121=>?_) (fun hg121=>?_)
   ·refine IdxG.of (by assumption) (IdxG.of (by assumption) ?_)
    refine ArgG.mk (Uf (all[j2].keys_[k4.k]) ((hall.2 _ (Ze _)).keys_.2 _ (Ze _)) L3 hLf3) rfl ?_
    rintro _ ⟨b4,rfl⟩
    refine cB (fun hc132=>?_) (fun hc132=>?_)
    ·refine ⟨by omega,⟨(⟨k4.k+1,_⟩:KE),(by show all[j2].keys_.length - (k4.k+1) < all[j2].keys_.length - k4.k; omega),(cO (.cons rfl rfl (.cons rfl rfl (.cons rfl rfl (.cons rfl rfl (.cons rfl rfl (.cons rfl rfl (.cons rfl rfl (.cons rfl rfl (.cons rfl rfl (.cons rfl rfl (.cons rfl rfl (.cons rfl rfl .nil)))))))))))) (.cons rfl rfl rfl (.cons rfl rfl rfl (.cons rfl rfl rfl (.cons rfl rfl (ag ij _ _) (.cons rfl rfl (ag cv _ _) .nil)))))),?_⟩⟩
     refine ⟨by show k4.k+1<=_; omega,?_⟩
     exact fun _=>hg121
    refine ⟨by omega,⟨(⟨k4.k+1,_⟩:KE),(by show all[j2].keys_.length - (k4.k+1) < all[j2].keys_.length - k4.k; omega),(cO (.cons rfl rfl (.cons rfl rfl (.cons rfl rfl (.cons rfl rfl (.cons rfl rfl (.cons rfl rfl (.cons rfl rfl (.cons rfl rfl (.cons rfl rfl (.cons rfl rfl (.cons rfl rfl (.cons rfl rfl .nil)))))))))))) (.cons rfl rfl rfl (.cons rfl rfl rfl (.cons rfl rfl rfl (.cons rfl rfl (ag ij _ _) (.cons rfl rfl (ag cv _ _) .nil)))))),?_⟩⟩
    exact ⟨by show k4.k+1<=_; omega,hi_k4⟩
   refine cF ⟨by omega,⟨(⟨k4.k+1,_⟩:KE),(by show all[j2].keys_.length - (k4.k+1) < all[j2].keys_.length - k4.k; omega),(cO (.cons rfl rfl (.cons rfl rfl (.cons rfl rfl (.cons rfl rfl (.cons rfl rfl (.cons rfl rfl (.cons rfl rfl (.cons rfl rfl (.cons rfl rfl (.cons rfl rfl (.cons rfl rfl (.cons rfl rfl .nil)))))))))))) (.cons rfl rfl rfl (.cons rfl rfl rfl (.cons rfl rfl rfl (.cons rfl rfl (ag ij _ _) (.cons rfl rfl (ag cv _ _) .nil)))))),?_⟩⟩
   exact ⟨by show k4.k+1<=_; omega,hi_k4⟩
  refine cB (fun hc135=>?_) (fun hc135=>?_)
  ·exact ⟨.inr rfl,_,M7.of [] (fw Tryz.results86 (.cons (V5.cellN A3 rfl rfl trivial rfl rfl rfl) (.cons (V5.tmp rfl) .nil))) rfl ⟨.same rfl (by decide),trivial⟩ (.tup (.fz (FzP.aggL (.cons (.pure rfl) (.cons (FzP.nil (n:=6)) (.cons (FzP.nil (n:=1)) (.cons (FzP.nil (n:=3)) (.cons (FzP.nil (n:=8)) .nil)))))) (.same .nil))),⟨⟨⟨#[]⟩,[],[],[],[]⟩,_,rfl,⟨Nat.zero_le _,⟨Nat.zero_le _,by simp⟩,⟨Nat.zero_le _,by simp⟩,⟨Nat.zero_le _,by simp⟩,⟨Nat.zero_le _,by simp⟩⟩,by exact fun h=>absurd h (by decide)⟩⟩
  have hb3t:b3=true:=hi_k4 (by have h:=of_decide_eq_false hc135; omega)
  have hn1:=hL1 hb1t
  have hn3:=hL3 hb3t
  have hn1l:=hn1.1
  have hn3l:=hn3.1
  refine IdxG.of (by assumption) ?_
  obtain ⟨_,⟨b5,rfl,hb5⟩,hcl5⟩:=Kr ⟨x.table_,x.create_.columns_⟩ ⟨hx.table_,hx.create_.columns_⟩ ⟨all[j2].name_,all[j2].columns_⟩ ⟨(hall.2 _ (Ze hjl)).name_,(hall.2 _ (Ze hjl)).columns_⟩ L1 hLf1 L3 hLf3 hn1.2 hn3.2 (by omega)
  refine OpG.lk (qc Vm (.cons (FzP.aggL (.cons (.pure rfl) (.cons (.pure rfl) (.cons .unk (.cons .unk (.cons .unk .nil)))))) (.cons (FzP.aggL (.cons (.pure rfl) (.cons (.pure rfl) (.cons .unk (.cons .unk (.cons .unk .nil)))))) (.cons (.pure rfl) (.cons (.pure rfl) .nil)))) hcl5) ⟨by kernel_rfl,cB (fun hc145=>?_) (fun hc145=>?_)⟩
  ·refine OpG.mk _ _ _ 9 (aj ij (a:=(⟨L1,((j2:Nat):Int),k4.e⟩:GFor)) Tryz.underlying32 Kw Sz Vf rfl rfl rfl (az rfl rfl rfl rfl) rfl (by omega) (by omega) (by unfold TV; omega)) rfl rfl ⟨by omega,⟨(⟨k2.k+1,k2.L++[(⟨L1,((j2:Nat):Int),k4.e⟩:GFor)],_⟩:KFE),(by show x.create_.foreign_.length - (k2.k+1) < x.create_.foreign_.length - k2.k; omega),(cO (.cons rfl rfl (.cons rfl rfl (.cons rfl rfl (.cons rfl rfl (.cons rfl rfl (.cons rfl rfl .nil)))))) (.cons rfl rfl rfl (.cons rfl rfl rfl (.cons (by (rw [Zi]; rfl)) rfl rfl (.cons (by (rw [Zi]; rfl)) rfl (ag ij _ _) (.cons rfl rfl (ag cv _ _) .nil)))))),?_⟩⟩
   exact ⟨by show k2.k+1<=_; omega,⟨by show (_++[_]).length=k2.k+1; rw [Zi,hi_k2.1]; rfl,fa hi_k2.2.1 ⟨hLf1⟩,Ix hi_k2.2.2 (by exact fun h=>absurd (show (6:Int)=0 from h) (by decide))⟩⟩
  refine OpG.mk _ _ _ 9 (aj ij (a:=(⟨L1,((j2:Nat):Int),k4.e⟩:GFor)) Tryz.underlying32 Kw Sz Vf rfl rfl rfl (az rfl rfl rfl rfl) rfl (by omega) (by omega) (by unfold TV; omega)) rfl rfl ⟨by omega,⟨(⟨k2.k+1,k2.L++[(⟨L1,((j2:Nat):Int),k4.e⟩:GFor)],_⟩:KFE),(by show x.create_.foreign_.length - (k2.k+1) < x.create_.foreign_.length - k2.k; omega),(cO (.cons rfl rfl (.cons rfl rfl (.cons rfl rfl (.cons rfl rfl (.cons rfl rfl (.cons rfl rfl .nil)))))) (.cons rfl rfl rfl (.cons rfl rfl rfl (.cons (by (rw [Zi]; rfl)) rfl rfl (.cons (by (rw [Zi]; rfl)) rfl (ag ij _ _) (.cons rfl rfl (ag cv _ _) .nil)))))),?_⟩⟩
  exact ⟨by show k2.k+1<=_; omega,⟨by show (_++[_]).length=k2.k+1; rw [Zi,hi_k2.1]; rfl,fa hi_k2.2.1 ⟨hLf1⟩,Ix hi_k2.2.2 (by exact fun h=>⟨h,fun _=>Ye hae rfl rfl hjl (hk2.1 hjl hb2t) hn1l (hLn1 hb1t) (hLn3 hb3t) hn3l (hb5 (by simpa using hc145))⟩)⟩⟩
 refine cB (fun hc156=>?_) (fun hc156=>?_)
 ·exact ⟨.inr rfl,_,M7.of [] (fw Tryz.results86 (.cons (V5.cellN A3 rfl rfl trivial rfl rfl rfl) (.cons (V5.tmp rfl) .nil))) rfl ⟨.same rfl (by decide),trivial⟩ (.tup (.fz (FzP.aggL (.cons (.pure rfl) (.cons (FzP.nil (n:=6)) (.cons (FzP.nil (n:=1)) (.cons (FzP.nil (n:=3)) (.cons (FzP.nil (n:=8)) .nil)))))) (.same .nil))),⟨⟨⟨#[]⟩,[],[],[],[]⟩,_,rfl,⟨Nat.zero_le _,⟨Nat.zero_le _,by simp⟩,⟨Nat.zero_le _,by simp⟩,⟨Nat.zero_le _,by simp⟩,⟨Nat.zero_le _,by simp⟩⟩,by exact fun h=>absurd h (by simpa using hc156)⟩⟩
 refine RegG.via (fun _ h=>gg [6] 2 0 0 [.v (.string x.table_),.tree 6 (x.create_.columns_.map us),.tree 1 (k0.L.map (fun l=>[.tree 1 (l.map iA)])),.sl 6 k2.L.length 0 k2.L.length,.tree 8 (x.create_.checks_.map rwA)] [.v (.string x.table_),.tree 6 (x.create_.columns_.map us),.tree 1 (k0.L.map (fun l=>[.tree 1 (l.map iA)])),.tree 3 (k2.L.map Mh),.tree 8 (x.create_.checks_.map rwA)] rfl rfl (.keep (.keep (.keep (.fz (FzP.rows ij (Zj.2 rfl) rfl) (.same _))))) rfl h) (cr ?_)
 refine ⟨.inr rfl,_,M7.of [] (fw Tryz.results86 (.cons (V5.cellN A3 rfl rfl trivial rfl rfl rfl) (.cons (V5.tmp rfl) .nil))) rfl ⟨.same rfl (by decide),trivial⟩ .same,?_⟩
 have g1:=hi_k0.1
 have g2:=hi_k2.1
 exact ⟨⟨x.table_,x.create_.columns_,k0.L,k2.L,x.create_.checks_⟩,_,rfl,⟨hx.table_,hx.create_.columns_,⟨by show k0.L.length<=_; omega,fun y hy=>hi_k0.2 y hy⟩,⟨by show k2.L.length<=_; omega,fun y hy=>hi_k2.2.1 y hy⟩,hx.create_.checks_⟩,fun _=>⟨rfl,rfl,fun f hf=>by obtain ⟨j,hj,rfl⟩:=List.getElem_of_mem hf; exact hi_k2.2.2 (by simpa using hc156) j hj (by omega)⟩⟩
theorem sX {α:Type} {f:α->List AV} {q:Nat} (h:RowF f q) {g:Nat->Nat} {v:Nat} {l:List α} {n:Bool}:some (⟨v,rF f l,q,n⟩:Blk)=some ((Blk.mk v (rF f l) q n).ren g):=by rw [v6 h]
theorem sg:RowF F5 22:=⟨fun _=>rfl,fun _=>rfl,fun _ _=>rfl,fun _ _=>rfl,fun _ _=>rfl,fun _=>rfl⟩
abbrev nc (t:GTab):ByteArray×List GCol:=(t.name_,t.columns_)
abbrev ncS (x:GSta):ByteArray×List GCol:=(x.table_,x.create_.columns_)
theorem Lt {l:List GSta} {k:Nat} {L:List GTab} {t:GTab} (h:k < l.length) (hi:L.map nc=(l.take k).map ncS) (h1:t.name_=l[k].table_) (h2:t.columns_=l[k].create_.columns_):(L++[t]).map nc=(l.take (k+1)).map ncS:=by
 rw [List.take_succ_eq_append_getElem h,List.map_append,List.map_append,hi]; simp [nc,ncS,h1,h2]
/-- What Build asks of a definition. -/
structure BldS (l:List GSta) (j:Nat) (x:GSta):Prop where
 cols:∀ c∈x.create_.columns_,yk c
 kl:∀ k∈x.create_.keys_,k.length≠0
 fl:∀ f∈x.create_.foreign_,f.columns_.length=f.target_.length/\f.columns_.length≠0
 ds:Ne (·.name_) x.create_.columns_
 pre:∃ S:List GTab,S.map nc=(l.take j).map ncS/\(∀ t∈S,t.name_≠x.table_)/\∀ f∈x.create_.foreign_,FkT S x f
/-- A foreign key refers to a key of columns of the same types. -/
structure ForT (s:List GTab) (t:GTab) (f:GFor):Prop where
 ne:f.columns_.length≠0
 tab:∃ j q:Nat,f.table_=((j:Nat):Int)/\f.key_=((q:Nat):Int)/\∃ hj:j < s.length,∃ hq:q < s[j].keys_.length,s[j].keys_[q].length=f.columns_.length/\Wi t.columns_ s[j].columns_ f.columns_ s[j].keys_[q]
structure SchW (s:List GTab):Prop where
 key:∀ t∈s,∀ k∈t.keys_,k.length≠0
 fork:∀ t∈s,∀ f∈t.foreign_,ForT s t f
theorem Dc {T:List GCol} {a b:List Int} {N:List ByteArray} (hd:Ne (·.name_) T) (ha:Gb T a N) (hb:Gb T b N) (hl:a.length=b.length):a=b:=by
 refine List.ext_getElem hl fun i h1 h2=>?_
 obtain ⟨p,hp,e1,e2⟩:=ha i h1
 obtain ⟨q,hq,e3,e4⟩:=hb i h2
 have:p=q:=hd p q hp hq (Option.some.inj (e2.symm.trans e4))
 subst this
 rw [Zf h1] at e1
 rw [Zf h2] at e3
 exact (Option.some.inj e1).trans (Option.some.inj e3).symm
def Kb (s:List GTab) (l:List GSta):Prop:=∀ i (h:i < s.length) (h2:i < l.length),DefS s s[i] l[i]
theorem Kb.snoc {s:List GTab} {L:List GSta} {x:GSta} {k:Nat} (h:Kb s L) (e:L.length=k) (hk:k < s.length) (hr:DefS s s[k] x):Kb s (L++[x]):=by
 intro j hj h2
 by_cases c:j < L.length
 ·rw [List.getElem_append_left c]; exact h j hj c
 have e2:j=k:=by simp at h2; omega
 subst e2
 rw [List.getElem_append_right (by omega)]
 simpa [e] using hr
theorem schW {s:List GTab} {l:List GSta} (hl:l.length=s.length) (hd:Kb s l) (hb:∀ i (h:i < l.length),BldS l i l[i]):SchW s:=by
 have hname:∀ i (h:i < s.length) (h2:i < l.length),l[i].table_=s[i].name_:=fun i h h2=>(hd i h h2).name
 have hcols:∀ i (h:i < s.length) (h2:i < l.length),l[i].create_.columns_=s[i].columns_:=fun i h h2=>(hd i h h2).cols
 have hne:∀ i j (hi:i < l.length) (hj:j < l.length),i < j->l[i].table_≠l[j].table_:=fun i j hi hj hij e=>by
  obtain ⟨S,e1,e2,_⟩:=(hb j hj).pre
  have hm:ncS l[i]∈(l.take j).map ncS:=List.mem_map.2 ⟨l[i],by rw [List.mem_take_iff_getElem]; exact ⟨i,by omega,rfl⟩,rfl⟩
  rw [<- e1] at hm
  obtain ⟨t,ht,e3⟩:=List.mem_map.1 hm
  have e4:t.name_=l[i].table_:=congrArg Prod.fst e3
  exact e2 t ht (e4.trans e)
 have hinj:∀ i j (hi:i < l.length) (hj:j < l.length),l[i].table_=l[j].table_->i=j:=fun i j hi hj e=>by
  rcases Nat.lt_trichotomy i j with g | g | g
  ·exact absurd e (hne i j hi hj g)
  ·exact g
  ·exact absurd e.symm (hne j i hj hi g)
 have hds:∀ i (h:i < s.length),Ne (·.name_) s[i].columns_:=fun i h=>by
  rw [<- hcols i h (by omega)]; exact (hb i (by omega)).ds
 constructor
 ·intro t ht k hk
  obtain ⟨i,hi,rfl⟩:=List.getElem_of_mem ht
  have h1:=(hd i hi (by omega)).keys
  have h2:k.length∈s[i].keys_.map List.length:=List.mem_map.2 ⟨k,hk,rfl⟩
  rw [<- h1] at h2
  obtain ⟨k',hk',e⟩:=List.mem_map.1 h2
  rw [<- e]; exact (hb i (by omega)).kl k' hk'
 intro t ht f hf
 obtain ⟨i,hi,rfl⟩:=List.getElem_of_mem ht
 obtain ⟨m,hm,rfl⟩:=List.getElem_of_mem hf
 have hil:i < l.length:=by omega
 have D:=hd i hi hil
 have hm2:m < l[i].create_.foreign_.length:=by rw [D.fl]; exact hm
 have F:=D.fors m hm2 hm
 have B:=hb i hil
 obtain ⟨g1,g2⟩:=B.fl _ (Ze hm2)
 obtain ⟨j,q,f1,f2,hj,hq,f3,f4,f5⟩:=F.tab
 have hjl:j < l.length:=by omega
 obtain ⟨S,e1,_,e3⟩:=B.pre
 obtain ⟨uc,hu,L1,L3,l1,n1,n3,l3,ht3⟩:=e3 _ (Ze hm2)
 have huc:uc=s[j].columns_:=by
  rcases hu with ⟨h1,h2⟩ | ⟨u,hu,h1,h2⟩
  ·have:i=j:=hinj i j hil hjl (by rw [hname j hj hjl,<- f3,h1])
   subst this
   rw [h2,hcols i hi hil]
  ·have h4:nc u∈S.map nc:=List.mem_map.2 ⟨u,hu,rfl⟩
   rw [e1] at h4
   obtain ⟨y,hy,e5⟩:=List.mem_map.1 h4
   rw [List.mem_take_iff_getElem] at hy
   obtain ⟨p,hp,rfl⟩:=hy
   have h6:l[p].table_=u.name_:=congrArg Prod.fst e5
   have h7:l[p].create_.columns_=u.columns_:=congrArg Prod.snd e5
   have:p=j:=hinj p j (by omega) hjl (by rw [h6,h1,f3,hname j hj hjl])
   subst this
   rw [<- h2,<- h7,hcols p hj hjl]
 subst huc
 rw [hcols i hi hil] at n1 ht3
 obtain rfl:L1=s[i].foreign_[m].columns_:=Dc (hds i hi) n1 F.nam (by rw [l1,F.len])
 obtain rfl:L3=s[j].keys_[q]:=Dc (hds j hj) n3 f5 (by rw [l3,f4])
 exact ⟨by rw [<- F.len]; exact g2,j,q,f1,f2,hj,hq,by rw [<- f4,<- g1,F.len],ht3⟩
theorem R4 {s:List GTab} {l:List GSta} (hv:Su s) (hl:l.length=s.length) (hd:Kb s l) (hb:∀ i (h:i < l.length),BldS l i l[i]):Su s/\(∀ t∈s,∀ c∈t.columns_,yk c)/\SchW s:=by
 refine ⟨hv,fun t ht c hc=>?_,schW hl hd hb⟩
 obtain ⟨i,hi,rfl⟩:=List.getElem_of_mem ht
 have e:=(hd i hi (by omega)).cols
 exact (hb i (by omega)).cols c (by rw [e]; exact hc)
theorem Y0:co Tryz.prog 85=true:=by kernel_rfl
theorem Yz:co Tryz.prog 86=true:=by kernel_rfl
theorem by50:(Tryz.prog.info? 50).map (·.bytes)=some 392:=by kernel_rfl
theorem sz50:aa Tryz.prog 50=some 22:=by kernel_rfl
theorem zr50:ax Tryz.prog 50=some (.agg #[.int .i64 0,.string ⟨#[]⟩,.slice none 0 0,.slice none 0 0,.slice none 0 0,.slice none 0 0,.slice none 0 0,.slice none 0 0,.slice none 0 0,.slice none 0 0,.int .i64 0,.string ⟨#[]⟩,.string ⟨#[]⟩,.int .i64 0,.int .i64 0,.int .i64 0,.string ⟨#[]⟩,.slice none 0 0,.slice none 0 0,.slice none 0 0,.int .i64 0,.string ⟨#[]⟩]):=by kernel_rfl
theorem Rz (l:List GSta) (hl:bw l (fun y=>FitSta y)) (hdl:∀ x∈l,DefOk x) (hl2:l.length<=1000):PRet Tryz.prog 47 [.tree 22 (l.map F5)] (fun r=>∃ (i e:Int),r=.tup [.unk,.v (.int .i64 i),.v (.int .i64 e)]/\(e=0->∀ i (h:i < l.length),BldS l i l[i])):=by
 refine PRet.of_vc ao [68,79] [] Tryz.func47 rfl Tryz.ntmps47 rfl (by kernel_rfl) (LpG.via (fun _ h=>bq 5 5 rfl 1 rfl h) ?_)
 refine LpG.on (fun k0:KL GTab=>(⟨fL [(0,.tree 22 (l.map F5)),(5,.sl 0 k0.L.length 0 k0.L.length),(6,.v (.int .i64 ((k0.k:Nat):Int)))],bl [(0,⟨k0.L.length,rF ef k0.L,5,Nat.beq k0.L.length 0⟩)],1⟩:St)) (fun k0=>(l.length - k0.k)) (fun k0=>(k0.k<=l.length/\k0.L.length=k0.k/\(∀ x∈k0.L,FitTab x)/\((∀ j (hl:j < l.length),j < k0.k->BldS l j l[j])/\k0.L.map nc=(l.take k0.k).map ncS))) (⟨0,[]⟩:KL GTab) (cO (.cons rfl rfl (.cons (by rfl) rfl (.cons rfl rfl .nil))) (.cons (by rfl) rfl (ag cv _ _) .nil)) ⟨Nat.zero_le _,rfl,by simp,⟨fun j _ h=>absurd h (Nat.not_lt_zero j),rfl⟩⟩ ?_
 rintro k0 hinv
 have hgr_k0:l.length<=140737488355328:=hl.1
 obtain ⟨hle_k0,hL_k0,hf_k0,hi_k0⟩:=hinv
 refine LenG.of (cL (fun hlt14=>?_) (fun hge14=>?_))
 ·have hdx:=hdl _ (Ze hlt14)
  refine IdxG.of (by assumption) (IdxG.of (by assumption) ?_)
  refine cN (fun hq22=>?_) (fun hq22=>?_)
  exact cT ⟨.inr rfl,_,ek Tryz.results47 (O3.tmp ⟨[],FzP.unk⟩) (O3.tmp ⟨[],FzP.pure rfl⟩) (O3.tmp ⟨[],FzP.pure rfl⟩),⟨_,_,rfl,fun h=>absurd h (by decide)⟩⟩
  refine cD (fun hq32=>?_) (fun hq32=>?_)
  ·refine cT (cT ?_)
   refine cT (cT ?_)
   exact cT ⟨.inr rfl,_,ek Tryz.results47 (O3.tmp ⟨[],FzP.unk⟩) (O3.tmp ⟨[],FzP.pure rfl⟩) (O3.tmp ⟨[],FzP.pure rfl⟩),⟨_,_,rfl,fun h=>absurd h (by decide)⟩⟩
  refine LenG.of (cD (fun hq38=>?_) (fun hq38=>?_))
  ·refine cT (cT ?_)
   refine cT (cT ?_)
   exact ⟨.inr rfl,_,ek Tryz.results47 (O3.tmp ⟨[],FzP.unk⟩) (O3.tmp ⟨[],FzP.pure rfl⟩) (O3.tmp ⟨[],FzP.pure rfl⟩),⟨_,_,rfl,fun h=>absurd h (by decide)⟩⟩
  refine LenG.of (cD (fun hq44=>?_) (fun hq44=>?_))
  ·refine cT (cT ?_)
   exact cT ⟨.inr rfl,_,ek Tryz.results47 (O3.tmp ⟨[],FzP.unk⟩) (O3.tmp ⟨[],FzP.pure rfl⟩) (O3.tmp ⟨[],FzP.pure rfl⟩),⟨_,_,rfl,fun h=>absurd h (by decide)⟩⟩
  refine LenG.of (cD (fun hq50=>?_) (fun hq50=>?_))
  ·refine cT (cT ?_)
   exact ⟨.inr rfl,_,ek Tryz.results47 (O3.tmp ⟨[],FzP.unk⟩) (O3.tmp ⟨[],FzP.pure rfl⟩) (O3.tmp ⟨[],FzP.pure rfl⟩),⟨_,_,rfl,fun h=>absurd h (by decide)⟩⟩
  refine LenG.of (cD (fun hq29=>?_) (fun hq29=>?_))
  ·exact cT ⟨.inr rfl,_,ek Tryz.results47 (O3.tmp ⟨[],FzP.unk⟩) (O3.tmp ⟨[],FzP.pure rfl⟩) (O3.tmp ⟨[],FzP.pure rfl⟩),⟨_,_,rfl,fun h=>absurd h (by decide)⟩⟩
  refine IdxG.of (by assumption) (ArgG.mk (H9 (l[k0.k]) (hl.2 _ (Ze _))) rfl ?_)
  rintro _ ⟨b0,rfl,hb0⟩
  refine cB (fun hc56=>?_) (fun hc56=>?_)
  ·exact cT ⟨.inr rfl,_,ek Tryz.results47 (O3.tmp ⟨[],FzP.unk⟩) (O3.tmp ⟨[],FzP.pure rfl⟩) (O3.tmp ⟨[],FzP.pure rfl⟩),⟨_,_,rfl,fun h=>absurd h (by decide)⟩⟩
  have hinv0:=hb0 (by simpa using hc56)
  refine IdxG.of (by assumption) ?_
  obtain ⟨_,⟨b1,rfl,hb1⟩,hcl1⟩:=Mn k0.L ⟨by omega,hf_k0⟩ l[k0.k] (hl.2 _ (Ze hlt14)) (by have:=hdx.cl; omega)
  refine OpG.lk (my [0] Y0 rfl (fun i h h'=>match i,h with | 0,_=>FzP.rows cv (Zj.2 rfl) rfl | 1,_=>FzP.pure rfl) hcl1) (cB (fun hc62=>?_) (fun hc62=>?_))
  ·exact cT ⟨.inr rfl,_,ek Tryz.results47 (O3.tmp ⟨[],FzP.unk⟩) (O3.tmp ⟨[],FzP.pure rfl⟩) (O3.tmp ⟨[],FzP.pure rfl⟩),⟨_,_,rfl,fun h=>absurd h (by decide)⟩⟩
  have hex0:=hb1 (by simpa using hc62)
  refine cF (IdxG.of (by assumption) ?_)
  obtain ⟨_,⟨t2,e2,rfl,ht2,hte2⟩,hcl2⟩:=Pj l[k0.k] (hl.2 _ (Ze hlt14)) k0.L ⟨by omega,hf_k0⟩ (by omega) hdx (fun f hf=>(hinv0.2.1 f hf).1)
  refine OpG.lk (Aj (gy [(TOP,0)] Yz hcl2 rfl rfl rfl rfl ⟨sX cv,trivial⟩ ⟨A6 cv,trivial⟩ ⟨vf cv _ _,trivial⟩ rfl rfl rfl rfl rfl rfl) ⟨⟨by simp [gOf],sX cv,rfl⟩,trivial⟩) (cB (fun hc83=>?_) (fun hc83=>?_))
  ·have hq83:¬ ((e2:Int)=(0:Int)):=by simpa using hc83
   exact ⟨.inr rfl,_,ek Tryz.results47 (O3.tmp ⟨[],FzP.unk⟩) (O3.tmp ⟨[],FzP.pure rfl⟩) (O3.tmp ⟨[],FzP.pure rfl⟩),⟨_,_,rfl,fun h=>absurd h (by simpa using hc83)⟩⟩
  have hq83:(e2:Int)=(0:Int):=by simpa using hc83
  have hte3:=hte2 (by simpa using hc83)
  refine OpG.mk _ _ _ 4 (aj cv (a:=t2) Tryz.underlying23 sy Wj Yr rfl rfl rfl (az rfl rfl rfl rfl) rfl (by omega) (by omega) (by unfold TV; omega)) rfl rfl ⟨by omega,⟨(⟨k0.k+1,k0.L++[t2]⟩:KL GTab),(by show l.length - (k0.k+1) < l.length - k0.k; omega),(cO (.cons rfl rfl (.cons (by (rw [Zi]; rfl)) rfl (.cons rfl rfl .nil))) (.cons (by (rw [Zi]; rfl)) rfl (ag cv _ _) .nil)),?_⟩⟩
  refine ⟨by show k0.k+1<=_; omega,by show (_++[_]).length=k0.k+1; rw [Zi,hL_k0]; rfl,fun y_ hy_=>(Zk.1 hy_).elim (hf_k0 y_) (fun hy_=>by rw [Zj.1 hy_]; exact ht2),⟨fun j hl hj=>?_,Lt hlt14 hi_k0.2 hte3.1 hte3.2.1⟩⟩
  rcases Nat.lt_succ_iff_lt_or_eq.1 hj with hj | rfl
  ·exact hi_k0.1 j hl hj
  exact ⟨hinv0.1,hinv0.2.2,hinv0.2.1,hex0.2,k0.L,hi_k0.2,hex0.1,hte3.2.2⟩
 exact ⟨.inr rfl,_,ek Tryz.results47 (O3.tmp ⟨[],FzP.unk⟩) (O3.tmp ⟨[],FzP.pure rfl⟩) (O3.tmp ⟨[],FzP.pure rfl⟩),⟨_,_,rfl,fun _ j hj=>hi_k0.1 j hj (by omega)⟩⟩
theorem Ge (s:List GTab) (hs:bw s (fun y=>FitTab y)) (hsm:∀ t∈s,SmTab t) (hs12:s.length<=12):PRet Tryz.prog 21 [.tree 5 (s.map ef)] (fun r=>∃ b:Bool,r=.v (.bool b)/\(b=true->Su s/\(∀ t∈s,∀ c∈t.columns_,yk c)/\SchW s)):=by
 refine PRet.of_vc ao [90] [20] Tryz.func21 rfl Tryz.ntmps21 rfl (by kernel_rfl) ?_
 refine LpG.on (fun k0:Nat=>(⟨fL [(0,.tree 5 (s.map ef)),(3,.v (.int .i64 ((k0:Nat):Int)))],bl [],0⟩:St)) (fun k0=>(s.length - k0)) (fun k0=>(k0<=s.length/\∀ j (hl:j < s.length),j < k0->TabV s j s[j])) 0 (cO (.cons rfl rfl (.cons rfl rfl .nil)) .nil) ⟨Nat.zero_le _,fun j _ h=>absurd h (Nat.not_lt_zero j)⟩ ?_
 rintro k0 hinv
 have hgr_k0:s.length<=140737488355328:=hs.1
 obtain ⟨hle_k0,hj_k0⟩:=hinv
 refine LenG.of (cL (fun hlt15=>?_) (fun hge15=>?_))
 ·refine LpG.on (fun k2:Nat=>(⟨fL [(0,.tree 5 (s.map ef)),(3,.v (.int .i64 ((k0:Nat):Int))),(4,.v (.int .i64 ((k2:Nat):Int)))],bl [],0⟩:St)) (fun k2=>(s[k0].keys_.length - k2)) (fun k2=>(k2<=s[k0].keys_.length/\∀ j (hl:j < s[k0].keys_.length),j < k2->∀ x∈s[k0].keys_[j],0<=x/\x < s[k0].columns_.length)) 0 (cO (.cons rfl rfl (.cons rfl rfl (.cons rfl rfl .nil))) .nil) ⟨Nat.zero_le _,fun j _ h=>absurd h (Nat.not_lt_zero j)⟩ ?_
  rintro k2 hinv
  have hgr_k2:s[k0].keys_.length<=140737488355328:=(hs.2 _ (Ze _)).keys_.1
  obtain ⟨hle_k2,hj_k2⟩:=hinv
  refine IdxG.of (by assumption) (LenG.of ?_)
  refine cL (fun hlt25=>?_) (fun hge25=>?_)
  ·refine IdxG.of (by assumption) (IdxG.of (by assumption) ?_)
   refine IdxG.of (by assumption) (ArgG.mk (Dk (s[k0]) (hs.2 _ (Ze _)) (s[k0].keys_[k2]) ((hs.2 _ (Ze _)).keys_.2 _ (Ze _))) rfl ?_)
   rintro _ ⟨b0,rfl,hb0⟩
   refine ⟨by kernel_rfl,?_⟩
   refine cB (fun hc41=>?_) (fun hc41=>?_)
   ·exact rV Tryz.results21 rfl bF
   refine ⟨by omega,?_⟩
   refine ⟨(k2+1),by omega,(cO (.cons rfl rfl (.cons rfl rfl (.cons rfl rfl .nil))) .nil),?_⟩
   refine ⟨by omega,fun j hl h=>?_⟩
   rcases Nat.lt_succ_iff_lt_or_eq.1 h with h | rfl
   ·exact hj_k2 j hl h
   exact hb0 (by simpa using hc41)
  refine LpG.on (fun k4:Nat=>(⟨fL [(0,.tree 5 (s.map ef)),(3,.v (.int .i64 ((k0:Nat):Int))),(5,.v (.int .i64 ((k4:Nat):Int)))],bl [],0⟩:St)) (fun k4=>(s[k0].foreign_.length - k4)) (fun k4=>(k4<=s[k0].foreign_.length/\∀ j (hl:j < s[k0].foreign_.length),j < k4->ForOk s k0 s[k0] s[k0].foreign_[j])) 0 (cO (.cons rfl rfl (.cons rfl rfl (.cons rfl rfl .nil))) .nil) ⟨Nat.zero_le _,fun j _ h=>absurd h (Nat.not_lt_zero j)⟩ ?_
  rintro k4 hinv
  have hgr_k4:s[k0].foreign_.length<=140737488355328:=(hs.2 _ (Ze _)).foreign_.1
  obtain ⟨hle_k4,hj_k4⟩:=hinv
  refine IdxG.of (by assumption) (LenG.of ?_)
  refine cL (fun hlt49=>?_) (fun hge49=>?_)
  ·refine IdxG.of (by assumption) (IdxG.of (by assumption) ?_)
   refine IdxG.of (by assumption) (ArgG.mk (Dk (s[k0]) (hs.2 _ (Ze _)) (s[k0].foreign_[k4].columns_) ((hs.2 _ (Ze _)).foreign_.2 _ (Ze _)).columns_) rfl ?_)
   rintro _ ⟨b1,rfl,hb1⟩
   refine cB (fun hg68=>?_) (fun hg68=>?_)
   ·refine cT (cT ?_)
    refine cT ⟨by kernel_rfl,cT ?_⟩
    exact rV Tryz.results21 rfl bF
   refine cD (fun hq73=>?_) (fun hq73=>?_)
   refine cT (cT ?_)
   refine ⟨by kernel_rfl,?_⟩
   exact cT (rV Tryz.results21 rfl bF)
   refine cD (fun hq79=>?_) (fun hq79=>?_)
   refine cT ⟨by kernel_rfl,cT ?_⟩
   exact rV Tryz.results21 rfl bF
   refine cD (fun hq84=>?_) (fun hq84=>?_)
   ·refine ⟨by kernel_rfl,?_⟩
    exact cT (rV Tryz.results21 rfl bF)
   obtain ⟨j1,hj1⟩:∃ j:Nat,s[k0].foreign_[k4].table_=((j:Nat):Int):=⟨s[k0].foreign_[k4].table_.toNat,by omega⟩
   refine OpG.lk (ah Tryz.underlying23 sy rfl rfl hj1 (by omega)) ?_
   refine LenG.of ⟨by kernel_rfl,cD (fun hq95=>?_) (fun hq95=>?_)⟩
   ·exact rV Tryz.results21 rfl bF
   refine ⟨by omega,?_⟩
   refine ⟨(k4+1),by omega,(cO (.cons rfl rfl (.cons rfl rfl (.cons rfl rfl .nil))) .nil),?_⟩
   refine ⟨by omega,fun j hl h=>?_⟩
   rcases Nat.lt_succ_iff_lt_or_eq.1 h with h | rfl
   ·exact hj_k4 j hl h
   exact ⟨hb1 (by simpa using hg68),j1,s[k0].foreign_[j].key_.toNat,hj1,by omega,by omega,by omega,by omega⟩
  refine ⟨by omega,?_⟩
  refine ⟨(k0+1),by omega,(cO (.cons rfl rfl (.cons rfl rfl .nil)) .nil),?_⟩
  refine ⟨by omega,fun j hl h=>?_⟩
  rcases Nat.lt_succ_iff_lt_or_eq.1 h with h | rfl
  ·exact hj_k0 j hl h
  exact ⟨fun y hy=>by obtain ⟨j,hj,rfl⟩:=List.getElem_of_mem hy; exact hj_k2 j hj (by omega),fun y hy=>by obtain ⟨j,hj,rfl⟩:=List.getElem_of_mem hy; exact hj_k4 j hj (by omega)⟩
 have hv:Su s:=fun j hl=>hj_k0 j hl (by omega)
 refine LpG.via (fun _ h=>bq 7 22 rfl 1 rfl h) ?_
 refine LpG.on (fun k6:KL GSta=>(⟨fL [(0,.tree 5 (s.map ef)),(7,.sl 0 k6.L.length 0 k6.L.length),(8,.v (.int .i64 ((k6.k:Nat):Int)))],bl [(0,⟨k6.L.length,rF F5 k6.L,22,Nat.beq k6.L.length 0⟩)],1⟩:St)) (fun k6=>(s.length - k6.k)) (fun k6=>(k6.k<=s.length/\k6.L.length=k6.k/\(∀ x∈k6.L,FitSta x)/\((∀ x∈k6.L,DefOk x)/\k6.L.length=k6.k/\Kb s k6.L))) (⟨0,[]⟩:KL GSta) (cO (.cons rfl rfl (.cons (by rfl) rfl (.cons rfl rfl .nil))) (.cons (by rfl) rfl (ag sg _ _) .nil)) ⟨Nat.zero_le _,rfl,by simp,⟨by simp,rfl,fun i _ h=>absurd h (Nat.not_lt_zero i)⟩⟩ ?_
 rintro k6 hinv
 have hgr_k6:s.length<=140737488355328:=hs.1
 obtain ⟨hle_k6,hL_k6,hf_k6,hi_k6⟩:=hinv
 refine LenG.of (cL (fun hlt99=>?_) (fun hge99=>?_))
 ·refine ArgG.mk (Ac s hs k6.k (by omega) hv hsm) rfl ?_
  rintro _ ⟨x2,rfl,hx2,hd2,hxc2⟩
  refine OpG.mk _ _ _ 2 (aj sg (a:=x2) Tryz.underlying115 sz50 zr50 by50 rfl rfl rfl (az rfl rfl rfl rfl) rfl (by omega) (by omega) (by unfold TV; omega)) rfl rfl ?_
  refine ⟨by omega,?_⟩
  refine ⟨(⟨k6.k+1,k6.L++[x2]⟩:KL GSta),(by show s.length - (k6.k+1) < s.length - k6.k; omega),(cO (.cons rfl rfl (.cons (by (rw [Zi]; rfl)) rfl (.cons rfl rfl .nil))) (.cons (by (rw [Zi]; rfl)) rfl (ag sg _ _) .nil)),?_⟩
  refine ⟨by show k6.k+1<=_; omega,by show (_++[_]).length=k6.k+1; rw [Zi,hL_k6]; rfl,fun y_ hy_=>(Zk.1 hy_).elim (hf_k6 y_) (fun hy_=>by rw [Zj.1 hy_]; exact hx2),?_⟩
  exact ⟨fa hi_k6.1 hd2,by show (_++[_]).length=_; rw [Zi,hi_k6.2.1]; rfl,hi_k6.2.2.snoc hi_k6.2.1 hlt99 hxc2⟩
 refine RegG.via (fun _ h=>fg [0] 7 (.tree 22 (k6.L.map F5)) (FzP.rows sg (Zj.2 rfl) rfl) rfl h) ?_
 refine cr ?_
 refine ArgG.mk (Rz k6.L ⟨by omega,hf_k6⟩ hi_k6.1 (by omega)) rfl ?_
 rintro _ ⟨i3,e3,rfl,he3⟩
 exact rV Tryz.results21 rfl ⟨_,rfl,fun hr=>R4 hv (by omega) hi_k6.2.2 (he3 (by simpa using hr))⟩
structure GChg where
 table_:Int
 iD_:Int
 old_:List GVal
 new_:List GVal
abbrev o6 (x:GChg):List AV:=[.v (.int .i64 x.table_),.v (.int .i64 x.iD_),.tree 3 (x.old_.map gvA),.tree 3 (x.new_.map gvA)]
structure FitChg (x:GChg):Prop where
 old_:bw x.old_ (fun y=>FitVal y)
 new_:bw x.new_ (fun y=>FitVal y)
instance:Inhabited GChg:=⟨⟨0,0,[],[]⟩⟩
theorem pk:RowF (fun l:List GVal=>[AV.tree 3 (l.map gvA)]) 1:=⟨fun _=>rfl,fun _=>rfl,fun _ _=>rfl,fun _ _=>rfl,fun _ _=>rfl,fun _=>rfl⟩
theorem wy {t:GTab} (h:t.columns_.length<=1000):bw (ap t) (fun _=>True):=⟨by unfold ap; rw [Zl]; omega,fun _ _=>trivial⟩
/-- A table of a valid and small schema. -/
structure TabS (t:GTab):Prop where
 sm:SmTab t
 c1:1<=t.columns_.length
 c5:t.columns_.length<=5
 col:∀ c∈t.columns_,yk c
 ck:∀ e∈t.checks_,CondE (ap t) e
structure SchS (s:List GTab):Prop where
 len:s.length<=4
 tab:∀ t∈s,TabS t
 v:Su s
 w:SchW s
theorem TabS.to {t:GTab} (h:TabS t):TabOk t:=⟨by have:=h.c5; omega,fun x hx h1=>by
 obtain ⟨c,hc,rfl⟩:=List.mem_map.1 hx
 have hk:=h.col c hc
 unfold yk at hk
 have h1:c.type_=1:=h1
 show -2147483648<=c.low_/\c.high_<=2147483647
 omega,h.ck⟩
theorem nb {b:Bool} (h:(!b)=false):b=true:=by cases b <;> simp_all
/-- A change of possible rows. -/
def O6 (s:List GTab) (c:GChg):Prop:=∃ j:Nat,c.table_=((j:Nat):Int)/\∃ h:j < s.length,(0 < c.old_.length->B2 s[j] c.old_)/\(0 < c.new_.length->B2 s[j] c.new_)
theorem Eg (s:List GTab) (hs:bw s (fun y=>FitTab y)):PRet Tryz.prog 6 [.tree 5 (s.map ef)] (fun r=>∃ b:Bool,r=.v (.bool b)/\(b=true->SchS s)):=by
 refine PRet.of_vc ao [] [] Tryz.func6 rfl Tryz.ntmps6 rfl (by kernel_rfl) (ArgG.mk (w9 s hs) rfl ?_)
 rintro _ ⟨b0,rfl,hb0⟩
 refine cB (fun hg8=>?_) (fun hg8=>?_)
 ·refine cT (cT ?_)
  exact rV Tryz.results6 rfl bF
 have hsm0:=hb0 (by simpa using hg8)
 have hs12:=hsm0.1
 have hsm:=hsm0.2
 refine ArgG.mk (Ge s hs (by assumption) (by omega)) rfl ?_
 rintro _ ⟨b1,rfl,hb1⟩
 refine cB (fun hg13=>?_) (fun hg13=>?_)
 ·exact cT (rV Tryz.results6 rfl bF)
 have hv0:=hb1 (by simpa using hg13)
 refine LenG.of (cD (fun hq17=>?_) (fun hq17=>?_))
 ·exact rV Tryz.results6 rfl bF
 refine LpG.on (fun k0:Nat=>(⟨fL [(0,.tree 5 (s.map ef)),(3,.v (.int .i64 ((k0:Nat):Int)))],bl [],0⟩:St)) (fun k0=>(s.length - k0)) (fun k0=>(k0<=s.length/\∀ j (hl:j < s.length),j < k0->TabS s[j])) 0 (cO (.cons rfl rfl (.cons rfl rfl .nil)) .nil) ⟨Nat.zero_le _,fun j _ h=>absurd h (Nat.not_lt_zero j)⟩ ?_
 rintro k0 hinv
 have hgr_k0:s.length<=140737488355328:=hs.1
 obtain ⟨hle_k0,hj_k0⟩:=hinv
 refine LenG.of (cL (fun hlt21=>?_) (fun hge21=>?_))
 ·have hst:=hs.2 _ (Ze hlt21)
  refine IdxG.of (by assumption) (LenG.of ?_)
  refine cD (fun hq31=>?_) (fun hq31=>?_)
  ·exact cT (rV Tryz.results6 rfl bF)
  refine IdxG.of (by assumption) (LenG.of ?_)
  refine cE (fun hq39=>?_) (fun hq39=>?_)
  ·exact rV Tryz.results6 rfl bF
  refine LpG.on (fun k2:Nat=>(⟨fL [(0,.tree 5 (s.map ef)),(3,.v (.int .i64 ((k0:Nat):Int))),(4,.v (.int .i64 ((k2:Nat):Int)))],bl [],0⟩:St)) (fun k2=>(s[k0].checks_.length - k2)) (fun k2=>(k2<=s[k0].checks_.length/\∀ j (hl:j < s[k0].checks_.length),j < k2->CondE (ap s[k0]) s[k0].checks_[j])) 0 (cO (.cons rfl rfl (.cons rfl rfl (.cons rfl rfl .nil))) .nil) ⟨Nat.zero_le _,fun j _ h=>absurd h (Nat.not_lt_zero j)⟩ ?_
  rintro k2 hinv
  have hgr_k2:s[k0].checks_.length<=140737488355328:=(hs.2 _ (Ze _)).checks_.1
  obtain ⟨hle_k2,hj_k2⟩:=hinv
  refine IdxG.of (by assumption) (LenG.of ?_)
  refine cL (fun hlt47=>?_) (fun hge47=>?_)
  ·obtain ⟨a2,he_a2,ha2⟩:=(hst.checks_.2 _ (Ze hlt47)).open_
   refine IdxG.of (by assumption) (aw (j:=k2) (by assumption) he_a2 ?_)
   refine cE (fun hq60=>?_) (fun hq60=>?_)
   ·refine ⟨by kernel_rfl,cT ?_⟩
    exact rV Tryz.results6 rfl bF
   refine IdxG.of (by assumption) (aw (j:=k2) (by assumption) he_a2 ?_)
   refine IdxG.of (by assumption) (ArgG.mk (o7 (s[k0]) (hs.2 _ (Ze _)) (by omega)) rfl ?_)
   rintro _ rfl
   refine ArgG.mk (yd a2 ha2 (ap s[k0]) (wy (by omega))) rfl ?_
   rintro _ ⟨b3,rfl,hb3⟩
   refine ⟨by kernel_rfl,cB (fun hc76=>?_) (fun hc76=>?_)⟩
   ·exact rV Tryz.results6 rfl bF
   refine ⟨by omega,⟨(k2+1),by omega,(cO (.cons rfl rfl (.cons rfl rfl (.cons rfl rfl .nil))) .nil),?_⟩⟩
   refine ⟨by omega,fun j hl h=>?_⟩
   rcases Nat.lt_succ_iff_lt_or_eq.1 h with h | rfl
   ·exact hj_k2 j hl h
   rw [he_a2]; exact (hb3 (by simpa using hc76)).resolve_left (by assumption)
  refine ⟨by omega,⟨(k0+1),by omega,(cO (.cons rfl rfl (.cons rfl rfl .nil)) .nil),?_⟩⟩
  refine ⟨by omega,fun j hl h=>?_⟩
  rcases Nat.lt_succ_iff_lt_or_eq.1 h with h | rfl
  ·exact hj_k0 j hl h
  exact ⟨hsm _ (Ze hlt21),by omega,by omega,hv0.2.1 _ (Ze hlt21),fun y hy=>by obtain ⟨j,hj,rfl⟩:=List.getElem_of_mem hy; exact hj_k2 j hj (by omega)⟩
 exact rV Tryz.results6 rfl ⟨_,rfl,fun _=>⟨by omega,fun t ht=>by obtain ⟨j,hj,rfl⟩:=List.getElem_of_mem ht; exact hj_k0 j hj (by omega),hv0.1,hv0.2.2⟩⟩
theorem K5 (s:List GTab) (hs:bw s (fun y=>FitTab y)) (l:List GChg) (hl:bw l (fun y=>FitChg y)) (hss:SchS s):PRet Tryz.prog 14 [.tree 5 (s.map ef),.tree 4 (l.map o6)] (fun r=>∃ b:Bool,r=.v (.bool b)/\(b=true->l.length<=6/\∀ c∈l,O6 s c)):=by
 refine PRet.of_vc ao [47,63] [] Tryz.func14 rfl Tryz.ntmps14 rfl (by kernel_rfl) ?_
 refine LpG.on (fun k0:Nat=>(⟨fL [(0,.tree 5 (s.map ef)),(1,.tree 4 (l.map o6)),(5,.v (.int .i64 ((k0:Nat):Int)))],bl [],0⟩:St)) (fun k0=>(l.length - k0)) (fun k0=>(k0<=l.length/\∀ j (hl:j < l.length),j < k0->O6 s l[j])) 0 (cO (.cons rfl rfl (.cons rfl rfl (.cons rfl rfl .nil))) .nil) ⟨Nat.zero_le _,fun j _ h=>absurd h (Nat.not_lt_zero j)⟩ ?_
 rintro k0 hinv
 have hgr_k0:l.length<=140737488355328:=hl.1
 obtain ⟨hle_k0,hj_k0⟩:=hinv
 refine LenG.of (cL (fun hlt10=>?_) (fun hge10=>?_))
 ·refine IdxG.of (by assumption) (cD (fun hq20=>?_) (fun hq20=>?_))
  ·refine cT (cT ?_)
   exact rV Tryz.results14 rfl bF
  refine LenG.of (cD (fun hq27=>?_) (fun hq27=>?_))
  ·exact cT (rV Tryz.results14 rfl bF)
  obtain ⟨j1,hj1,hjs⟩:∃ j:Nat,l[k0].table_=((j:Nat):Int)/\j < s.length:=⟨l[k0].table_.toNat,by omega,by omega⟩
  have hto:=(hss.tab _ (Ze hjs)).to
  refine LenG.of (cE (fun hq32=>?_) (fun hq32=>?_))
  ·refine LenG.of (cE (fun hq38=>?_) (fun hq38=>?_))
   ·exact rV Tryz.results14 rfl bF
   refine LenG.of (cD (fun hq43=>?_) (fun hq43=>?_))
   ·refine OpG.lk (ah Tryz.underlying23 sy rfl rfl hj1 hjs) ?_
    refine ArgG.mk (gk (s[j1]) (hs.2 _ (Ze _)) (l[k0].old_) (hl.2 _ (Ze _)).old_ hto) rfl ?_
    rintro _ ⟨b0,rfl,hb0⟩
    refine cB (fun hg54=>?_) (fun hg54=>?_)
    ·refine ⟨by kernel_rfl,?_⟩
     exact cT (rV Tryz.results14 rfl bF)
    refine LenG.of (cD (fun hq59=>?_) (fun hq59=>?_))
    ·refine OpG.lk (ah Tryz.underlying23 sy rfl rfl hj1 hjs) ?_
     refine ArgG.mk (gk (s[j1]) (hs.2 _ (Ze _)) (l[k0].new_) (hl.2 _ (Ze _)).new_ hto) rfl ?_
     rintro _ ⟨b1,rfl,hb1⟩
     refine ⟨by kernel_rfl,?_⟩
     refine cB (fun hc70=>?_) (fun hc70=>?_)
     ·exact rV Tryz.results14 rfl bF
     refine ⟨by omega,?_⟩
     refine ⟨(k0+1),by omega,(cO (.cons rfl rfl (.cons rfl rfl (.cons rfl rfl .nil))) .nil),?_⟩
     refine ⟨by omega,fun j hl h=>?_⟩
     rcases Nat.lt_succ_iff_lt_or_eq.1 h with h | rfl
     ·exact hj_k0 j hl h
     exact ⟨j1,hj1,hjs,by exact fun _=>hb0.1 (nb hg54),by exact fun _=>hb1.1 (nb hc70)⟩
    refine ⟨by kernel_rfl,?_⟩
    refine cF ⟨by omega,⟨(k0+1),by omega,(cO (.cons rfl rfl (.cons rfl rfl (.cons rfl rfl .nil))) .nil),?_⟩⟩
    refine ⟨by omega,fun j hl h=>?_⟩
    rcases Nat.lt_succ_iff_lt_or_eq.1 h with h | rfl
    ·exact hj_k0 j hl h
    exact ⟨j1,hj1,hjs,by exact fun _=>hb0.1 (nb hg54),by (intro h; exact absurd h (by omega))⟩
   refine cF (LenG.of ?_)
   refine cD (fun hq59=>?_) (fun hq59=>?_)
   ·refine OpG.lk (ah Tryz.underlying23 sy rfl rfl hj1 hjs) ?_
    refine ArgG.mk (gk (s[j1]) (hs.2 _ (Ze _)) (l[k0].new_) (hl.2 _ (Ze _)).new_ hto) rfl ?_
    rintro _ ⟨b2,rfl,hb2⟩
    refine ⟨by kernel_rfl,?_⟩
    refine cB (fun hc70=>?_) (fun hc70=>?_)
    ·exact rV Tryz.results14 rfl bF
    refine ⟨by omega,?_⟩
    refine ⟨(k0+1),by omega,(cO (.cons rfl rfl (.cons rfl rfl (.cons rfl rfl .nil))) .nil),?_⟩
    refine ⟨by omega,fun j hl h=>?_⟩
    rcases Nat.lt_succ_iff_lt_or_eq.1 h with h | rfl
    ·exact hj_k0 j hl h
    exact ⟨j1,hj1,hjs,by (intro h; exact absurd h (by omega)),by exact fun _=>hb2.1 (nb hc70)⟩
   refine ⟨by kernel_rfl,?_⟩
   refine cF ⟨by omega,⟨(k0+1),by omega,(cO (.cons rfl rfl (.cons rfl rfl (.cons rfl rfl .nil))) .nil),?_⟩⟩
   refine ⟨by omega,fun j hl h=>?_⟩
   rcases Nat.lt_succ_iff_lt_or_eq.1 h with h | rfl
   ·exact hj_k0 j hl h
   exact ⟨j1,hj1,hjs,by (intro h; exact absurd h (by omega)),by (intro h; exact absurd h (by omega))⟩
  refine cF (LenG.of ?_)
  refine cD (fun hq43=>?_) (fun hq43=>?_)
  ·refine OpG.lk (ah Tryz.underlying23 sy rfl rfl hj1 hjs) ?_
   refine ArgG.mk (gk (s[j1]) (hs.2 _ (Ze _)) (l[k0].old_) (hl.2 _ (Ze _)).old_ hto) rfl ?_
   rintro _ ⟨b3,rfl,hb3⟩
   refine cB (fun hg54=>?_) (fun hg54=>?_)
   ·refine ⟨by kernel_rfl,?_⟩
    exact cT (rV Tryz.results14 rfl bF)
   refine LenG.of (cD (fun hq59=>?_) (fun hq59=>?_))
   ·refine OpG.lk (ah Tryz.underlying23 sy rfl rfl hj1 hjs) ?_
    refine ArgG.mk (gk (s[j1]) (hs.2 _ (Ze _)) (l[k0].new_) (hl.2 _ (Ze _)).new_ hto) rfl ?_
    rintro _ ⟨b4,rfl,hb4⟩
    refine ⟨by kernel_rfl,?_⟩
    refine cB (fun hc70=>?_) (fun hc70=>?_)
    ·exact rV Tryz.results14 rfl bF
    refine ⟨by omega,?_⟩
    refine ⟨(k0+1),by omega,(cO (.cons rfl rfl (.cons rfl rfl (.cons rfl rfl .nil))) .nil),?_⟩
    refine ⟨by omega,fun j hl h=>?_⟩
    rcases Nat.lt_succ_iff_lt_or_eq.1 h with h | rfl
    ·exact hj_k0 j hl h
    exact ⟨j1,hj1,hjs,by exact fun _=>hb3.1 (nb hg54),by exact fun _=>hb4.1 (nb hc70)⟩
   refine ⟨by kernel_rfl,?_⟩
   refine cF ⟨by omega,⟨(k0+1),by omega,(cO (.cons rfl rfl (.cons rfl rfl (.cons rfl rfl .nil))) .nil),?_⟩⟩
   refine ⟨by omega,fun j hl h=>?_⟩
   rcases Nat.lt_succ_iff_lt_or_eq.1 h with h | rfl
   ·exact hj_k0 j hl h
   exact ⟨j1,hj1,hjs,by exact fun _=>hb3.1 (nb hg54),by (intro h; exact absurd h (by omega))⟩
  refine cF (LenG.of ?_)
  refine cD (fun hq59=>?_) (fun hq59=>?_)
  ·refine OpG.lk (ah Tryz.underlying23 sy rfl rfl hj1 hjs) ?_
   refine ArgG.mk (gk (s[j1]) (hs.2 _ (Ze _)) (l[k0].new_) (hl.2 _ (Ze _)).new_ hto) rfl ?_
   rintro _ ⟨b5,rfl,hb5⟩
   refine ⟨by kernel_rfl,?_⟩
   refine cB (fun hc70=>?_) (fun hc70=>?_)
   ·exact rV Tryz.results14 rfl bF
   refine ⟨by omega,?_⟩
   refine ⟨(k0+1),by omega,(cO (.cons rfl rfl (.cons rfl rfl (.cons rfl rfl .nil))) .nil),?_⟩
   refine ⟨by omega,fun j hl h=>?_⟩
   rcases Nat.lt_succ_iff_lt_or_eq.1 h with h | rfl
   ·exact hj_k0 j hl h
   exact ⟨j1,hj1,hjs,by (intro h; exact absurd h (by omega)),by exact fun _=>hb5.1 (nb hc70)⟩
  refine ⟨by kernel_rfl,?_⟩
  refine cF ⟨by omega,⟨(k0+1),by omega,(cO (.cons rfl rfl (.cons rfl rfl (.cons rfl rfl .nil))) .nil),?_⟩⟩
  refine ⟨by omega,fun j hl h=>?_⟩
  rcases Nat.lt_succ_iff_lt_or_eq.1 h with h | rfl
  ·exact hj_k0 j hl h
  exact ⟨j1,hj1,hjs,by (intro h; exact absurd h (by omega)),by (intro h; exact absurd h (by omega))⟩
 exact LenG.of (rV Tryz.results14 rfl ⟨_,rfl,fun h=>⟨by have:=of_decide_eq_true h; omega,fun c hc=>by obtain ⟨j,hj,rfl⟩:=List.getElem_of_mem hc; exact hj_k0 j hj (by omega)⟩⟩)
end Go.Proofs.YthpangmpihkniaaGreatDoor
