/- Texts of the claim. -/
import Derived.Test.YtjdblmpkeilbaaaGreatDoorF3
import Derived.Test.YtjdblmpkeilbaaaGreatDoorQ2
namespace Go.Proofs.YtjdblmpkeilbaaaGreatDoor
set_option linter.unusedVariables false
set_option linter.unusedSimpArgs false
open Go.RowKit
/-- The next row of a match: c the letter of the pattern, prev the row before. -/
def lkNext (s:ByteArray) (c:Nat) (prev:Nat→Bool):Nat→Bool
 | 0=>c==37&&prev 0
 | i+1=>if c=37 then prev (i+1)||lkNext s c prev i else prev i&&(c==95||c==(bAt s i).toNat)
/-- The first k letters of the pattern match the first i of the text. -/
def lk (s p:ByteArray):Nat→Nat→Bool
 | 0=>fun i=>i==0
 | k+1=>lkNext s (bAt p k).toNat (lk s p k)
def likeS (s p:ByteArray):Bool:=lk s p p.size s.size
def ofS (b:Bool):Int:=if b=true then 1 else 0
def lessS (a b:ByteArray):Bool:=Op.bytesLess a.toList b.toList
def ordS (a b:GVal):Int:=if a.int_ < b.int_∨lessS a.text_ b.text_=true then -1 else if a.int_ > b.int_∨(lessS a.text_ b.text_=false∧¬ a.text_.toList=b.text_.toList) then 1 else 0
def cmpS (op:Int) (a b:GVal):Int :=
 if a.kind_=0∨b.kind_=0 then 2 else
 if op=10 then ofS (ordS a b==0) else if op=11 then ofS (ordS a b != 0) else if op=12 then ofS (decide (ordS a b < 0)) else if op=13 then ofS (decide (ordS a b≤0)) else
 if op=14 then ofS (decide (ordS a b > 0)) else if op=15 then ofS (decide (ordS a b≥0)) else ofS (likeS a.text_ b.text_)
def two (strong a b:Int):Int:=if a=strong∨b=strong then strong else if a=2∨b=2 then 2 else 1 - strong
def at0 (l:List GVal) (i:Nat):GVal:=l.getD i zV
mutual
/-- The truth value of a condition: 0 False, 1 True, 2 Unknown. -/
def cS (R:Int→GVal):List AV→Int
 | [.v (.int _ op),.v _,.v _,.v _,.v _,.v _,.v _,.tree _ es]=>
  if op=1 then 2 else if op=17 then ofS ((at0 (vsS R es) 0).kind_==0) else
  if op=18∨op=19 then two (op - 18) ((csS R es).getD 0 0) ((csS R es).getD 1 0) else
  if op=20 then (if (csS R es).getD 0 0=2 then 2 else 1 - (csS R es).getD 0 0) else cmpS op (at0 (vsS R es) 0) (at0 (vsS R es) 1)
 | _=>0
def csS (R:Int→GVal):List (List AV)→List Int
 | []=>[]
 | r :: rs=>cS R r :: csS R rs
end
end Go.Proofs.YtjdblmpkeilbaaaGreatDoor
namespace Go.Proofs.YtjdblmpkeilbaaaGreatDoor
set_option linter.unusedVariables false
set_option linter.unusedSimpArgs false
open Go.RowKit
end Go.Proofs.YtjdblmpkeilbaaaGreatDoor
namespace Go.Proofs.YtjdblmpkeilbaaaGreatDoor
set_option linter.unusedVariables false
set_option linter.unusedSimpArgs false
open Go.RowKit
end Go.Proofs.YtjdblmpkeilbaaaGreatDoor
namespace Go.Proofs.YtjdblmpkeilbaaaGreatDoor
set_option linter.unusedVariables false
set_option linter.unusedSimpArgs false
open Go.RowKit
section
variable {R:Int→GVal} {x:GEx}
end
end Go.Proofs.YtjdblmpkeilbaaaGreatDoor
namespace Go.Proofs.YtjdblmpkeilbaaaGreatDoor
set_option linter.unusedVariables false
set_option linter.unusedSimpArgs false
open Go.RowKit
section
variable {s p:ByteArray} {c k i:Nat} {prev:Nat→Bool} {v:Bool}
end
end Go.Proofs.YtjdblmpkeilbaaaGreatDoor
namespace Go.Proofs.YtjdblmpkeilbaaaGreatDoor
set_option linter.unusedVariables false
set_option linter.unusedSimpArgs false
open Go.RowKit
theorem rowL_of {t:GTab} {r:List GVal} (h:RowFit t r):RowL (varsOf t) r:=⟨by rw [h.1]; simp [varsOf],fun j hl h2=>by
 have h3:j < t.columns_.length:=by have:=h.1; omega
 have e:(varsOf t)[j]=varC t.columns_[j]:=by simp [varsOf]
 rw [e]; exact fitV_of (h.2 j hl h3)⟩
end Go.Proofs.YtjdblmpkeilbaaaGreatDoor
namespace Go.Proofs.YtjdblmpkeilbaaaGreatDoor
set_option linter.unusedVariables false
set_option linter.unusedSimpArgs false
open Go.RowKit
theorem row_ls:RowF (fun l:List ByteArray=>[AV.tree 1 (l.map sA)]) 1:=⟨fun _=>rfl,fun _=>rfl,fun _ _=>rfl,fun _ _=>rfl,fun _ _=>rfl,fun _=>rfl⟩
theorem row_refA:RowF refA 3:=⟨fun _=>rfl,fun _=>rfl,fun _ _=>rfl,fun _ _=>rfl,fun _ _=>rfl,fun _=>rfl⟩
/-- All numbers of a schema exist. -/
structure ForOk (s:List GTab) (n:Nat) (t:GTab) (f:GFor):Prop where
 cols:∀ x∈f.columns_,0≤x∧x < t.columns_.length
 tab:∃ j q:Nat,f.table_=((j:Nat):Int)∧f.key_=((q:Nat):Int)∧j≤n∧∃ h:j < s.length,q < s[j].keys_.length
structure TabV (s:List GTab) (n:Nat) (t:GTab):Prop where
 keys:∀ k∈t.keys_,∀ x∈k,0≤x∧x < t.columns_.length
 fors:∀ f∈t.foreign_,ForOk s n t f
def SchV (s:List GTab):Prop:=∀ n (h:n < s.length),TabV s n s[n]
/-- The definition of a table. -/
structure DefOk (x:GSta):Prop where
 cl:x.create_.columns_.length≤20
 kl:x.create_.keys_.length≤10
 fl:x.create_.foreign_.length≤10
 key:∀ k∈x.create_.keys_,k.length≤20
 fcl:∀ f∈x.create_.foreign_,f.columns_.length≤20∧f.target_.length≤20
/-- The definition of a foreign key. -/
structure ForD (s:List GTab) (t:GTab) (f:GFor) (r:GRef):Prop where
 len:r.columns_.length=f.columns_.length
 nam:NamS t.columns_ f.columns_ r.columns_
 tab:∃ j q:Nat,f.table_=((j:Nat):Int)∧f.key_=((q:Nat):Int)∧∃ hj:j < s.length,∃ hq:q < s[j].keys_.length,r.table_=s[j].name_∧r.target_.length=s[j].keys_[q].length∧NamS s[j].columns_ s[j].keys_[q] r.target_
def ForsD (s:List GTab) (t:GTab) (L:List GRef):Prop:=∀ j (h:j < L.length) (h2:j < t.foreign_.length),ForD s t t.foreign_[j] L[j]
theorem ForsD.snoc {s:List GTab} {t:GTab} {L:List GRef} {r:GRef} {k:Nat} (h:ForsD s t L) (e:L.length=k) (hk:k < t.foreign_.length) (hr:ForD s t t.foreign_[k] r):ForsD s t (L++[r]):=by
 intro j hj h2
 by_cases c:j < L.length
 ·rw [List.getElem_append_left c]; exact h j c h2
 have e2:j=k:=by simp at hj; omega
 subst e2
 rw [List.getElem_append_right (by omega)]
 simpa [e] using hr
/-- The definition of a table of a schema. -/
structure DefS (s:List GTab) (t:GTab) (x:GSta):Prop where
 name:x.table_=t.name_
 cols:x.create_.columns_=t.columns_
 keys:x.create_.keys_.map List.length=t.keys_.map List.length
 fl:x.create_.foreign_.length=t.foreign_.length
 fors:ForsD s t x.create_.foreign_
theorem by188:(Tryz.prog.info? 188).map (·.bytes)=some 24:=by kernel_rfl
theorem by190:(Tryz.prog.info? 190).map (·.bytes)=some 64:=by kernel_rfl
theorem row58:rowOf Tryz.prog 58=some (some 22):=by kernel_rfl
theorem sz188:sizeInfo Tryz.prog 188=some 1:=by kernel_rfl
theorem sz190:sizeInfo Tryz.prog 190=some 3:=by kernel_rfl
theorem sz27:sizeInfo Tryz.prog 27=some 5:=by kernel_rfl
theorem sz59:sizeInfo Tryz.prog 59=some 1:=by kernel_rfl
theorem zr188:zeroOf Tryz.prog 188=some (.slice none 0 0):=by kernel_rfl
theorem zr190:zeroOf Tryz.prog 190=some (.agg #[.slice none 0 0,.string ⟨#[]⟩,.slice none 0 0]):=by kernel_rfl
set_option maxRecDepth 100000 in
set_option maxHeartbeats 4000000 in
theorem definition_p (s:List GTab) (hs:FitL s (fun y=>FitTab y)) (n:Nat) (hn:n < s.length) (hv:SchV s) (hsm:∀ t∈s,SmTab t):PRet Tryz.prog 51 [.tree 5 (s.map tabA),.v (.int .i64 ((n:Nat):Int))] (fun r=>∃ x:GSta,r=.agg (staA x)∧FitSta x∧DefOk x∧DefS s s[n] x):=by
 have hsn:=hs.2 _ (List.getElem_mem hn)
 have hmn:=hsm _ (List.getElem_mem hn)
 have hm1:=hmn.cols
 have hm2:=hmn.keys
 have hm3:=hmn.fors
 refine PRet.of_vc infOk [62,78] [8,14] Tryz.func51 rfl Tryz.ntmps51 rfl (by kernel_rfl) ?_
 refine IdxG.of (by assumption) ⟨by kernel_rfl,LpG.via (fun _ h=>AWP.lazyC 2 3 1 rfl rfl rfl rfl rfl 4 rfl h) ?_⟩
 refine LpG.on (fun k0:KL (List ByteArray)=>(⟨fL [(0,.tree 5 (s.map tabA)),(4,.ptr 0 0 0),(5,.ptr 1 0 0),(6,.ptr 2 0 0),(7,.v (.int .i64 ((k0.k:Nat):Int)))],hLz [(0,⟨0,[.v (.int .i64 0),.v (.string ⟨#[]⟩),.v (.slice none 0 0),.v (.slice none 0 0),.v (.slice none 0 0),.v (.slice none 0 0),.v (.slice none 0 0),.v (.slice none 0 0),.v (.slice none 0 0),.v (.slice none 0 0),.v (.int .i64 0),.v (.string ⟨#[]⟩),.v (.string ⟨#[]⟩),.v (.int .i64 0),.v (.int .i64 0),.v (.int .i64 0),.v (.string ⟨#[]⟩),.v (.slice none 0 0),.v (.slice none 0 0),.v (.slice none 0 0),.v (.int .i64 0),.v (.string ⟨#[]⟩)],0,false⟩),(1,⟨0,tabA s[n],0,false⟩),(2,⟨0,[.v (.int .i64 1),.v (.string s[n].name_),.tree 6 (s[n].columns_.map colA),.sl 3 k0.L.length 0 k0.L.length,.v (.slice none 0 0),.tree 8 (s[n].checks_.map rwA),.v (.slice none 0 0),.v (.slice none 0 0),.v (.slice none 0 0),.v (.slice none 0 0),.v (.int .i64 0),.v (.string ⟨#[]⟩),.v (.string ⟨#[]⟩),.v (.int .i64 0),.v (.int .i64 0),.v (.int .i64 0),.v (.string ⟨#[]⟩),.v (.slice none 0 0),.v (.slice none 0 0),.v (.slice none 0 0),.v (.int .i64 0),.v (.string ⟨#[]⟩)],0,false⟩),(3,⟨k0.L.length,rF (fun l=>[.tree 1 (l.map sA)]) k0.L,1,Nat.beq k0.L.length 0⟩)],4⟩:St)) (fun k0=>(s[n].keys_.length - k0.k)) (fun k0=>(k0.k≤s[n].keys_.length∧(k0.L.length=k0.k∧(∀ y∈k0.L,FitL y (fun z=>FitS z)∧y.length≤20)∧k0.L.map List.length=(s[n].keys_.take k0.k).map List.length))) (⟨0,[]⟩:KL (List ByteArray)) (cO (.cons rfl rfl (.cons rfl rfl (.cons rfl rfl (.cons rfl rfl (.cons rfl rfl .nil))))) (.cons rfl rfl rfl (.cons rfl rfl rfl (.cons (by rfl) rfl rfl (.cons (by rfl) rfl (rF_low row_ls _ _) .nil))))) ⟨Nat.zero_le _,⟨rfl,fun y hy=>absurd hy (by simp),rfl⟩⟩ ?_
 rintro k0 hinv
 have hgr_k0:s[n].keys_.length≤140737488355328:=(hs.2 _ (List.getElem_mem _)).keys_.1
 obtain ⟨hle_k0,hi_k0⟩:=hinv
 refine LenG.of (cL (fun hlt30=>?_) (fun hge30=>?_))
 ·have hin:=(hv n hn).keys _ (List.getElem_mem hlt30)
  have hkl:=hi_k0.1
  have hk20:=hmn.key _ (List.getElem_mem hlt30)
  refine IdxG.of (by assumption) (ArgG.mk (names_p (s[n]) (hs.2 _ (List.getElem_mem _)) (s[n].keys_[k0.k]) ((hs.2 _ (List.getElem_mem _)).keys_.2 _ (List.getElem_mem _)) (by assumption) (by omega)) rfl ?_)
  rintro _ ⟨L0,rfl,hL0,hLf0,hLn0⟩
  refine OpG.mk _ _ _ 5 (LOp.appRow row_ls (a:=L0) Tryz.underlying49 sz188 zr188 by188 rfl rfl rfl (Src.slB rfl rfl rfl rfl) rfl (by omega) (by omega) (by unfold TV; omega)) rfl rfl ?_
  refine ⟨by kernel_rfl,?_⟩
  refine ⟨by omega,?_⟩
  refine ⟨(⟨k0.k+1,k0.L++[L0]⟩:KL (List ByteArray)),(by show s[n].keys_.length - (k0.k+1) < s[n].keys_.length - k0.k; omega),(cO (.cons rfl rfl (.cons rfl rfl (.cons rfl rfl (.cons rfl rfl (.cons rfl rfl .nil))))) (.cons rfl rfl rfl (.cons rfl rfl rfl (.cons (by (rw [List.length_append]; rfl)) rfl rfl (.cons (by (rw [List.length_append]; rfl)) rfl (rF_low row_ls _ _) .nil))))),?_⟩
  refine ⟨by show k0.k+1≤_; omega,?_⟩
  exact ⟨by show (_++[_]).length=k0.k+1; rw [List.length_append,hi_k0.1]; rfl,all_snoc hi_k0.2.1 ⟨hLf0,by omega⟩,by show (_++[_]).map _=_; rw [List.take_succ_eq_append_getElem hlt30,List.map_append,List.map_append,hi_k0.2.2]; simp [hL0]⟩
 refine RegG.via (fun _ h=>AWP.freezeB [3] 2 0 0 [.v (.int .i64 1),.v (.string s[n].name_),.tree 6 (s[n].columns_.map colA),.sl 3 k0.L.length 0 k0.L.length,.v (.slice none 0 0),.tree 8 (s[n].checks_.map rwA),.v (.slice none 0 0),.v (.slice none 0 0),.v (.slice none 0 0),.v (.slice none 0 0),.v (.int .i64 0),.v (.string ⟨#[]⟩),.v (.string ⟨#[]⟩),.v (.int .i64 0),.v (.int .i64 0),.v (.int .i64 0),.v (.string ⟨#[]⟩),.v (.slice none 0 0),.v (.slice none 0 0),.v (.slice none 0 0),.v (.int .i64 0),.v (.string ⟨#[]⟩)] [.v (.int .i64 1),.v (.string s[n].name_),.tree 6 (s[n].columns_.map colA),.tree 1 (k0.L.map (fun l=>[.tree 1 (l.map sA)])),.v (.slice none 0 0),.tree 8 (s[n].checks_.map rwA),.v (.slice none 0 0),.v (.slice none 0 0),.v (.slice none 0 0),.v (.slice none 0 0),.v (.int .i64 0),.v (.string ⟨#[]⟩),.v (.string ⟨#[]⟩),.v (.int .i64 0),.v (.int .i64 0),.v (.int .i64 0),.v (.string ⟨#[]⟩),.v (.slice none 0 0),.v (.slice none 0 0),.v (.slice none 0 0),.v (.int .i64 0),.v (.string ⟨#[]⟩)] rfl rfl (.keep (.keep (.keep (.fz (FzP.rows row_ls (List.mem_singleton.2 rfl) rfl) (.same _))))) rfl h) ?_
 refine RegG.go ?_
 refine LpG.via (fun _ h=>AWP.lazyC 2 4 3 rfl rfl rfl rfl rfl 5 rfl h) ?_
 refine LpG.on (fun k2:KL GRef=>(⟨fL [(0,.tree 5 (s.map tabA)),(4,.ptr 0 0 0),(5,.ptr 1 0 0),(6,.ptr 2 0 0),(8,.v (.int .i64 ((k2.k:Nat):Int)))],hLz [(0,⟨0,[.v (.int .i64 0),.v (.string ⟨#[]⟩),.v (.slice none 0 0),.v (.slice none 0 0),.v (.slice none 0 0),.v (.slice none 0 0),.v (.slice none 0 0),.v (.slice none 0 0),.v (.slice none 0 0),.v (.slice none 0 0),.v (.int .i64 0),.v (.string ⟨#[]⟩),.v (.string ⟨#[]⟩),.v (.int .i64 0),.v (.int .i64 0),.v (.int .i64 0),.v (.string ⟨#[]⟩),.v (.slice none 0 0),.v (.slice none 0 0),.v (.slice none 0 0),.v (.int .i64 0),.v (.string ⟨#[]⟩)],0,false⟩),(1,⟨0,tabA s[n],0,false⟩),(2,⟨0,[.v (.int .i64 1),.v (.string s[n].name_),.tree 6 (s[n].columns_.map colA),.tree 1 (k0.L.map (fun l=>[.tree 1 (l.map sA)])),.sl 4 k2.L.length 0 k2.L.length,.tree 8 (s[n].checks_.map rwA),.v (.slice none 0 0),.v (.slice none 0 0),.v (.slice none 0 0),.v (.slice none 0 0),.v (.int .i64 0),.v (.string ⟨#[]⟩),.v (.string ⟨#[]⟩),.v (.int .i64 0),.v (.int .i64 0),.v (.int .i64 0),.v (.string ⟨#[]⟩),.v (.slice none 0 0),.v (.slice none 0 0),.v (.slice none 0 0),.v (.int .i64 0),.v (.string ⟨#[]⟩)],0,false⟩),(4,⟨k2.L.length,rF refA k2.L,3,Nat.beq k2.L.length 0⟩)],5⟩:St)) (fun k2=>(s[n].foreign_.length - k2.k)) (fun k2=>(k2.k≤s[n].foreign_.length∧(k2.L.length=k2.k∧(∀ y∈k2.L,FitRef y∧y.columns_.length≤20∧y.target_.length≤20)∧ForsD s s[n] k2.L))) (⟨0,[]⟩:KL GRef) (cO (.cons rfl rfl (.cons rfl rfl (.cons rfl rfl (.cons rfl rfl (.cons rfl rfl .nil))))) (.cons rfl rfl rfl (.cons rfl rfl rfl (.cons (by rfl) rfl rfl (.cons (by rfl) rfl (rF_low row_refA _ _) .nil))))) ⟨Nat.zero_le _,⟨rfl,fun y hy=>absurd hy (by simp),fun j h=>absurd h (Nat.not_lt_zero j)⟩⟩ ?_
 rintro k2 hinv
 have hgr_k2:s[n].foreign_.length≤140737488355328:=(hs.2 _ (List.getElem_mem _)).foreign_.1
 obtain ⟨hle_k2,hi_k2⟩:=hinv
 refine LenG.of (cL (fun hlt51=>?_) (fun hge51=>?_))
 ·obtain ⟨j1,q1,hj1,hq1,hjn,hjs,hqs⟩:=((hv n hn).fors _ (List.getElem_mem hlt51)).tab
  have hfl:=hi_k2.1
  have hin1:=((hv n hn).fors _ (List.getElem_mem hlt51)).cols
  have hin2:=(hv j1 hjs).keys _ (List.getElem_mem hqs)
  have hf20:=hmn.fcol _ (List.getElem_mem hlt51)
  have hk20:=(hsm _ (List.getElem_mem hjs)).key _ (List.getElem_mem hqs)
  refine IdxG.of (by assumption) (OpG.lk (LOp.indexI Tryz.underlying48 sz27 rfl rfl hj1 hjs) ?_)
  refine ArgG.mk (names_p (s[n]) (hs.2 _ (List.getElem_mem _)) (s[n].foreign_[k2.k].columns_) ((hs.2 _ (List.getElem_mem _)).foreign_.2 _ (List.getElem_mem _)).columns_ (by assumption) (by omega)) rfl ?_
  rintro _ ⟨L1,rfl,hL1,hLf1,hLn1⟩
  refine OpG.lk (LOp.indexI Tryz.underlying23 sz59 rfl rfl hq1 hqs) ?_
  refine ArgG.mk (names_p (s[j1]) (hs.2 _ (List.getElem_mem _)) (s[j1].keys_[q1]) ((hs.2 _ (List.getElem_mem _)).keys_.2 _ (List.getElem_mem _)) (by assumption) (by omega)) rfl ?_
  rintro _ ⟨L2,rfl,hL2,hLf2,hLn2⟩
  refine OpG.mk _ _ _ 8 (LOp.appRow row_refA (a:=(⟨L1,s[j1].name_,L2⟩:GRef)) Tryz.underlying50 sz190 zr190 by190 rfl rfl rfl (Src.slB rfl rfl rfl rfl) rfl (by omega) (by omega) (by unfold TV; omega)) rfl rfl ?_
  refine ⟨by kernel_rfl,?_⟩
  refine ⟨by omega,?_⟩
  refine ⟨(⟨k2.k+1,k2.L++[(⟨L1,s[j1].name_,L2⟩:GRef)]⟩:KL GRef),(by show s[n].foreign_.length - (k2.k+1) < s[n].foreign_.length - k2.k; omega),(cO (.cons rfl rfl (.cons rfl rfl (.cons rfl rfl (.cons rfl rfl (.cons rfl rfl .nil))))) (.cons rfl rfl rfl (.cons rfl rfl rfl (.cons (by (rw [List.length_append]; rfl)) rfl rfl (.cons (by (rw [List.length_append]; rfl)) rfl (rF_low row_refA _ _) .nil))))),?_⟩
  refine ⟨by show k2.k+1≤_; omega,?_⟩
  exact ⟨by show (_++[_]).length=k2.k+1; rw [List.length_append,hi_k2.1]; rfl,all_snoc hi_k2.2.1 ⟨⟨hLf1,(hs.2 _ (List.getElem_mem hjs)).name_,hLf2⟩,by show L1.length≤20; omega,by show L2.length≤20; omega⟩,hi_k2.2.2.snoc hi_k2.1 hlt51 ⟨hL1,hLn1,j1,q1,hj1,hq1,hjs,hqs,rfl,hL2,hLn2⟩⟩
 refine RegG.via (fun _ h=>AWP.freezeB [4] 2 0 0 [.v (.int .i64 1),.v (.string s[n].name_),.tree 6 (s[n].columns_.map colA),.tree 1 (k0.L.map (fun l=>[.tree 1 (l.map sA)])),.sl 4 k2.L.length 0 k2.L.length,.tree 8 (s[n].checks_.map rwA),.v (.slice none 0 0),.v (.slice none 0 0),.v (.slice none 0 0),.v (.slice none 0 0),.v (.int .i64 0),.v (.string ⟨#[]⟩),.v (.string ⟨#[]⟩),.v (.int .i64 0),.v (.int .i64 0),.v (.int .i64 0),.v (.string ⟨#[]⟩),.v (.slice none 0 0),.v (.slice none 0 0),.v (.slice none 0 0),.v (.int .i64 0),.v (.string ⟨#[]⟩)] [.v (.int .i64 1),.v (.string s[n].name_),.tree 6 (s[n].columns_.map colA),.tree 1 (k0.L.map (fun l=>[.tree 1 (l.map sA)])),.tree 3 (k2.L.map refA),.tree 8 (s[n].checks_.map rwA),.v (.slice none 0 0),.v (.slice none 0 0),.v (.slice none 0 0),.v (.slice none 0 0),.v (.int .i64 0),.v (.string ⟨#[]⟩),.v (.string ⟨#[]⟩),.v (.int .i64 0),.v (.int .i64 0),.v (.int .i64 0),.v (.string ⟨#[]⟩),.v (.slice none 0 0),.v (.slice none 0 0),.v (.slice none 0 0),.v (.int .i64 0),.v (.string ⟨#[]⟩)] rfl rfl (.keep (.keep (.keep (.keep (.fz (FzP.rows row_refA (List.mem_singleton.2 rfl) rfl) (.same _)))))) rfl h) ?_
 refine RegG.go ?_
 refine ⟨.inr rfl,_,Outs.cell Tryz.results51 row58 rfl rfl rfl rfl rfl ⟨[],FzP.pure rfl⟩,?_⟩
 have g1:=hi_k0.1
 have g2:=hi_k2.1
 exact ⟨⟨1,s[n].name_,⟨s[n].columns_,k0.L,k2.L,s[n].checks_⟩⟩,rfl,⟨hsn.name_,⟨hsn.columns_,⟨by show k0.L.length≤_; omega,fun y hy=>(hi_k0.2.1 y hy).1⟩,⟨by show k2.L.length≤_; omega,fun y hy=>(hi_k2.2.1 y hy).1⟩,hsn.checks_⟩⟩,⟨hm1,by show k0.L.length≤10; omega,by show k2.L.length≤10; omega,fun k hk=>(hi_k0.2.1 k hk).2,fun f hf=>(hi_k2.2.1 f hf).2⟩,⟨rfl,rfl,by have e:=hi_k0.2.2; rwa [List.take_of_length_le (by omega)] at e,by show k2.L.length=_; omega,hi_k2.2.2⟩⟩
end Go.Proofs.YtjdblmpkeilbaaaGreatDoor
namespace Go.Proofs.YtjdblmpkeilbaaaGreatDoor
set_option linter.unusedVariables false
set_option linter.unusedSimpArgs false
open Go.RowKit
theorem row_tabA:RowF tabA 5:=⟨fun _=>rfl,fun _=>rfl,fun _ _=>rfl,fun _ _=>rfl,fun _ _=>rfl,fun _=>rfl⟩
theorem row_forA:RowF forA 3:=⟨fun _=>rfl,fun _=>rfl,fun _ _=>rfl,fun _ _=>rfl,fun _ _=>rfl,fun _=>rfl⟩
theorem row_li:RowF (fun l:List Int=>[AV.tree 1 (l.map iA)]) 1:=⟨fun _=>rfl,fun _=>rfl,fun _ _=>rfl,fun _ _=>rfl,fun _ _=>rfl,fun _=>rfl⟩
structure KFE where
 k:Nat
 L:List GFor
 e:Int
abbrev schB (S:List GTab):Blk:=⟨S.length,rF tabA S,5,Nat.beq S.length 0⟩
/-- A foreign key of a definition refers to columns of the same types; S: the tables ahead. -/
def FkT (S:List GTab) (x:GSta) (f:GRef):Prop:=∃ (uc:List GCol),((f.table_=x.table_∧uc=x.create_.columns_)∨∃ u∈S,u.name_=f.table_∧u.columns_=uc)∧∃ L1 L3:List Int,L1.length=f.columns_.length∧NamS x.create_.columns_ L1 f.columns_∧NamS uc L3 f.target_∧L3.length=f.target_.length∧TypS x.create_.columns_ uc L1 L3
theorem fk_next {S:List GTab} {x:GSta} {k:Nat} {e e':Int} (hi:e=0→∀ j (hl:j < x.create_.foreign_.length),j < k→FkT S x x.create_.foreign_[j]) (h:e'=0→e=0∧∀ hk:k < x.create_.foreign_.length,FkT S x x.create_.foreign_[k]):e'=0→∀ j (hl:j < x.create_.foreign_.length),j < k+1→FkT S x x.create_.foreign_[j]:=fun he j hl hj=>by
 rcases Nat.lt_succ_iff_lt_or_eq.1 hj with hj | rfl
 ·exact hi (h he).1 j hl hj
 exact (h he).2 hl
theorem fk_of {S:List GTab} {x:GSta} {f:GRef} {all:List GTab} {T0:GTab} {j:Nat} {L1 L3:List Int} (hae:all=[]++S++[T0]) (h0:T0.name_=x.table_) (h1:T0.columns_=x.create_.columns_) (hj:j < all.length) (hn:all[j].name_=f.table_) (l1:L1.length=f.columns_.length) (n1:NamS x.create_.columns_ L1 f.columns_) (n3:NamS all[j].columns_ L3 f.target_) (l3:L3.length=f.target_.length) (ht:TypS x.create_.columns_ all[j].columns_ L1 L3):FkT S x f:=by
 refine ⟨all[j].columns_,?_,L1,L3,l1,n1,n3,l3,ht⟩
 have hm:all[j]∈[]++S++[T0]:=hae ▸ List.getElem_mem hj
 rw [List.nil_append] at hm
 rcases List.mem_append.1 hm with hm | hm
 ·exact .inr ⟨_,hm,hn,rfl⟩
 have e:=List.mem_singleton.1 hm
 exact .inl ⟨by rw [← hn,e,h0],by rw [e,h1]⟩
theorem bod131:bodied Tryz.prog 131=true:=by kernel_rfl
theorem bod133:bodied Tryz.prog 133=true:=by kernel_rfl
theorem by138:(Tryz.prog.info? 138).map (·.bytes)=some 40:=by kernel_rfl
theorem by27:(Tryz.prog.info? 27).map (·.bytes)=some 112:=by kernel_rfl
theorem by59:(Tryz.prog.info? 59).map (·.bytes)=some 24:=by kernel_rfl
theorem row27:rowOf Tryz.prog 27=some (some 5):=by kernel_rfl
theorem sz138:sizeInfo Tryz.prog 138=some 3:=by kernel_rfl
theorem zr138:zeroOf Tryz.prog 138=some (.agg #[.slice none 0 0,.int .i64 0,.int .i64 0]):=by kernel_rfl
theorem zr27:zeroOf Tryz.prog 27=some (.agg #[.string ⟨#[]⟩,.slice none 0 0,.slice none 0 0,.slice none 0 0,.slice none 0 0]):=by kernel_rfl
theorem zr59:zeroOf Tryz.prog 59=some (.slice none 0 0):=by kernel_rfl
set_option maxRecDepth 100000 in
set_option maxHeartbeats 4000000 in
theorem table_h (x:GSta) (hx:FitSta x) (S:List GTab) (hS:FitL S (fun y=>FitTab y)) (hS2:S.length≤8) (hd:DefOk x) (hfl:∀ f∈x.create_.foreign_,f.columns_.length=f.target_.length):HRet Tryz.prog 91 [.sl TOP S.length 0 S.length,.agg (staA x)] [(TOP,schB S)] [(TOP,some (schB S))] (fun r=>∃ (t:GTab) (e:Int),r=.tup [.agg (tabA t),.v (.int .i64 e)]∧FitTab t∧(e=0→t.name_=x.table_∧t.columns_=x.create_.columns_∧∀ f∈x.create_.foreign_,FkT S x f)):=by
 have hd1:=hd.kl
 have hd2:=hd.fl
 refine HRet.of_vc infOk [47,61,62,64,83,144] [9,10,33] Tryz.func91 rfl Tryz.ntmps91 rfl (by kernel_rfl) (LpG.via (fun _ h=>AWP.lazyC 2 2 1 rfl rfl rfl rfl rfl 4 rfl h) ?_)
 refine LpG.on (fun k0:KL (List Int)=>(⟨fL [(0,.sl TOP S.length 0 S.length),(3,.ptr 0 0 0),(4,.ptr 1 0 0),(6,.ptr 2 0 0),(7,.v (.int .i64 ((k0.k:Nat):Int)))],hLz [(0,⟨0,staA x,0,false⟩),(1,⟨0,[.v (.string ⟨#[]⟩),.v (.slice none 0 0),.v (.slice none 0 0),.v (.slice none 0 0),.v (.slice none 0 0)],0,false⟩),(2,⟨0,[.v (.string x.table_),.tree 6 (x.create_.columns_.map colA),.sl 3 k0.L.length 0 k0.L.length,.v (.slice none 0 0),.tree 8 (x.create_.checks_.map rwA)],0,false⟩),(3,⟨k0.L.length,rF (fun l=>[.tree 1 (l.map iA)]) k0.L,1,Nat.beq k0.L.length 0⟩),(1000000,schB S)],4⟩:St)) (fun k0=>(x.create_.keys_.length - k0.k)) (fun k0=>(k0.k≤x.create_.keys_.length∧(k0.L.length=k0.k∧∀ y∈k0.L,FitL y (fun _=>True)))) (⟨0,[]⟩:KL (List Int)) (cO (.cons rfl rfl (.cons rfl rfl (.cons rfl rfl (.cons rfl rfl (.cons rfl rfl .nil))))) (.cons rfl rfl rfl (.cons rfl rfl rfl (.cons (by rfl) rfl rfl (.cons (by rfl) rfl (rF_low row_li _ _) (.cons rfl rfl (rF_low row_tabA _ _) .nil)))))) ⟨Nat.zero_le _,⟨rfl,fun y hy=>absurd hy (by simp)⟩⟩ ?_
 rintro k0 hinv
 have hgr_k0:x.create_.keys_.length≤140737488355328:=hx.create_.keys_.1
 obtain ⟨hle_k0,hi_k0⟩:=hinv
 refine LenG.of (cL (fun hlt36=>?_) (fun hge36=>?_))
 ·have hkl:=hi_k0.1
  have hk20:=hd.key _ (List.getElem_mem hlt36)
  refine IdxG.of (by assumption) ?_
  obtain ⟨_,⟨L0,b0,rfl,hLf0,hL0,hLn0⟩,hcl0⟩:=numbersu_p ⟨x.table_,x.create_.columns_⟩ ⟨hx.table_,hx.create_.columns_⟩ x.create_.keys_[k0.k] (hx.create_.keys_.2 _ (List.getElem_mem hlt36)) (by omega)
  refine OpG.lk (LOp.callU bod131 (.cons (FzP.aggL (.cons (.pure rfl) (.cons (.pure rfl) (.cons .unk (.cons .unk (.cons .unk .nil)))))) (.cons (.pure rfl) .nil)) hcl0) ⟨by kernel_rfl,cB (fun hc51=>?_) (fun hc51=>?_)⟩
  ·exact ⟨.inr rfl,_,OutsH.of [] (ResIs.res Tryz.results91 (.cons (OutX.cellN row27 rfl rfl trivial rfl rfl rfl) (.cons (OutX.tmp rfl) .nil))) rfl ⟨.same rfl (by decide),trivial⟩ (.tup (.fz (FzP.aggL (.cons (.pure rfl) (.cons (FzP.nil (n:=6)) (.cons (FzP.nil (n:=1)) (.cons (FzP.nil (n:=3)) (.cons (FzP.nil (n:=8)) .nil)))))) (.same .nil))),⟨⟨⟨#[]⟩,[],[],[],[]⟩,_,rfl,⟨Nat.zero_le _,⟨Nat.zero_le _,by simp⟩,⟨Nat.zero_le _,by simp⟩,⟨Nat.zero_le _,by simp⟩,⟨Nat.zero_le _,by simp⟩⟩,by exact fun h=>absurd h (by decide)⟩⟩
  refine OpG.mk _ _ _ 5 (LOp.appRow row_li (a:=L0) Tryz.underlying23 sz59 zr59 by59 rfl rfl rfl (Src.slB rfl rfl rfl rfl) rfl (by omega) (by omega) (by unfold TV; omega)) rfl rfl ⟨by omega,⟨(⟨k0.k+1,k0.L++[L0]⟩:KL (List Int)),(by show x.create_.keys_.length - (k0.k+1) < x.create_.keys_.length - k0.k; omega),(cO (.cons rfl rfl (.cons rfl rfl (.cons rfl rfl (.cons rfl rfl (.cons rfl rfl .nil))))) (.cons rfl rfl rfl (.cons rfl rfl rfl (.cons (by (rw [List.length_append]; rfl)) rfl rfl (.cons (by (rw [List.length_append]; rfl)) rfl (rF_low row_li _ _) (.cons rfl rfl (rF_low row_tabA _ _) .nil)))))),?_⟩⟩
  exact ⟨by show k0.k+1≤_; omega,⟨by show (_++[_]).length=k0.k+1; rw [List.length_append,hi_k0.1]; rfl,all_snoc hi_k0.2 hLf0⟩⟩
 refine RegG.via (fun _ h=>AWP.freezeB [3] 2 0 0 [.v (.string x.table_),.tree 6 (x.create_.columns_.map colA),.sl 3 k0.L.length 0 k0.L.length,.v (.slice none 0 0),.tree 8 (x.create_.checks_.map rwA)] [.v (.string x.table_),.tree 6 (x.create_.columns_.map colA),.tree 1 (k0.L.map (fun l=>[.tree 1 (l.map iA)])),.v (.slice none 0 0),.tree 8 (x.create_.checks_.map rwA)] rfl rfl (.keep (.keep (.fz (FzP.rows row_li (List.mem_singleton.2 rfl) rfl) (.same _)))) rfl h) (RegG.go ?_)
 refine OpG.nw (LOp.buildSlice0 4 Tryz.underlying48 sz27) rfl (OpG.mk _ _ _ 5 (LOp.appRowsO row_tabA (l:=[]) (l':=S) Tryz.underlying48 sz27 zr27 by27 rfl rfl rfl rfl rfl (by simp only [List.length_nil]; omega) (by simp only [List.length_nil]; omega) (by unfold TV; omega)) rfl rfl ?_)
 refine OpG.lk (LOp.wkF (LOp.ldN row27 rfl rfl rfl rfl rfl) (fun _=>FzP.aggL (.cons (.pure rfl) (.cons (.pure rfl) (.cons (.pure rfl) (.cons (FzP.nil (n:=3)) (.cons (.pure rfl) .nil))))))) (OpG.mk _ _ _ 6 (LOp.appRowB row_tabA (l:=[]++S) (a:=(⟨x.table_,x.create_.columns_,k0.L,[],x.create_.checks_⟩:GTab)) Tryz.underlying48 sz27 zr27 by27 rfl rfl rfl (Src.slB rfl rfl rfl rfl) rfl (by simp only [List.nil_append]; omega) (by simp only [List.nil_append]; omega) (by unfold TV; omega)) rfl rfl ?_)
 refine ⟨by kernel_rfl,?_⟩
 obtain ⟨all,hae⟩:∃ all:List GTab,all=[]++S++[(⟨x.table_,x.create_.columns_,k0.L,[],x.create_.checks_⟩:GTab)]:=⟨_,rfl⟩
 have hkl:=hi_k0.1
 have hall:FitL all (fun y=>FitTab y):=by subst hae; exact ⟨by simp; omega,all_snoc hS.2 ⟨hx.table_,hx.create_.columns_,⟨by show k0.L.length≤_; omega,fun y hy=>hi_k0.2 y hy⟩,⟨Nat.zero_le _,by simp⟩,hx.create_.checks_⟩⟩
 refine RegG.via (fun _ h=>AWP.freeze [4] 10 (.tree 5 (all.map tabA)) (by rw [hae]; exact FzP.rowsF row_tabA (List.mem_singleton.2 rfl) rfl) rfl h) (RegG.go ?_)
 refine LpG.via (fun _ h=>AWP.lazyC 2 3 3 rfl rfl rfl rfl rfl 7 rfl h) (LpG.on (fun k2:KFE=>(⟨fL [(3,.ptr 0 0 0),(4,.ptr 1 0 0),(6,.ptr 2 0 0),(10,.tree 5 (all.map tabA)),(11,.v (.int .i64 k2.e)),(12,.v (.int .i64 ((k2.k:Nat):Int)))],hLz [(0,⟨0,staA x,0,false⟩),(1,⟨0,[.v (.string ⟨#[]⟩),.v (.slice none 0 0),.v (.slice none 0 0),.v (.slice none 0 0),.v (.slice none 0 0)],0,false⟩),(2,⟨0,[.v (.string x.table_),.tree 6 (x.create_.columns_.map colA),.tree 1 (k0.L.map (fun l=>[.tree 1 (l.map iA)])),.sl 6 k2.L.length 0 k2.L.length,.tree 8 (x.create_.checks_.map rwA)],0,false⟩),(6,⟨k2.L.length,rF forA k2.L,3,Nat.beq k2.L.length 0⟩),(1000000,schB S)],7⟩:St)) (fun k2=>(x.create_.foreign_.length - k2.k)) (fun k2=>(k2.k≤x.create_.foreign_.length∧(k2.L.length=k2.k∧(∀ y∈k2.L,FitFor y)∧(k2.e=0→∀ j (hl:j < x.create_.foreign_.length),j < k2.k→FkT S x x.create_.foreign_[j])))) (⟨0,[],0⟩:KFE) (cO (.cons rfl rfl (.cons rfl rfl (.cons rfl rfl (.cons rfl rfl (.cons rfl rfl (.cons rfl rfl .nil)))))) (.cons rfl rfl rfl (.cons rfl rfl rfl (.cons (by rfl) rfl rfl (.cons (by rfl) rfl (rF_low row_forA _ _) (.cons rfl rfl (rF_low row_tabA _ _) .nil)))))) ⟨Nat.zero_le _,⟨rfl,fun y hy=>absurd hy (by simp),fun _ j _ h=>absurd h (Nat.not_lt_zero j)⟩⟩ ?_)
 rintro k2 hinv
 have hgr_k2:x.create_.foreign_.length≤140737488355328:=hx.create_.foreign_.1
 obtain ⟨hle_k2,hi_k2⟩:=hinv
 refine LenG.of (cL (fun hlt70=>?_) (fun hge70=>?_))
 ·have hfl2:=hi_k2.1
  have hf20:=hd.fcl _ (List.getElem_mem hlt70)
  have hfe:=hfl _ (List.getElem_mem hlt70)
  refine IdxG.of (by assumption) ?_
  obtain ⟨_,⟨L1,b1,rfl,hLf1,hL1,hLn1⟩,hcl1⟩:=numbersu_p ⟨x.table_,x.create_.columns_⟩ ⟨hx.table_,hx.create_.columns_⟩ x.create_.foreign_[k2.k].columns_ ((hx.create_.foreign_.2 _ (List.getElem_mem hlt70)).columns_) (by omega)
  refine OpG.lk (LOp.callU bod131 (.cons (FzP.aggL (.cons (.pure rfl) (.cons (.pure rfl) (.cons .unk (.cons .unk (.cons .unk .nil)))))) (.cons (.pure rfl) .nil)) hcl1) (ArgG.mk (find12_p all hall (x.create_.foreign_[k2.k].table_) (hx.create_.foreign_.2 _ (List.getElem_mem _)).table_) rfl ?_)
  rintro _ ⟨j2,b2,rfl,hj2,hk2⟩
  refine cB (fun hg95=>?_) (fun hg95=>?_)
  ·exact cT ⟨.inr rfl,_,OutsH.of [] (ResIs.res Tryz.results91 (.cons (OutX.cellN row27 rfl rfl trivial rfl rfl rfl) (.cons (OutX.tmp rfl) .nil))) rfl ⟨.same rfl (by decide),trivial⟩ (.tup (.fz (FzP.aggL (.cons (.pure rfl) (.cons (FzP.nil (n:=6)) (.cons (FzP.nil (n:=1)) (.cons (FzP.nil (n:=3)) (.cons (FzP.nil (n:=8)) .nil)))))) (.same .nil))),⟨⟨⟨#[]⟩,[],[],[],[]⟩,_,rfl,⟨Nat.zero_le _,⟨Nat.zero_le _,by simp⟩,⟨Nat.zero_le _,by simp⟩,⟨Nat.zero_le _,by simp⟩,⟨Nat.zero_le _,by simp⟩⟩,by exact fun h=>absurd h (by decide)⟩⟩
  refine cB (fun hc98=>?_) (fun hc98=>?_)
  ·exact ⟨.inr rfl,_,OutsH.of [] (ResIs.res Tryz.results91 (.cons (OutX.cellN row27 rfl rfl trivial rfl rfl rfl) (.cons (OutX.tmp rfl) .nil))) rfl ⟨.same rfl (by decide),trivial⟩ (.tup (.fz (FzP.aggL (.cons (.pure rfl) (.cons (FzP.nil (n:=6)) (.cons (FzP.nil (n:=1)) (.cons (FzP.nil (n:=3)) (.cons (FzP.nil (n:=8)) .nil)))))) (.same .nil))),⟨⟨⟨#[]⟩,[],[],[],[]⟩,_,rfl,⟨Nat.zero_le _,⟨Nat.zero_le _,by simp⟩,⟨Nat.zero_le _,by simp⟩,⟨Nat.zero_le _,by simp⟩,⟨Nat.zero_le _,by simp⟩⟩,by exact fun h=>absurd h (by decide)⟩⟩
  have hb1t:b1=true:=by simpa using hg95
  have hb2t:b2=true:=by simpa using hc98
  have hjl:=hj2 hb2t
  refine IdxG.of (by assumption) (ArgG.mk (numbers_p (all[j2]) (hall.2 _ (List.getElem_mem _)) (x.create_.foreign_[k2.k].target_) (hx.create_.foreign_.2 _ (List.getElem_mem _)).target_ (by omega)) rfl ?_)
  rintro _ ⟨L3,b3,rfl,hLf3,hL3,hLn3⟩
  refine ⟨by kernel_rfl,LpG.on (fun k4:KE=>(⟨fL [(3,.ptr 0 0 0),(4,.ptr 1 0 0),(6,.ptr 2 0 0),(10,.tree 5 (all.map tabA)),(11,.v (.int .i64 k2.e)),(12,.v (.int .i64 ((k2.k:Nat):Int))),(14,.tree 1 (L1.map iA)),(16,.v (.int .i64 ((j2:Nat):Int))),(18,.tree 1 (L3.map iA)),(19,.v (.bool b3)),(20,.v (.int .i64 k4.e)),(21,.v (.int .i64 ((k4.k:Nat):Int)))],hLz [(0,⟨0,staA x,0,false⟩),(1,⟨0,[.v (.string ⟨#[]⟩),.v (.slice none 0 0),.v (.slice none 0 0),.v (.slice none 0 0),.v (.slice none 0 0)],0,false⟩),(2,⟨0,[.v (.string x.table_),.tree 6 (x.create_.columns_.map colA),.tree 1 (k0.L.map (fun l=>[.tree 1 (l.map iA)])),.sl 6 k2.L.length 0 k2.L.length,.tree 8 (x.create_.checks_.map rwA)],0,false⟩),(6,⟨k2.L.length,rF forA k2.L,3,Nat.beq k2.L.length 0⟩),(1000000,schB S)],8⟩:St)) (fun k4=>(all[j2].keys_.length - k4.k)) (fun k4=>(k4.k≤all[j2].keys_.length∧(0≤k4.e→b3=true))) (⟨0,-1⟩:KE) (cO (.cons rfl rfl (.cons rfl rfl (.cons rfl rfl (.cons rfl rfl (.cons rfl rfl (.cons rfl rfl (.cons rfl rfl (.cons rfl rfl (.cons rfl rfl (.cons rfl rfl (.cons rfl rfl (.cons rfl rfl .nil)))))))))))) (.cons rfl rfl rfl (.cons rfl rfl rfl (.cons rfl rfl rfl (.cons rfl rfl (rF_low row_forA _ _) (.cons rfl rfl (rF_low row_tabA _ _) .nil)))))) ⟨Nat.zero_le _,fun h=>absurd h (by decide)⟩ ?_⟩
  rintro k4 hinv
  have hgr_k4:all[j2].keys_.length≤140737488355328:=(hall.2 _ (List.getElem_mem _)).keys_.1
  obtain ⟨hle_k4,hi_k4⟩:=hinv
  refine IdxG.of (by assumption) (LenG.of ?_)
  refine cL (fun hlt117=>?_) (fun hge117=>?_)
  ·refine cB (fun hg121=>?_) (fun hg121=>?_)
   ·refine IdxG.of (by assumption) (IdxG.of (by assumption) ?_)
    refine ArgG.mk (ints_p (all[j2].keys_[k4.k]) ((hall.2 _ (List.getElem_mem _)).keys_.2 _ (List.getElem_mem _)) L3 hLf3) rfl ?_
    rintro _ ⟨b4,rfl⟩
    refine cB (fun hc132=>?_) (fun hc132=>?_)
    ·refine ⟨by omega,⟨(⟨k4.k+1,_⟩:KE),(by show all[j2].keys_.length - (k4.k+1) < all[j2].keys_.length - k4.k; omega),(cO (.cons rfl rfl (.cons rfl rfl (.cons rfl rfl (.cons rfl rfl (.cons rfl rfl (.cons rfl rfl (.cons rfl rfl (.cons rfl rfl (.cons rfl rfl (.cons rfl rfl (.cons rfl rfl (.cons rfl rfl .nil)))))))))))) (.cons rfl rfl rfl (.cons rfl rfl rfl (.cons rfl rfl rfl (.cons rfl rfl (rF_low row_forA _ _) (.cons rfl rfl (rF_low row_tabA _ _) .nil)))))),?_⟩⟩
     refine ⟨by show k4.k+1≤_; omega,?_⟩
     exact fun _=>hg121
    refine ⟨by omega,⟨(⟨k4.k+1,_⟩:KE),(by show all[j2].keys_.length - (k4.k+1) < all[j2].keys_.length - k4.k; omega),(cO (.cons rfl rfl (.cons rfl rfl (.cons rfl rfl (.cons rfl rfl (.cons rfl rfl (.cons rfl rfl (.cons rfl rfl (.cons rfl rfl (.cons rfl rfl (.cons rfl rfl (.cons rfl rfl (.cons rfl rfl .nil)))))))))))) (.cons rfl rfl rfl (.cons rfl rfl rfl (.cons rfl rfl rfl (.cons rfl rfl (rF_low row_forA _ _) (.cons rfl rfl (rF_low row_tabA _ _) .nil)))))),?_⟩⟩
    exact ⟨by show k4.k+1≤_; omega,hi_k4⟩
   refine cF ⟨by omega,⟨(⟨k4.k+1,_⟩:KE),(by show all[j2].keys_.length - (k4.k+1) < all[j2].keys_.length - k4.k; omega),(cO (.cons rfl rfl (.cons rfl rfl (.cons rfl rfl (.cons rfl rfl (.cons rfl rfl (.cons rfl rfl (.cons rfl rfl (.cons rfl rfl (.cons rfl rfl (.cons rfl rfl (.cons rfl rfl (.cons rfl rfl .nil)))))))))))) (.cons rfl rfl rfl (.cons rfl rfl rfl (.cons rfl rfl rfl (.cons rfl rfl (rF_low row_forA _ _) (.cons rfl rfl (rF_low row_tabA _ _) .nil)))))),?_⟩⟩
   exact ⟨by show k4.k+1≤_; omega,hi_k4⟩
  refine cB (fun hc135=>?_) (fun hc135=>?_)
  ·exact ⟨.inr rfl,_,OutsH.of [] (ResIs.res Tryz.results91 (.cons (OutX.cellN row27 rfl rfl trivial rfl rfl rfl) (.cons (OutX.tmp rfl) .nil))) rfl ⟨.same rfl (by decide),trivial⟩ (.tup (.fz (FzP.aggL (.cons (.pure rfl) (.cons (FzP.nil (n:=6)) (.cons (FzP.nil (n:=1)) (.cons (FzP.nil (n:=3)) (.cons (FzP.nil (n:=8)) .nil)))))) (.same .nil))),⟨⟨⟨#[]⟩,[],[],[],[]⟩,_,rfl,⟨Nat.zero_le _,⟨Nat.zero_le _,by simp⟩,⟨Nat.zero_le _,by simp⟩,⟨Nat.zero_le _,by simp⟩,⟨Nat.zero_le _,by simp⟩⟩,by exact fun h=>absurd h (by decide)⟩⟩
  have hb3t:b3=true:=hi_k4 (by have h:=of_decide_eq_false hc135; omega)
  have hn1:=hL1 hb1t
  have hn3:=hL3 hb3t
  have hn1l:=hn1.1
  have hn3l:=hn3.1
  refine IdxG.of (by assumption) ?_
  obtain ⟨_,⟨b5,rfl,hb5⟩,hcl5⟩:=typesu_p ⟨x.table_,x.create_.columns_⟩ ⟨hx.table_,hx.create_.columns_⟩ ⟨all[j2].name_,all[j2].columns_⟩ ⟨(hall.2 _ (List.getElem_mem hjl)).name_,(hall.2 _ (List.getElem_mem hjl)).columns_⟩ L1 hLf1 L3 hLf3 hn1.2 hn3.2 (by omega)
  refine OpG.lk (LOp.callU bod133 (.cons (FzP.aggL (.cons (.pure rfl) (.cons (.pure rfl) (.cons .unk (.cons .unk (.cons .unk .nil)))))) (.cons (FzP.aggL (.cons (.pure rfl) (.cons (.pure rfl) (.cons .unk (.cons .unk (.cons .unk .nil)))))) (.cons (.pure rfl) (.cons (.pure rfl) .nil)))) hcl5) ⟨by kernel_rfl,cB (fun hc145=>?_) (fun hc145=>?_)⟩
  ·refine OpG.mk _ _ _ 9 (LOp.appRow row_forA (a:=(⟨L1,((j2:Nat):Int),k4.e⟩:GFor)) Tryz.underlying24 sz138 zr138 by138 rfl rfl rfl (Src.slB rfl rfl rfl rfl) rfl (by omega) (by omega) (by unfold TV; omega)) rfl rfl ⟨by omega,⟨(⟨k2.k+1,k2.L++[(⟨L1,((j2:Nat):Int),k4.e⟩:GFor)],_⟩:KFE),(by show x.create_.foreign_.length - (k2.k+1) < x.create_.foreign_.length - k2.k; omega),(cO (.cons rfl rfl (.cons rfl rfl (.cons rfl rfl (.cons rfl rfl (.cons rfl rfl (.cons rfl rfl .nil)))))) (.cons rfl rfl rfl (.cons rfl rfl rfl (.cons (by (rw [List.length_append]; rfl)) rfl rfl (.cons (by (rw [List.length_append]; rfl)) rfl (rF_low row_forA _ _) (.cons rfl rfl (rF_low row_tabA _ _) .nil)))))),?_⟩⟩
   exact ⟨by show k2.k+1≤_; omega,⟨by show (_++[_]).length=k2.k+1; rw [List.length_append,hi_k2.1]; rfl,all_snoc hi_k2.2.1 ⟨hLf1⟩,fk_next hi_k2.2.2 (by exact fun h=>absurd (show (6:Int)=0 from h) (by decide))⟩⟩
  refine OpG.mk _ _ _ 9 (LOp.appRow row_forA (a:=(⟨L1,((j2:Nat):Int),k4.e⟩:GFor)) Tryz.underlying24 sz138 zr138 by138 rfl rfl rfl (Src.slB rfl rfl rfl rfl) rfl (by omega) (by omega) (by unfold TV; omega)) rfl rfl ⟨by omega,⟨(⟨k2.k+1,k2.L++[(⟨L1,((j2:Nat):Int),k4.e⟩:GFor)],_⟩:KFE),(by show x.create_.foreign_.length - (k2.k+1) < x.create_.foreign_.length - k2.k; omega),(cO (.cons rfl rfl (.cons rfl rfl (.cons rfl rfl (.cons rfl rfl (.cons rfl rfl (.cons rfl rfl .nil)))))) (.cons rfl rfl rfl (.cons rfl rfl rfl (.cons (by (rw [List.length_append]; rfl)) rfl rfl (.cons (by (rw [List.length_append]; rfl)) rfl (rF_low row_forA _ _) (.cons rfl rfl (rF_low row_tabA _ _) .nil)))))),?_⟩⟩
  exact ⟨by show k2.k+1≤_; omega,⟨by show (_++[_]).length=k2.k+1; rw [List.length_append,hi_k2.1]; rfl,all_snoc hi_k2.2.1 ⟨hLf1⟩,fk_next hi_k2.2.2 (by exact fun h=>⟨h,fun _=>fk_of hae rfl rfl hjl (hk2.1 hjl hb2t) hn1l (hLn1 hb1t) (hLn3 hb3t) hn3l (hb5 (by simpa using hc145))⟩)⟩⟩
 refine cB (fun hc156=>?_) (fun hc156=>?_)
 ·exact ⟨.inr rfl,_,OutsH.of [] (ResIs.res Tryz.results91 (.cons (OutX.cellN row27 rfl rfl trivial rfl rfl rfl) (.cons (OutX.tmp rfl) .nil))) rfl ⟨.same rfl (by decide),trivial⟩ (.tup (.fz (FzP.aggL (.cons (.pure rfl) (.cons (FzP.nil (n:=6)) (.cons (FzP.nil (n:=1)) (.cons (FzP.nil (n:=3)) (.cons (FzP.nil (n:=8)) .nil)))))) (.same .nil))),⟨⟨⟨#[]⟩,[],[],[],[]⟩,_,rfl,⟨Nat.zero_le _,⟨Nat.zero_le _,by simp⟩,⟨Nat.zero_le _,by simp⟩,⟨Nat.zero_le _,by simp⟩,⟨Nat.zero_le _,by simp⟩⟩,by exact fun h=>absurd h (by simpa using hc156)⟩⟩
 refine RegG.via (fun _ h=>AWP.freezeB [6] 2 0 0 [.v (.string x.table_),.tree 6 (x.create_.columns_.map colA),.tree 1 (k0.L.map (fun l=>[.tree 1 (l.map iA)])),.sl 6 k2.L.length 0 k2.L.length,.tree 8 (x.create_.checks_.map rwA)] [.v (.string x.table_),.tree 6 (x.create_.columns_.map colA),.tree 1 (k0.L.map (fun l=>[.tree 1 (l.map iA)])),.tree 3 (k2.L.map forA),.tree 8 (x.create_.checks_.map rwA)] rfl rfl (.keep (.keep (.keep (.fz (FzP.rows row_forA (List.mem_singleton.2 rfl) rfl) (.same _))))) rfl h) (RegG.go ?_)
 refine ⟨.inr rfl,_,OutsH.of [] (ResIs.res Tryz.results91 (.cons (OutX.cellN row27 rfl rfl trivial rfl rfl rfl) (.cons (OutX.tmp rfl) .nil))) rfl ⟨.same rfl (by decide),trivial⟩ .same,?_⟩
 have g1:=hi_k0.1
 have g2:=hi_k2.1
 exact ⟨⟨x.table_,x.create_.columns_,k0.L,k2.L,x.create_.checks_⟩,_,rfl,⟨hx.table_,hx.create_.columns_,⟨by show k0.L.length≤_; omega,fun y hy=>hi_k0.2 y hy⟩,⟨by show k2.L.length≤_; omega,fun y hy=>hi_k2.2.1 y hy⟩,hx.create_.checks_⟩,fun _=>⟨rfl,rfl,fun f hf=>by obtain ⟨j,hj,rfl⟩:=List.getElem_of_mem hf; exact hi_k2.2.2 (by simpa using hc156) j hj (by omega)⟩⟩
end Go.Proofs.YtjdblmpkeilbaaaGreatDoor
namespace Go.Proofs.YtjdblmpkeilbaaaGreatDoor
set_option linter.unusedVariables false
set_option linter.unusedSimpArgs false
open Go.RowKit
theorem sX {α:Type} {f:α→List AV} {q:Nat} (h:RowF f q) {g:Nat→Nat} {v:Nat} {l:List α} {n:Bool}:some (⟨v,rF f l,q,n⟩:Blk)=some ((Blk.mk v (rF f l) q n).ren g):=by rw [rF_blk h]
theorem row_staA:RowF staA 22:=⟨fun _=>rfl,fun _=>rfl,fun _ _=>rfl,fun _ _=>rfl,fun _ _=>rfl,fun _=>rfl⟩
abbrev nc (t:GTab):ByteArray×List GCol:=(t.name_,t.columns_)
abbrev ncS (x:GSta):ByteArray×List GCol:=(x.table_,x.create_.columns_)
theorem map_next {l:List GSta} {k:Nat} {L:List GTab} {t:GTab} (h:k < l.length) (hi:L.map nc=(l.take k).map ncS) (h1:t.name_=l[k].table_) (h2:t.columns_=l[k].create_.columns_):(L++[t]).map nc=(l.take (k+1)).map ncS:=by
 rw [List.take_succ_eq_append_getElem h,List.map_append,List.map_append,hi]; simp [nc,ncS,h1,h2]
/-- What Build asks of a definition. -/
structure BldS (l:List GSta) (j:Nat) (x:GSta):Prop where
 cols:∀ c∈x.create_.columns_,ColOk c
 kl:∀ k∈x.create_.keys_,k.length≠0
 fl:∀ f∈x.create_.foreign_,f.columns_.length=f.target_.length∧f.columns_.length≠0
 ds:Dist (·.name_) x.create_.columns_
 n0:x.create_.columns_.length≠0
 pre:∃ S:List GTab,S.map nc=(l.take j).map ncS∧(∀ t∈S,t.name_≠x.table_)∧∀ f∈x.create_.foreign_,FkT S x f
/-- A foreign key refers to a key of columns of the same types. -/
structure ForT (s:List GTab) (t:GTab) (f:GFor):Prop where
 ne:f.columns_.length≠0
 tab:∃ j q:Nat,f.table_=((j:Nat):Int)∧f.key_=((q:Nat):Int)∧∃ hj:j < s.length,∃ hq:q < s[j].keys_.length,s[j].keys_[q].length=f.columns_.length∧TypS t.columns_ s[j].columns_ f.columns_ s[j].keys_[q]
structure SchW (s:List GTab):Prop where
 key:∀ t∈s,∀ k∈t.keys_,k.length≠0
 fork:∀ t∈s,∀ f∈t.foreign_,ForT s t f
 col:∀ t∈s,t.columns_.length≠0
theorem namS_inj {T:List GCol} {a b:List Int} {N:List ByteArray} (hd:Dist (·.name_) T) (ha:NamS T a N) (hb:NamS T b N) (hl:a.length=b.length):a=b:=by
 refine List.ext_getElem hl fun i h1 h2=>?_
 obtain ⟨p,hp,e1,e2⟩:=ha i h1
 obtain ⟨q,hq,e3,e4⟩:=hb i h2
 have:p=q:=hd p q hp hq (Option.some.inj (e2.symm.trans e4))
 subst this
 rw [List.getElem?_eq_getElem h1] at e1
 rw [List.getElem?_eq_getElem h2] at e3
 exact (Option.some.inj e1).trans (Option.some.inj e3).symm
def DefsS (s:List GTab) (l:List GSta):Prop:=∀ i (h:i < s.length) (h2:i < l.length),DefS s s[i] l[i]
theorem DefsS.snoc {s:List GTab} {L:List GSta} {x:GSta} {k:Nat} (h:DefsS s L) (e:L.length=k) (hk:k < s.length) (hr:DefS s s[k] x):DefsS s (L++[x]):=by
 intro j hj h2
 by_cases c:j < L.length
 ·rw [List.getElem_append_left c]; exact h j hj c
 have e2:j=k:=by simp at h2; omega
 subst e2
 rw [List.getElem_append_right (by omega)]
 simpa [e] using hr
theorem schW {s:List GTab} {l:List GSta} (hl:l.length=s.length) (hd:DefsS s l) (hb:∀ i (h:i < l.length),BldS l i l[i]):SchW s:=by
 have hname:∀ i (h:i < s.length) (h2:i < l.length),l[i].table_=s[i].name_:=fun i h h2=>(hd i h h2).name
 have hcols:∀ i (h:i < s.length) (h2:i < l.length),l[i].create_.columns_=s[i].columns_:=fun i h h2=>(hd i h h2).cols
 have hne:∀ i j (hi:i < l.length) (hj:j < l.length),i < j→l[i].table_≠l[j].table_:=fun i j hi hj hij e=>by
  obtain ⟨S,e1,e2,_⟩:=(hb j hj).pre
  have hm:ncS l[i]∈(l.take j).map ncS:=List.mem_map.2 ⟨l[i],by rw [List.mem_take_iff_getElem]; exact ⟨i,by omega,rfl⟩,rfl⟩
  rw [← e1] at hm
  obtain ⟨t,ht,e3⟩:=List.mem_map.1 hm
  have e4:t.name_=l[i].table_:=congrArg Prod.fst e3
  exact e2 t ht (e4.trans e)
 have hinj:∀ i j (hi:i < l.length) (hj:j < l.length),l[i].table_=l[j].table_→i=j:=fun i j hi hj e=>by
  rcases Nat.lt_trichotomy i j with g | g | g
  ·exact absurd e (hne i j hi hj g)
  ·exact g
  ·exact absurd e.symm (hne j i hj hi g)
 have hds:∀ i (h:i < s.length),Dist (·.name_) s[i].columns_:=fun i h=>by
  rw [← hcols i h (by omega)]; exact (hb i (by omega)).ds
 constructor
 ·intro t ht k hk
  obtain ⟨i,hi,rfl⟩:=List.getElem_of_mem ht
  have h1:=(hd i hi (by omega)).keys
  have h2:k.length∈s[i].keys_.map List.length:=List.mem_map.2 ⟨k,hk,rfl⟩
  rw [← h1] at h2
  obtain ⟨k',hk',e⟩:=List.mem_map.1 h2
  rw [← e]; exact (hb i (by omega)).kl k' hk'
 ·intro t ht f hf
  obtain ⟨i,hi,rfl⟩:=List.getElem_of_mem ht
  obtain ⟨m,hm,rfl⟩:=List.getElem_of_mem hf
  have hil:i < l.length:=by omega
  have D:=hd i hi hil
  have hm2:m < l[i].create_.foreign_.length:=by rw [D.fl]; exact hm
  have F:=D.fors m hm2 hm
  have B:=hb i hil
  obtain ⟨g1,g2⟩:=B.fl _ (List.getElem_mem hm2)
  obtain ⟨j,q,f1,f2,hj,hq,f3,f4,f5⟩:=F.tab
  have hjl:j < l.length:=by omega
  obtain ⟨S,e1,_,e3⟩:=B.pre
  obtain ⟨uc,hu,L1,L3,l1,n1,n3,l3,ht3⟩:=e3 _ (List.getElem_mem hm2)
  have huc:uc=s[j].columns_:=by
   rcases hu with ⟨h1,h2⟩ | ⟨u,hu,h1,h2⟩
   ·have:i=j:=hinj i j hil hjl (by rw [hname j hj hjl,← f3,h1])
    subst this
    rw [h2,hcols i hi hil]
   ·have h4:nc u∈S.map nc:=List.mem_map.2 ⟨u,hu,rfl⟩
    rw [e1] at h4
    obtain ⟨y,hy,e5⟩:=List.mem_map.1 h4
    rw [List.mem_take_iff_getElem] at hy
    obtain ⟨p,hp,rfl⟩:=hy
    have h6:l[p].table_=u.name_:=congrArg Prod.fst e5
    have h7:l[p].create_.columns_=u.columns_:=congrArg Prod.snd e5
    have:p=j:=hinj p j (by omega) hjl (by rw [h6,h1,f3,hname j hj hjl])
    subst this
    rw [← h2,← h7,hcols p hj hjl]
  subst huc
  rw [hcols i hi hil] at n1 ht3
  obtain rfl:L1=s[i].foreign_[m].columns_:=namS_inj (hds i hi) n1 F.nam (by rw [l1,F.len])
  obtain rfl:L3=s[j].keys_[q]:=namS_inj (hds j hj) n3 f5 (by rw [l3,f4])
  exact ⟨by rw [← F.len]; exact g2,j,q,f1,f2,hj,hq,by rw [← f4,← g1,F.len],ht3⟩
 intro t ht
 obtain ⟨i,hi,rfl⟩:=List.getElem_of_mem ht
 rw [← hcols i hi (by omega)]; exact (hb i (by omega)).n0
theorem bld_end {s:List GTab} {l:List GSta} (hv:SchV s) (hl:l.length=s.length) (hd:DefsS s l) (hb:∀ i (h:i < l.length),BldS l i l[i]):SchV s∧(∀ t∈s,∀ c∈t.columns_,ColOk c)∧SchW s:=by
 refine ⟨hv,fun t ht c hc=>?_,schW hl hd hb⟩
 obtain ⟨i,hi,rfl⟩:=List.getElem_of_mem ht
 have e:=(hd i hi (by omega)).cols
 exact (hb i (by omega)).cols c (by rw [e]; exact hc)
theorem bod90:bodied Tryz.prog 90=true:=by kernel_rfl
theorem bod91:bodied Tryz.prog 91=true:=by kernel_rfl
theorem by58:(Tryz.prog.info? 58).map (·.bytes)=some 392:=by kernel_rfl
theorem sz58:sizeInfo Tryz.prog 58=some 22:=by kernel_rfl
theorem zr58:zeroOf Tryz.prog 58=some (.agg #[.int .i64 0,.string ⟨#[]⟩,.slice none 0 0,.slice none 0 0,.slice none 0 0,.slice none 0 0,.slice none 0 0,.slice none 0 0,.slice none 0 0,.slice none 0 0,.int .i64 0,.string ⟨#[]⟩,.string ⟨#[]⟩,.int .i64 0,.int .i64 0,.int .i64 0,.string ⟨#[]⟩,.slice none 0 0,.slice none 0 0,.slice none 0 0,.int .i64 0,.string ⟨#[]⟩]):=by kernel_rfl
set_option maxRecDepth 100000 in
set_option maxHeartbeats 4000000 in
theorem build_p (l:List GSta) (hl:FitL l (fun y=>FitSta y)) (hdl:∀ x∈l,DefOk x) (hl2:l.length≤1000):PRet Tryz.prog 52 [.tree 22 (l.map staA)] (fun r=>∃ (i e:Int),r=.tup [.unk,.v (.int .i64 i),.v (.int .i64 e)]∧(e=0→∀ i (h:i < l.length),BldS l i l[i])):=by
 refine PRet.of_vc infOk [68,79] [] Tryz.func52 rfl Tryz.ntmps52 rfl (by kernel_rfl) (LpG.via (fun _ h=>AWP.lazyT 5 5 rfl 1 rfl h) ?_)
 refine LpG.on (fun k0:KL GTab=>(⟨fL [(0,.tree 22 (l.map staA)),(5,.sl 0 k0.L.length 0 k0.L.length),(6,.v (.int .i64 ((k0.k:Nat):Int)))],hLz [(0,⟨k0.L.length,rF tabA k0.L,5,Nat.beq k0.L.length 0⟩)],1⟩:St)) (fun k0=>(l.length - k0.k)) (fun k0=>(k0.k≤l.length∧k0.L.length=k0.k∧(∀ x∈k0.L,FitTab x)∧((∀ j (hl:j < l.length),j < k0.k→BldS l j l[j])∧k0.L.map nc=(l.take k0.k).map ncS))) (⟨0,[]⟩:KL GTab) (cO (.cons rfl rfl (.cons (by rfl) rfl (.cons rfl rfl .nil))) (.cons (by rfl) rfl (rF_low row_tabA _ _) .nil)) ⟨Nat.zero_le _,rfl,by simp,⟨fun j _ h=>absurd h (Nat.not_lt_zero j),rfl⟩⟩ ?_
 rintro k0 hinv
 have hgr_k0:l.length≤140737488355328:=hl.1
 obtain ⟨hle_k0,hL_k0,hf_k0,hi_k0⟩:=hinv
 refine LenG.of (cL (fun hlt14=>?_) (fun hge14=>?_))
 ·have hdx:=hdl _ (List.getElem_mem hlt14)
  refine IdxG.of (by assumption) (IdxG.of (by assumption) ?_)
  refine cN (fun hq22=>?_) (fun hq22=>?_)
  exact cT ⟨.inr rfl,_,Outs.three Tryz.results52 (OutR.tmp ⟨[],FzP.unk⟩) (OutR.tmp ⟨[],FzP.pure rfl⟩) (OutR.tmp ⟨[],FzP.pure rfl⟩),⟨_,_,rfl,fun h=>absurd h (by decide)⟩⟩
  refine cD (fun hq32=>?_) (fun hq32=>?_)
  ·refine cT (cT ?_)
   refine cT (cT ?_)
   exact cT ⟨.inr rfl,_,Outs.three Tryz.results52 (OutR.tmp ⟨[],FzP.unk⟩) (OutR.tmp ⟨[],FzP.pure rfl⟩) (OutR.tmp ⟨[],FzP.pure rfl⟩),⟨_,_,rfl,fun h=>absurd h (by decide)⟩⟩
  refine LenG.of (cD (fun hq38=>?_) (fun hq38=>?_))
  ·refine cT (cT ?_)
   refine cT (cT ?_)
   exact ⟨.inr rfl,_,Outs.three Tryz.results52 (OutR.tmp ⟨[],FzP.unk⟩) (OutR.tmp ⟨[],FzP.pure rfl⟩) (OutR.tmp ⟨[],FzP.pure rfl⟩),⟨_,_,rfl,fun h=>absurd h (by decide)⟩⟩
  refine LenG.of (cD (fun hq44=>?_) (fun hq44=>?_))
  ·refine cT (cT ?_)
   exact cT ⟨.inr rfl,_,Outs.three Tryz.results52 (OutR.tmp ⟨[],FzP.unk⟩) (OutR.tmp ⟨[],FzP.pure rfl⟩) (OutR.tmp ⟨[],FzP.pure rfl⟩),⟨_,_,rfl,fun h=>absurd h (by decide)⟩⟩
  refine LenG.of (cD (fun hq50=>?_) (fun hq50=>?_))
  ·refine cT (cT ?_)
   exact ⟨.inr rfl,_,Outs.three Tryz.results52 (OutR.tmp ⟨[],FzP.unk⟩) (OutR.tmp ⟨[],FzP.pure rfl⟩) (OutR.tmp ⟨[],FzP.pure rfl⟩),⟨_,_,rfl,fun h=>absurd h (by decide)⟩⟩
  refine LenG.of (cD (fun hq29=>?_) (fun hq29=>?_))
  ·exact cT ⟨.inr rfl,_,Outs.three Tryz.results52 (OutR.tmp ⟨[],FzP.unk⟩) (OutR.tmp ⟨[],FzP.pure rfl⟩) (OutR.tmp ⟨[],FzP.pure rfl⟩),⟨_,_,rfl,fun h=>absurd h (by decide)⟩⟩
  refine IdxG.of (by assumption) (ArgG.mk (invalid_p (l[k0.k]) (hl.2 _ (List.getElem_mem _))) rfl ?_)
  rintro _ ⟨b0,rfl,hb0⟩
  refine cB (fun hc56=>?_) (fun hc56=>?_)
  ·exact cT ⟨.inr rfl,_,Outs.three Tryz.results52 (OutR.tmp ⟨[],FzP.unk⟩) (OutR.tmp ⟨[],FzP.pure rfl⟩) (OutR.tmp ⟨[],FzP.pure rfl⟩),⟨_,_,rfl,fun h=>absurd h (by decide)⟩⟩
  have hinv0:=hb0 (by simpa using hc56)
  refine IdxG.of (by assumption) ?_
  obtain ⟨_,⟨b1,rfl,hb1⟩,hcl1⟩:=exists_p k0.L ⟨by omega,hf_k0⟩ l[k0.k] (hl.2 _ (List.getElem_mem hlt14)) (by have:=hdx.cl; omega)
  refine OpG.lk (LOp.callB [0] bod90 rfl (fun i h h'=>match i,h with | 0,_=>FzP.rows row_tabA (List.mem_singleton.2 rfl) rfl | 1,_=>FzP.pure rfl) hcl1) (cB (fun hc62=>?_) (fun hc62=>?_))
  ·exact cT ⟨.inr rfl,_,Outs.three Tryz.results52 (OutR.tmp ⟨[],FzP.unk⟩) (OutR.tmp ⟨[],FzP.pure rfl⟩) (OutR.tmp ⟨[],FzP.pure rfl⟩),⟨_,_,rfl,fun h=>absurd h (by decide)⟩⟩
  have hex0:=hb1 (by simpa using hc62)
  refine cF (IdxG.of (by assumption) ?_)
  obtain ⟨_,⟨t2,e2,rfl,ht2,hte2⟩,hcl2⟩:=table_h l[k0.k] (hl.2 _ (List.getElem_mem hlt14)) k0.L ⟨by omega,hf_k0⟩ (by omega) hdx (fun f hf=>(hinv0.2.1 f hf).1)
  refine OpG.lk (LOp.still (LOp.callH [(TOP,0)] bod91 hcl2 rfl rfl rfl rfl ⟨sX row_tabA,trivial⟩ ⟨rF_ok row_tabA,trivial⟩ ⟨rF_in row_tabA _ _,trivial⟩ rfl rfl rfl rfl rfl rfl) ⟨⟨by simp [gOf],sX row_tabA,rfl⟩,trivial⟩) (cB (fun hc83=>?_) (fun hc83=>?_))
  ·have hq83:¬ ((e2:Int)=(0:Int)):=by simpa using hc83
   exact ⟨.inr rfl,_,Outs.three Tryz.results52 (OutR.tmp ⟨[],FzP.unk⟩) (OutR.tmp ⟨[],FzP.pure rfl⟩) (OutR.tmp ⟨[],FzP.pure rfl⟩),⟨_,_,rfl,fun h=>absurd h (by simpa using hc83)⟩⟩
  have hq83:(e2:Int)=(0:Int):=by simpa using hc83
  have hte3:=hte2 (by simpa using hc83)
  refine OpG.mk _ _ _ 4 (LOp.appRow row_tabA (a:=t2) Tryz.underlying48 sz27 zr27 by27 rfl rfl rfl (Src.slB rfl rfl rfl rfl) rfl (by omega) (by omega) (by unfold TV; omega)) rfl rfl ⟨by omega,⟨(⟨k0.k+1,k0.L++[t2]⟩:KL GTab),(by show l.length - (k0.k+1) < l.length - k0.k; omega),(cO (.cons rfl rfl (.cons (by (rw [List.length_append]; rfl)) rfl (.cons rfl rfl .nil))) (.cons (by (rw [List.length_append]; rfl)) rfl (rF_low row_tabA _ _) .nil)),?_⟩⟩
  refine ⟨by show k0.k+1≤_; omega,by show (_++[_]).length=k0.k+1; rw [List.length_append,hL_k0]; rfl,fun y_ hy_=>(List.mem_append.1 hy_).elim (hf_k0 y_) (fun hy_=>by rw [List.mem_singleton.1 hy_]; exact ht2),⟨fun j hl hj=>?_,map_next hlt14 hi_k0.2 hte3.1 hte3.2.1⟩⟩
  rcases Nat.lt_succ_iff_lt_or_eq.1 hj with hj | rfl
  ·exact hi_k0.1 j hl hj
  exact ⟨hinv0.1,hinv0.2.2.1,hinv0.2.1,hex0.2,hinv0.2.2.2,k0.L,hi_k0.2,hex0.1,hte3.2.2⟩
 exact ⟨.inr rfl,_,Outs.three Tryz.results52 (OutR.tmp ⟨[],FzP.unk⟩) (OutR.tmp ⟨[],FzP.pure rfl⟩) (OutR.tmp ⟨[],FzP.pure rfl⟩),⟨_,_,rfl,fun _ j hj=>hi_k0.1 j hj (by omega)⟩⟩
set_option maxRecDepth 100000 in
set_option maxHeartbeats 4000000 in
theorem valid12_p (s:List GTab) (hs:FitL s (fun y=>FitTab y)) (hsm:∀ t∈s,SmTab t) (hs12:s.length≤12):PRet Tryz.prog 19 [.tree 5 (s.map tabA)] (fun r=>∃ b:Bool,r=.v (.bool b)∧(b=true→SchV s∧(∀ t∈s,∀ c∈t.columns_,ColOk c)∧SchW s)):=by
 refine PRet.of_vc infOk [90] [20] Tryz.func19 rfl Tryz.ntmps19 rfl (by kernel_rfl) ?_
 refine LpG.on (fun k0:Nat=>(⟨fL [(0,.tree 5 (s.map tabA)),(3,.v (.int .i64 ((k0:Nat):Int)))],hLz [],0⟩:St)) (fun k0=>(s.length - k0)) (fun k0=>(k0≤s.length∧∀ j (hl:j < s.length),j < k0→TabV s j s[j])) 0 (cO (.cons rfl rfl (.cons rfl rfl .nil)) .nil) ⟨Nat.zero_le _,fun j _ h=>absurd h (Nat.not_lt_zero j)⟩ ?_
 rintro k0 hinv
 have hgr_k0:s.length≤140737488355328:=hs.1
 obtain ⟨hle_k0,hj_k0⟩:=hinv
 refine LenG.of (cL (fun hlt15=>?_) (fun hge15=>?_))
 ·refine LpG.on (fun k2:Nat=>(⟨fL [(0,.tree 5 (s.map tabA)),(3,.v (.int .i64 ((k0:Nat):Int))),(4,.v (.int .i64 ((k2:Nat):Int)))],hLz [],0⟩:St)) (fun k2=>(s[k0].keys_.length - k2)) (fun k2=>(k2≤s[k0].keys_.length∧∀ j (hl:j < s[k0].keys_.length),j < k2→∀ x∈s[k0].keys_[j],0≤x∧x < s[k0].columns_.length)) 0 (cO (.cons rfl rfl (.cons rfl rfl (.cons rfl rfl .nil))) .nil) ⟨Nat.zero_le _,fun j _ h=>absurd h (Nat.not_lt_zero j)⟩ ?_
  rintro k2 hinv
  have hgr_k2:s[k0].keys_.length≤140737488355328:=(hs.2 _ (List.getElem_mem _)).keys_.1
  obtain ⟨hle_k2,hj_k2⟩:=hinv
  refine IdxG.of (by assumption) (LenG.of ?_)
  refine cL (fun hlt25=>?_) (fun hge25=>?_)
  ·refine IdxG.of (by assumption) (IdxG.of (by assumption) ?_)
   refine IdxG.of (by assumption) (ArgG.mk (inside_p (s[k0]) (hs.2 _ (List.getElem_mem _)) (s[k0].keys_[k2]) ((hs.2 _ (List.getElem_mem _)).keys_.2 _ (List.getElem_mem _))) rfl ?_)
   rintro _ ⟨b0,rfl,hb0⟩
   refine ⟨by kernel_rfl,?_⟩
   refine cB (fun hc41=>?_) (fun hc41=>?_)
   ·exact rV Tryz.results19 rfl bF
   refine ⟨by omega,?_⟩
   refine ⟨(k2+1),by omega,(cO (.cons rfl rfl (.cons rfl rfl (.cons rfl rfl .nil))) .nil),?_⟩
   refine ⟨by omega,fun j hl h=>?_⟩
   rcases Nat.lt_succ_iff_lt_or_eq.1 h with h | rfl
   ·exact hj_k2 j hl h
   exact hb0 (by simpa using hc41)
  refine LpG.on (fun k4:Nat=>(⟨fL [(0,.tree 5 (s.map tabA)),(3,.v (.int .i64 ((k0:Nat):Int))),(5,.v (.int .i64 ((k4:Nat):Int)))],hLz [],0⟩:St)) (fun k4=>(s[k0].foreign_.length - k4)) (fun k4=>(k4≤s[k0].foreign_.length∧∀ j (hl:j < s[k0].foreign_.length),j < k4→ForOk s k0 s[k0] s[k0].foreign_[j])) 0 (cO (.cons rfl rfl (.cons rfl rfl (.cons rfl rfl .nil))) .nil) ⟨Nat.zero_le _,fun j _ h=>absurd h (Nat.not_lt_zero j)⟩ ?_
  rintro k4 hinv
  have hgr_k4:s[k0].foreign_.length≤140737488355328:=(hs.2 _ (List.getElem_mem _)).foreign_.1
  obtain ⟨hle_k4,hj_k4⟩:=hinv
  refine IdxG.of (by assumption) (LenG.of ?_)
  refine cL (fun hlt49=>?_) (fun hge49=>?_)
  ·refine IdxG.of (by assumption) (IdxG.of (by assumption) ?_)
   refine IdxG.of (by assumption) (ArgG.mk (inside_p (s[k0]) (hs.2 _ (List.getElem_mem _)) (s[k0].foreign_[k4].columns_) ((hs.2 _ (List.getElem_mem _)).foreign_.2 _ (List.getElem_mem _)).columns_) rfl ?_)
   rintro _ ⟨b1,rfl,hb1⟩
   refine cB (fun hg68=>?_) (fun hg68=>?_)
   ·refine cT (cT ?_)
    refine cT ⟨by kernel_rfl,cT ?_⟩
    exact rV Tryz.results19 rfl bF
   refine cD (fun hq73=>?_) (fun hq73=>?_)
   refine cT (cT ?_)
   refine ⟨by kernel_rfl,?_⟩
   exact cT (rV Tryz.results19 rfl bF)
   refine cD (fun hq79=>?_) (fun hq79=>?_)
   refine cT ⟨by kernel_rfl,cT ?_⟩
   exact rV Tryz.results19 rfl bF
   refine cD (fun hq84=>?_) (fun hq84=>?_)
   ·refine ⟨by kernel_rfl,?_⟩
    exact cT (rV Tryz.results19 rfl bF)
   obtain ⟨j1,hj1⟩:∃ j:Nat,s[k0].foreign_[k4].table_=((j:Nat):Int):=⟨s[k0].foreign_[k4].table_.toNat,by omega⟩
   refine OpG.lk (LOp.indexI Tryz.underlying48 sz27 rfl rfl hj1 (by omega)) ?_
   refine LenG.of ⟨by kernel_rfl,cD (fun hq95=>?_) (fun hq95=>?_)⟩
   ·exact rV Tryz.results19 rfl bF
   refine ⟨by omega,?_⟩
   refine ⟨(k4+1),by omega,(cO (.cons rfl rfl (.cons rfl rfl (.cons rfl rfl .nil))) .nil),?_⟩
   refine ⟨by omega,fun j hl h=>?_⟩
   rcases Nat.lt_succ_iff_lt_or_eq.1 h with h | rfl
   ·exact hj_k4 j hl h
   exact ⟨hb1 (by simpa using hg68),j1,s[k0].foreign_[j].key_.toNat,hj1,by omega,by omega,by omega,by omega⟩
  refine ⟨by omega,?_⟩
  refine ⟨(k0+1),by omega,(cO (.cons rfl rfl (.cons rfl rfl .nil)) .nil),?_⟩
  refine ⟨by omega,fun j hl h=>?_⟩
  rcases Nat.lt_succ_iff_lt_or_eq.1 h with h | rfl
  ·exact hj_k0 j hl h
  exact ⟨fun y hy=>by obtain ⟨j,hj,rfl⟩:=List.getElem_of_mem hy; exact hj_k2 j hj (by omega),fun y hy=>by obtain ⟨j,hj,rfl⟩:=List.getElem_of_mem hy; exact hj_k4 j hj (by omega)⟩
 have hv:SchV s:=fun j hl=>hj_k0 j hl (by omega)
 refine LpG.via (fun _ h=>AWP.lazyT 7 22 rfl 1 rfl h) ?_
 refine LpG.on (fun k6:KL GSta=>(⟨fL [(0,.tree 5 (s.map tabA)),(7,.sl 0 k6.L.length 0 k6.L.length),(8,.v (.int .i64 ((k6.k:Nat):Int)))],hLz [(0,⟨k6.L.length,rF staA k6.L,22,Nat.beq k6.L.length 0⟩)],1⟩:St)) (fun k6=>(s.length - k6.k)) (fun k6=>(k6.k≤s.length∧k6.L.length=k6.k∧(∀ x∈k6.L,FitSta x)∧((∀ x∈k6.L,DefOk x)∧k6.L.length=k6.k∧DefsS s k6.L))) (⟨0,[]⟩:KL GSta) (cO (.cons rfl rfl (.cons (by rfl) rfl (.cons rfl rfl .nil))) (.cons (by rfl) rfl (rF_low row_staA _ _) .nil)) ⟨Nat.zero_le _,rfl,by simp,⟨by simp,rfl,fun i _ h=>absurd h (Nat.not_lt_zero i)⟩⟩ ?_
 rintro k6 hinv
 have hgr_k6:s.length≤140737488355328:=hs.1
 obtain ⟨hle_k6,hL_k6,hf_k6,hi_k6⟩:=hinv
 refine LenG.of (cL (fun hlt99=>?_) (fun hge99=>?_))
 ·refine ArgG.mk (definition_p s hs k6.k (by omega) hv hsm) rfl ?_
  rintro _ ⟨x2,rfl,hx2,hd2,hxc2⟩
  refine OpG.mk _ _ _ 2 (LOp.appRow row_staA (a:=x2) Tryz.underlying135 sz58 zr58 by58 rfl rfl rfl (Src.slB rfl rfl rfl rfl) rfl (by omega) (by omega) (by unfold TV; omega)) rfl rfl ?_
  refine ⟨by omega,?_⟩
  refine ⟨(⟨k6.k+1,k6.L++[x2]⟩:KL GSta),(by show s.length - (k6.k+1) < s.length - k6.k; omega),(cO (.cons rfl rfl (.cons (by (rw [List.length_append]; rfl)) rfl (.cons rfl rfl .nil))) (.cons (by (rw [List.length_append]; rfl)) rfl (rF_low row_staA _ _) .nil)),?_⟩
  refine ⟨by show k6.k+1≤_; omega,by show (_++[_]).length=k6.k+1; rw [List.length_append,hL_k6]; rfl,fun y_ hy_=>(List.mem_append.1 hy_).elim (hf_k6 y_) (fun hy_=>by rw [List.mem_singleton.1 hy_]; exact hx2),?_⟩
  exact ⟨all_snoc hi_k6.1 hd2,by show (_++[_]).length=_; rw [List.length_append,hi_k6.2.1]; rfl,hi_k6.2.2.snoc hi_k6.2.1 hlt99 hxc2⟩
 refine RegG.via (fun _ h=>AWP.freeze [0] 7 (.tree 22 (k6.L.map staA)) (FzP.rows row_staA (List.mem_singleton.2 rfl) rfl) rfl h) ?_
 refine RegG.go ?_
 refine ArgG.mk (build_p k6.L ⟨by omega,hf_k6⟩ hi_k6.1 (by omega)) rfl ?_
 rintro _ ⟨i3,e3,rfl,he3⟩
 exact rV Tryz.results19 rfl ⟨_,rfl,fun hr=>bld_end hv (by omega) hi_k6.2.2 (he3 (by simpa using hr))⟩
end Go.Proofs.YtjdblmpkeilbaaaGreatDoor
