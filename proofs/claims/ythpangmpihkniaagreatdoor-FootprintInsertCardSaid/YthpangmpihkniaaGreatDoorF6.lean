/- Texts of the claim. -/
import Derived.Test.YthpangmpihkniaaGreatDoorF5
import Derived.Test.YthpangmpihkniaaGreatDoorQ2
namespace Go.Proofs.YthpangmpihkniaaGreatDoor
set_option linter.unusedVariables false
set_option linter.unusedSimpArgs false
open Go.RowKit
theorem flE {a b:Int} (hb:1≤b):(a.tmod b < 0→a.tdiv b - 1=a.fdiv b)∧(¬ a.tmod b < 0→a.tdiv b=a.fdiv b):=by
 have hf:=tdiv_fdiv (a:=a) hb
 have h1:=Int.tmod_add_mul_tdiv a b
 have h4:b * a.tdiv b=a.tdiv b * b:=Int.mul_comm _ _
 refine ⟨fun h=>?_,fun h=>?_⟩
 ·rw [← hf,if_pos (by omega)]
 rw [← hf,if_neg (by omega)]
/-- What compute gives. -/
def CompR (op:Int) (v:List GVal) (n:Int):Prop:=(∀ h:0 < v.length,op=3→n=-v[0].int_)∧(∀ h:0 < v.length,op=9→n=((v[0].text_.size:Nat):Int))∧(∀ h:1 < v.length,4≤op∧op≤8→n=arith op (v[0]'(by omega)).int_ v[1].int_)
/-- What compute can be asked. -/
structure CompOk (op:Int) (v:List GVal):Prop where
 h0:0 < v.length
 ng:∀ h:0 < v.length,op=3→Rg v[0].int_
 two:¬ op=3→¬ op=9→(4≤op∧op≤8)∧v.length=2
 rg:∀ (h:0 < v.length) (h1:1 < v.length),4≤op→op≤8→Rg v[0].int_∧Rg v[1].int_∧Rg (arith op v[0].int_ v[1].int_)∧(7≤op→1≤v[1].int_∧v[1].int_≤1000)
theorem comp_at {op:Int} {v:List GVal} {n:Int} (h:CompR op v n) (ha:(op=3∨op=9)∧v.length=1∨(4≤op∧op≤8)∧v.length=2) (hk:∀ y∈v,y.kind_≠0):iV n=opS op v:=by
 rcases ha with ⟨ho,hl⟩ | ⟨ho,hl⟩
 ·match v,hl with
  | [a],_=>
   have hka:¬ a.kind_=0:=hk a (by simp)
   rcases ho with e | e
   ·have:=h.1 (by simp) e; simp only [opS]; rw [if_neg hka,if_pos e,this]; rfl
   ·have:=h.2.1 (by simp) e; simp only [opS]; rw [if_neg hka,if_neg (by omega),if_pos e,this]; rfl
 match v,hl with
 | [a,b],_=>
  have hka:¬ a.kind_=0:=hk a (by simp)
  have hkb:¬ b.kind_=0:=hk b (by simp)
  have:=h.2.2 (by simp) ho
  simp only [opS]; rw [if_neg hka,if_neg (by omega),if_neg (by omega),if_neg hkb,this]; rfl
theorem vsS_len (R:Int→GVal):∀ l:List (List AV),(vsS R l).length=l.length
 | []=>by simp [vsS]
 | r :: rs=>by simp only [vsS,List.length_cons,vsS_len R rs]
theorem vsS_get (R:Int→GVal):∀ (l:List (List AV)) (k:Nat) (h:k < l.length),(vsS R l)[k]'(by rw [vsS_len]; exact h)=vS R l[k]
 | r :: rs,0,_=>by simp only [vsS,List.getElem_cons_zero]
 | r :: rs,k+1,h=>by simp only [vsS,List.getElem_cons_succ]; exact vsS_get R rs k (by simpa using h)
theorem vs_next {R:Int→GVal} {l:List (List AV)} {k:Nat} (h:k < l.length) {L:List GVal} (hL:L=(vsS R l).take k):L++[vS R l[k]]=(vsS R l).take (k+1):=by
 have h2:k < (vsS R l).length:=by rw [vsS_len]; exact h
 rw [hL,List.take_add_one,List.getElem?_eq_getElem h2,vsS_get R l k h]; rfl
/-- The shape of an operator's expression. -/
theorem ev_shape {r:List GVal} {x:GEx} (h:EvR r (exA x)) (h1:¬ x.op_=1) (h2:¬ x.op_=2):((x.op_=3∨x.op_=9)∧x.args_.length=1)∨((4≤x.op_∧x.op_≤8)∧x.args_.length=2):=by
 obtain ⟨_,_,_,h3,h4⟩:=ev_one h h1 h2
 by_cases h5:x.op_=3
 ·exact .inl ⟨.inl h5,h3 (.inl h5)⟩
 by_cases h9:x.op_=9
 ·exact .inl ⟨.inr h9,h3 (.inr h9)⟩
 exact .inr (h4 h5 h9)
theorem ev_arg {r:List GVal} {x:GEx} (h:EvR r (exA x)) (h1:¬ x.op_=1) (h2:¬ x.op_=2) {k:Nat} (hk:k < x.args_.length):EvR r x.args_[k]:=by
 obtain ⟨h0,he,_⟩:=ev_one h h1 h2
 rcases ev_shape h h1 h2 with ⟨_,hl⟩ | ⟨ho,hl⟩
 ·have:k=0:=by omega
  subst this; exact he
 have:k=0∨k=1:=by omega
 rcases this with rfl | rfl
 ·exact he
 exact (ev_two h ho hl).1
theorem v_nullk {r:List GVal} {x:GEx} (h:EvR r (exA x)) (h1:¬ x.op_=1) (h2:¬ x.op_=2) {k:Nat} (hk:k < x.args_.length) {L:List GVal} (hL:L=(vsS (rowF r) x.args_).take k) (hn:∀ y∈L,y.kind_≠0) (hz:(vS (rowF r) x.args_[k]).kind_=0):zV=vS (rowF r) (exA x):=by
 obtain ⟨h0,he,_⟩:=ev_one h h1 h2
 by_cases e0:k=0
 ·subst e0; exact v_null h1 h2 hk hz
 rcases ev_shape h h1 h2 with ⟨_,hl⟩ | ⟨ho,hl⟩
 ·omega
 have:k=1:=by omega
 subst this
 refine v_bin0 ho hl (hn _ ?_) hz
 rw [hL,← vsS_get (rowF r) x.args_ 0 h0]
 have h3:0 < (vsS (rowF r) x.args_).length:=by rw [vsS_len]; exact h0
 have h4:0 < ((vsS (rowF r) x.args_).take 1).length:=by rw [List.length_take]; omega
 have:((vsS (rowF r) x.args_).take 1)[0]=(vsS (rowF r) x.args_)[0]:=List.getElem_take
 rw [← this]; exact List.getElem_mem _
theorem comp_ok {r:List GVal} {x:GEx} (h:EvR r (exA x)) (h1:¬ x.op_=1) (h2:¬ x.op_=2) (hn:∀ y∈vsS (rowF r) x.args_,y.kind_≠0):CompOk x.op_ (vsS (rowF r) x.args_):=by
 obtain ⟨h0,_,hg,_,_⟩:=ev_one h h1 h2
 have hs:=ev_shape h h1 h2
 have hl0:0 < (vsS (rowF r) x.args_).length:=by rw [vsS_len]; exact h0
 have e0:=vsS_get (rowF r) x.args_ 0 h0
 have n0:(vS (rowF r) x.args_[0]).kind_≠0:=by rw [← e0]; exact hn _ (List.getElem_mem _)
 refine ⟨hl0,fun _ h3=>by rw [e0]; exact hg h3 n0,fun h3 h9=>?_,fun _ hl h4 h8=>?_⟩
 ·rw [vsS_len]; rcases hs with hs | hs
  ·omega
  exact hs
 have hk1:1 < x.args_.length:=by rw [vsS_len] at hl; exact hl
 have e1:=vsS_get (rowF r) x.args_ 1 hk1
 have n1:(vS (rowF r) x.args_[1]).kind_≠0:=by rw [← e1]; exact hn _ (List.getElem_mem _)
 have:=(ev_two h ⟨h4,h8⟩ (by rcases hs with hs | hs <;> omega)).2 n0 n1
 rw [e0,e1]; exact this
set_option maxRecDepth 100000 in
set_option maxHeartbeats 4000000 in
theorem floorE_p (a:Int) (b:Int) (ha:-4611686018427387904≤a∧a≤4611686018427387904) (hb:1≤b∧b≤4611686018427387904):PRet Tryz.prog 167 [.v (.int .i64 a),.v (.int .i64 b)] (fun r=>∃ v:Int,r=.v (.int .i64 v)∧v=a.fdiv b):=by
 have hf:=flE (a:=a) hb.1
 have hq:=tdiv_rng ha hb
 refine PRet.of_vc infOk [8,11,14] [] Tryz.func167 rfl Tryz.ntmps167 rfl (by kernel_rfl) (OpG.lk (LOp.quoT rfl rfl (by omega) (by omega) (by omega)) ?_)
 refine OpG.lk (LOp.remT rfl rfl (by omega)) (cD (fun hq12=>?_) (fun hq12=>?_))
 ·exact OpG.lk (LOp.subI rfl rfl (by omega) (by omega)) (rV Tryz.results167 rfl ⟨_,rfl,hf.1 (by omega)⟩)
 exact rV Tryz.results167 rfl ⟨_,rfl,hf.2 (by omega)⟩
set_option maxRecDepth 100000 in
set_option maxHeartbeats 4000000 in
theorem computeE_p (op:Int) (v:List GVal) (hv:FitL v (fun y=>FitVal y)) (hc:CompOk op v):PRet Tryz.prog 136 [.v (.int .i64 op),.tree 3 (v.map gvA)] (fun r=>∃ n:Int,r=.v (.int .i64 n)∧CompR op v n):=by
 have h0:=hc.h0
 refine PRet.of_vc infOk [15,42,53] [] Tryz.func136 rfl Tryz.ntmps136 rfl (by kernel_rfl) (IdxG.of (j:=0) (by assumption) ?_)
 refine cE (fun hq12=>?_) (fun hq12=>?_)
 have hrg:=hc.ng h0 hq12
 unfold Rg at hrg
 exact OpG.lk (LOp.negI rfl (by omega) (by omega)) (rV Tryz.results136 rfl ⟨_,rfl,fun _ _=>rfl,fun _ e=>by omega,fun _ e=>by omega⟩)
 refine cE (fun hq16=>?_) (fun hq16=>?_)
 ·exact IdxG.of (j:=0) (by assumption) (rV Tryz.results136 rfl ⟨_,rfl,fun _ e=>by omega,fun _ _=>rfl,fun _ e=>by omega⟩)
 obtain ⟨hop,hl2⟩:=hc.two (by assumption) (by assumption)
 have h1:1 < v.length:=by omega
 obtain ⟨hra,hrb,hrc,hrd⟩:=hc.rg h0 h1 hop.1 hop.2
 unfold Rg at hra hrb
 refine IdxG.of (j:=1) (by assumption) (cE (fun hq28=>?_) (fun hq28=>?_))
 have h6:Rg (v[0].int_+v[1].int_):=by have:=hrc; rw [hq28,ar4] at this; exact this
 unfold Rg at h6
 exact ⟨by omega,rV Tryz.results136 rfl ⟨_,rfl,fun _ e=>by omega,fun _ e=>by omega,fun _ _=>by rw [hq28,ar4]⟩⟩
 refine cE (fun hq33=>?_) (fun hq33=>?_)
 have h6:Rg (v[0].int_ - v[1].int_):=by have:=hrc; rw [hq33,ar5] at this; exact this
 unfold Rg at h6
 exact ⟨by omega,rV Tryz.results136 rfl ⟨_,rfl,fun _ e=>by omega,fun _ e=>by omega,fun _ _=>by rw [hq33,ar5]⟩⟩
 refine cE (fun hq38=>?_) (fun hq38=>?_)
 have h6:Rg (v[0].int_ * v[1].int_):=by have:=hrc; rw [hq38,ar6] at this; exact this
 unfold Rg at h6
 exact OpG.lk (LOp.mulI rfl rfl (by omega) (by omega)) (rV Tryz.results136 rfl ⟨_,rfl,fun _ e=>by omega,fun _ e=>by omega,fun _ _=>by rw [hq38,ar6]⟩)
 refine cE (fun hq43=>?_) (fun hq43=>?_)
 ·have hd:=hrd (by omega)
  refine ArgG.mk (floorE_p v[0].int_ v[1].int_ (by omega) (by omega)) rfl ?_
  rintro _ ⟨f0,rfl,hf0⟩
  exact rV Tryz.results136 rfl ⟨_,rfl,fun _ e=>by omega,fun _ e=>by omega,fun _ _=>by rw [hq43,ar7]; assumption⟩
 have hd:=hrd (by omega)
 refine ArgG.mk (floorE_p v[0].int_ v[1].int_ (by omega) (by omega)) rfl ?_
 rintro _ ⟨f1,rfl,hf1⟩
 have h8:Rg (v[0].int_ - v[1].int_ * f1):=by have:=hrc; rw [show op=8 by omega,ar8] at this; rw [hf1]; exact this
 unfold Rg at h8
 exact OpG.lk (LOp.mulI rfl rfl (by omega) (by omega)) ⟨by omega,rV Tryz.results136 rfl ⟨_,rfl,fun _ e=>by omega,fun _ e=>by omega,fun _ _=>by rw [show op=8 by omega,ar8]; simp_all⟩⟩
end Go.Proofs.YthpangmpihkniaaGreatDoor
namespace Go.Proofs.YthpangmpihkniaaGreatDoor
set_option linter.unusedVariables false
set_option linter.unusedSimpArgs false
open Go.RowKit
theorem row_gvA:RowF gvA 3:=⟨fun _=>rfl,fun _=>rfl,fun _ _=>rfl,fun _ _=>rfl,fun _ _=>rfl,fun _=>rfl⟩
theorem by45:(Tryz.prog.info? 45).map (·.bytes)=some 32:=by kernel_rfl
theorem zr45:zeroOf Tryz.prog 45=some (.agg #[.int .i64 0,.int .i64 0,.string ⟨#[]⟩]):=by kernel_rfl
set_option maxRecDepth 100000 in
set_option maxHeartbeats 4000000 in
theorem valueE_w (x:GEx) (hx:FitEx x) (r:List GVal) (hr:FitL r (fun y=>FitVal y)) (hev:EvR r (exA x)) (ih:∀ e∈x.args_,EvR r e→PRet Tryz.prog 96 [.agg (rwA e),.tree 3 (r.map gvA)] (fun q=>q=.agg (gvA (vS (rowF r) e)))):PRet Tryz.prog 96 [.agg (exA x),.tree 3 (r.map gvA)] (fun q=>q=.agg (gvA (vS (rowF r) (exA x)))):=by
 refine PRet.of_vc infOk [20] [15] Tryz.func96 rfl Tryz.ntmps96 rfl (by kernel_rfl) ?_
 refine cE (fun hq11=>?_) (fun hq11=>?_)
 refine ⟨.inr rfl,_,Outs.cell Tryz.results96 row45 rfl rfl rfl rfl rfl ⟨[],FzP.pure rfl⟩,?_⟩
 show AV.agg (gvA x.value_)=_; rw [v_lit (R:=rowF r) hq11]
 refine cE (fun hq15=>?_) (fun hq15=>?_)
 ·obtain ⟨j1,hje1,hjl1⟩:=ev_col hev hq15
  refine OpG.lk (LOp.indexI Tryz.underlying26 sz45 rfl rfl hje1 hjl1) ?_
  refine ⟨.inr rfl,_,Outs.cell Tryz.results96 row45 rfl rfl rfl rfl rfl ⟨[],FzP.pure rfl⟩,?_⟩
  exact (congrArg (fun z=>AV.agg (gvA z)) (show r[j1]=vS (rowF r) (exA x) by rw [← rowF_at hjl1,← hje1]; exact v_col (R:=rowF r) hq11 hq15))
 have hl2:x.args_.length≤2:=by rcases ev_shape hev hq11 hq15 with h | h <;> omega
 refine LenG.of (LpG.via (fun _ h=>AWP.lazyT 5 3 rfl 3 rfl h) ?_)
 refine LpG.on (fun k1:KL GVal=>(⟨fL [(1,.tree 3 (r.map gvA)),(2,.ptr 0 0 0),(4,.ptr 1 0 0),(5,.sl 2 k1.L.length 0 k1.L.length),(23,.tree 8 (x.args_.map rwA)),(24,.v (.int .i64 ((x.args_.length:Nat):Int))),(25,.v (.int .i64 ((k1.k:Nat):Int)))],hLz [(0,⟨0,exA x,0,false⟩),(1,⟨0,[.v (.int .i64 0),.v (.int .i64 0),.v (.string ⟨#[]⟩)],0,false⟩),(2,⟨k1.L.length,rF gvA k1.L,3,Nat.beq k1.L.length 0⟩)],3⟩:St)) (fun k1=>(x.args_.length - k1.k)) (fun k1=>(k1.k≤x.args_.length∧k1.L.length=k1.k∧(∀ x∈k1.L,FitVal x)∧(k1.L=(vsS (rowF r) x.args_).take k1.k∧∀ y∈k1.L,y.kind_≠0))) (⟨0,[]⟩:KL GVal) (cO (.cons rfl rfl (.cons rfl rfl (.cons rfl rfl (.cons (by rfl) rfl (.cons rfl rfl (.cons rfl rfl (.cons rfl rfl .nil))))))) (.cons rfl rfl rfl (.cons rfl rfl rfl (.cons (by rfl) rfl (rF_low row_gvA _ _) .nil)))) ⟨Nat.zero_le _,rfl,by simp,⟨rfl,fun _ h=>absurd h (by simp)⟩⟩ ?_
 rintro k1 hinv
 have hgr_k1:x.args_.length≤140737488355328:=hx.args_.1
 obtain ⟨hle_k1,hL_k1,hf_k1,hi_k1⟩:=hinv
 refine cL (fun hlt26=>?_) (fun hge26=>?_)
 ·obtain ⟨a,he_a,ha⟩:=openAt hx k1.k (by omega)
  refine IdxG.as (j:=k1.k) (by omega) he_a (ArgG.mk (ih (exA a) (he_a ▸ List.getElem_mem _) (he_a ▸ ev_arg hev hq11 hq15 hlt26)) rfl ?_)
  rintro _ rfl
  have hvf:FitVal (vS (rowF r) (exA a)):=vS_fit (rowF_fit hr) (isEx ha)
  refine cE (fun hq34=>?_) (fun hq34=>?_)
  ·refine ⟨.inr rfl,_,Outs.cell Tryz.results96 row45 rfl rfl rfl rfl rfl ⟨[],FzP.pure rfl⟩,?_⟩
   exact congrArg (fun z=>AV.agg (gvA z)) (v_nullk hev hq11 hq15 hlt26 hi_k1.1 hi_k1.2 (he_a ▸ hq34))
  refine OpG.mk _ _ _ 6 (LOp.appRow row_gvA (a:=((vS (rowF r) (exA a)))) Tryz.underlying25 sz45 zr45 by45 rfl rfl rfl (Src.slB rfl rfl rfl rfl) rfl (by omega) (by omega) (by unfold TV; omega)) rfl rfl ?_
  refine ⟨by omega,?_⟩
  refine ⟨(⟨k1.k+1,k1.L++[((vS (rowF r) (exA a)))]⟩:KL GVal),(by show x.args_.length - (k1.k+1) < x.args_.length - k1.k; omega),(cO (.cons rfl rfl (.cons rfl rfl (.cons rfl rfl (.cons (by (rw [List.length_append]; rfl)) rfl (.cons rfl rfl (.cons rfl rfl (.cons rfl rfl .nil))))))) (.cons rfl rfl rfl (.cons rfl rfl rfl (.cons (by (rw [List.length_append]; rfl)) rfl (rF_low row_gvA _ _) .nil)))),?_⟩
  refine ⟨by show k1.k+1≤_; omega,by show (_++[_]).length=k1.k+1; rw [List.length_append,hL_k1]; rfl,fun y_ hy_=>(List.mem_append.1 hy_).elim (hf_k1 y_) (fun hy_=>by rw [List.mem_singleton.1 hy_]; exact by assumption),?_⟩
  exact ⟨by show _++[_]=_; rw [← he_a]; exact vs_next hlt26 hi_k1.1,fun y hy=>(List.mem_append.1 hy).elim (hi_k1.2 y) (fun hy=>by rw [List.mem_singleton.1 hy]; assumption)⟩
 have hL:k1.L=vsS (rowF r) x.args_:=by rw [hi_k1.1,List.take_of_length_le (by rw [vsS_len]; omega)]
 refine RegG.via (fun _ h=>AWP.freeze [2] 5 (.tree 3 (k1.L.map gvA)) (FzP.rows row_gvA (List.mem_singleton.2 rfl) rfl) rfl h) ?_
 refine RegG.go ?_
 refine ArgG.mk (computeE_p x.op_ k1.L ⟨by omega,hf_k1⟩ (hL ▸ comp_ok hev hq11 hq15 (hL ▸ hi_k1.2))) rfl ?_
 rintro _ ⟨n1,rfl,hn1⟩
 refine ⟨.inr rfl,_,Outs.cell Tryz.results96 row45 rfl rfl rfl rfl rfl ⟨[],FzP.pure rfl⟩,?_⟩
 exact congrArg (fun z=>AV.agg (gvA z)) ((comp_at (hL ▸ hn1) ((ev_shape hev hq11 hq15).imp (fun h=>⟨h.1,by rw [vsS_len]; exact h.2⟩) (fun h=>⟨h.1,by rw [vsS_len]; exact h.2⟩)) (hL ▸ hi_k1.2)).trans (v_op (R:=rowF r) hq11 hq15).symm)
theorem valueE_p (r:List GVal) (hr:FitL r (fun y=>FitVal y)) (e:List AV) (he:IsEx e):EvR r e→PRet Tryz.prog 96 [.agg (rwA e),.tree 3 (r.map gvA)] (fun q=>q=.agg (gvA (vS (rowF r) e))):=IsEx.ind (M:=fun e=>EvR r e→PRet Tryz.prog 96 [.agg (rwA e),.tree 3 (r.map gvA)] (fun q=>q=.agg (gvA (vS (rowF r) e)))) (fun x hx ih hev=>valueE_w x hx r hr hev ih) he
end Go.Proofs.YthpangmpihkniaaGreatDoor
namespace Go.Proofs.YthpangmpihkniaaGreatDoor
set_option linter.unusedVariables false
set_option linter.unusedSimpArgs false
open Go.RowKit
set_option maxRecDepth 100000 in
set_option maxHeartbeats 4000000 in
theorem fitsS_p (t:GTab) (ht:FitTab t) (w:List GVal) (hw:FitL w (fun y=>FitVal y)) (hcl:t.columns_.length≤1000):PRet Tryz.prog 53 [.agg (tabA t),.tree 3 (w.map gvA)] (fun q=>∃ e:Int,q=.v (.int .i64 e)∧(e=0↔RowFit t w)):=by
 refine PRet.of_vc infOk [] [] Tryz.func53 rfl Tryz.ntmps53 rfl (by kernel_rfl) (LenG.of ?_)
 refine LenG.of (cB (fun hc13=>?_) (fun hc13=>?_))
 ·have hq13:¬ (((w.length:Nat):Int)=((t.columns_.length:Nat):Int)):=by simpa using hc13
  have hlen:¬ w.length=t.columns_.length:=by have h:=hc13; simp at h; omega
  exact rV Tryz.results53 rfl ⟨_,rfl,fun h=>absurd h (by decide),fun h=>absurd h.1 hlen⟩
 have hq13:((w.length:Nat):Int)=((t.columns_.length:Nat):Int):=by simpa using hc13
 have hlen:w.length=t.columns_.length:=by have h:=hc13; simp at h; omega
 refine ArgG.mk (schemaVariables_p t ht (by omega)) rfl ?_
 rintro _ rfl
 refine LenG.of (LpG.on (fun k0:KE=>(⟨fL [(1,.tree 3 (w.map gvA)),(5,.v (.int .i64 k0.e)),(15,.tree 5 (((varsOf t)).map vA)),(16,.v (.int .i64 ((((varsOf t)).length:Nat):Int))),(17,.v (.int .i64 ((k0.k:Nat):Int)))],hLz [],1⟩:St)) (fun k0=>(((varsOf t)).length - k0.k)) (fun k0=>(k0.k≤((varsOf t)).length∧FtI t w k0)) (⟨0,0⟩:KE) (cO (.cons rfl rfl (.cons rfl rfl (.cons rfl rfl (.cons rfl rfl (.cons rfl rfl .nil))))) .nil) ⟨Nat.zero_le _,⟨fun _ j _ _ h=>absurd h (Nat.not_lt_zero j),fun _=>rfl⟩⟩ ?_)
 rintro k0 hinv
 obtain ⟨hle_k0,hi_k0⟩:=hinv
 refine cL (fun hlt18=>?_) (fun hge18=>?_)
 ·have hvl:k0.k < (varsOf t).length:=by omega
  have hcc2:k0.k < t.columns_.length:=by simpa [varsOf] using hvl
  have hww:k0.k < w.length:=by omega
  have hnl:(varsOf t)[k0.k].nl=!t.columns_[k0.k].notNull_:=by simp [varsOf,varC]
  refine IdxG.of (by assumption) (IdxG.of (by assumption) ?_)
  refine cE (fun hq28=>?_) (fun hq28=>?_)
  ·refine cB (fun hc32=>?_) (fun hc32=>?_)
   ·exact rV Tryz.results53 rfl ⟨_,rfl,fun h=>absurd h (by decide),fun h=>by have h1:=h.2 k0.k hww hcc2; rw [fitB_no (by assumption) (by show (!t.columns_[k0.k].notNull_)=false; rw [← hnl]; simpa using hc32)] at h1; cases h1⟩
   refine IdxG.of (by assumption) (ArgG.mk (fitsV_p (w[k0.k]) (hw.2 _ (List.getElem_mem _)) (({ (varsOf t)[k0.k] with nl:=true }:PVar))) rfl ?_)
   rintro _ rfl
   refine ⟨by kernel_rfl,cB (fun hc40=>?_) (fun hc40=>?_)⟩
   ·refine ⟨by omega,⟨(⟨k0.k+1,_⟩:KE),(by show ((varsOf t)).length - (k0.k+1) < ((varsOf t)).length - k0.k; omega),(cO (.cons rfl rfl (.cons rfl rfl (.cons rfl rfl (.cons rfl rfl (.cons rfl rfl .nil))))) .nil),?_⟩⟩
    refine ⟨by show k0.k+1≤_; omega,?_⟩
    have hnn:w[k0.k].kind_=0→t.columns_[k0.k].notNull_=false:=fun h=>by (simpa [hnl] using hc32)
    exact ft_bad hcc2 hww (ft_nl hvl hcc2 (by simpa using hc40) hnn) (by decide)
   refine ⟨by omega,⟨(⟨k0.k+1,_⟩:KE),(by show ((varsOf t)).length - (k0.k+1) < ((varsOf t)).length - k0.k; omega),(cO (.cons rfl rfl (.cons rfl rfl (.cons rfl rfl (.cons rfl rfl (.cons rfl rfl .nil))))) .nil),?_⟩⟩
   refine ⟨by show k0.k+1≤_; omega,?_⟩
   have hnn:w[k0.k].kind_=0→t.columns_[k0.k].notNull_=false:=fun h=>by (simpa [hnl] using hc32)
   exact ft_step hi_k0 hcc2 hww (ft_nl hvl hcc2 (by simpa using hc40) hnn)
  refine cF (IdxG.of (by assumption) ?_)
  refine ArgG.mk (fitsV_p (w[k0.k]) (hw.2 _ (List.getElem_mem _)) (({ (varsOf t)[k0.k] with nl:=true }:PVar))) rfl ?_
  rintro _ rfl
  refine ⟨by kernel_rfl,cB (fun hc40=>?_) (fun hc40=>?_)⟩
  ·refine ⟨by omega,⟨(⟨k0.k+1,_⟩:KE),(by show ((varsOf t)).length - (k0.k+1) < ((varsOf t)).length - k0.k; omega),(cO (.cons rfl rfl (.cons rfl rfl (.cons rfl rfl (.cons rfl rfl (.cons rfl rfl .nil))))) .nil),?_⟩⟩
   refine ⟨by show k0.k+1≤_; omega,?_⟩
   have hnn:w[k0.k].kind_=0→t.columns_[k0.k].notNull_=false:=fun h=>by exact absurd h (by assumption)
   exact ft_bad hcc2 hww (ft_nl hvl hcc2 (by simpa using hc40) hnn) (by decide)
  refine ⟨by omega,⟨(⟨k0.k+1,_⟩:KE),(by show ((varsOf t)).length - (k0.k+1) < ((varsOf t)).length - k0.k; omega),(cO (.cons rfl rfl (.cons rfl rfl (.cons rfl rfl (.cons rfl rfl (.cons rfl rfl .nil))))) .nil),?_⟩⟩
  refine ⟨by show k0.k+1≤_; omega,?_⟩
  have hnn:w[k0.k].kind_=0→t.columns_[k0.k].notNull_=false:=fun h=>by exact absurd h (by assumption)
  exact ft_step hi_k0 hcc2 hww (ft_nl hvl hcc2 (by simpa using hc40) hnn)
 exact rV Tryz.results53 rfl ⟨_,rfl,fun h=>⟨hlen,fun j hl h2=>hi_k0.1 h j hl h2 (by have h9:=varsLen t; omega)⟩,fun h=>hi_k0.2 fun j hl h2 _=>h.2 j hl h2⟩
end Go.Proofs.YthpangmpihkniaaGreatDoor
namespace Go.Proofs.YthpangmpihkniaaGreatDoor
set_option linter.unusedVariables false
set_option linter.unusedSimpArgs false
open Go.RowKit
def rkS (a:Int):Int:=if a=0 then 0 else if a=1 then 2 else 1
def tvS (n:Int):Int:=if n=0 then 0 else if n=1 then 2 else 1
theorem rkS_rng (a:Int):0≤rkS a∧rkS a≤2:=by
 unfold rkS
 repeat' split
 all_goals omega
theorem cell3 {n:Int} (h:0≤n∧n≤2):(([.int .i64 0,.int .i64 2,.int .i64 1]:List Value).map AV.v)[n.toNat * 1]? = some (.v (.int .i64 (tvS n))):=by
 have:n=0∨n=1∨n=2:=by omega
 rcases this with rfl | rfl | rfl <;> rfl
theorem min_rng {a b:Int} (ha:0≤a∧a≤2) (hb:0≤b∧b≤2):0≤min a b∧min a b≤2:=by omega
theorem max_rng {a b:Int} (ha:0≤a∧a≤2) (hb:0≤b∧b≤2):0≤max a b∧max a b≤2:=by omega
theorem andS_eq {a b:Int} (ha:0≤a∧a≤2) (hb:0≤b∧b≤2):tvS (min (rkS a) (rkS b))=two 0 a b:=by
 have h1:a=0∨a=1∨a=2:=by omega
 have h2:b=0∨b=1∨b=2:=by omega
 rcases h1 with rfl | rfl | rfl <;> rcases h2 with rfl | rfl | rfl <;> decide
theorem orS_eq {a b:Int} (ha:0≤a∧a≤2) (hb:0≤b∧b≤2):tvS (max (rkS a) (rkS b))=two 1 a b:=by
 have h1:a=0∨a=1∨a=2:=by omega
 have h2:b=0∨b=1∨b=2:=by omega
 rcases h1 with rfl | rfl | rfl <;> rcases h2 with rfl | rfl | rfl <;> decide
theorem notS_eq {a:Int} (ha:0≤a∧a≤2):tvS (2 - rkS a)=if a=2 then 2 else 1 - a:=by
 have h1:a=0∨a=1∨a=2:=by omega
 rcases h1 with rfl | rfl | rfl <;> decide
def holdsB (op o:Int):Bool:=if op=10 then o==0 else if op=11 then o != 0 else if op=12 then decide (o < 0) else if op=13 then decide (o≤0) else if op=14 then decide (o > 0) else decide (o≥0)
def cmI (a b:Int):Int:=if a < b then -1 else if a > b then 1 else 0
def cmT (a b:ByteArray):Int:=Lib.compareBytes a.data.toList b.data.toList
def orL:List Int→Int
 | []=>0
 | a :: r=>if a=0 then orL r else a
theorem orL_hit:∀ {l:List Int} {k:Nat} (h:k < l.length),(∀ j (hj:j < k),l[j]'(by omega)=0)→l[k]≠0→l[k]=orL l
 | a :: r,0,_,_,h=>by simp only [List.getElem_cons_zero] at h ⊢; unfold orL; rw [if_neg h]
 | a :: r,k+1,h,h1,h2=>by
  have h0:=h1 0 (by omega)
  simp only [List.getElem_cons_zero] at h0
  simp only [List.getElem_cons_succ] at h2 ⊢
  unfold orL
  rw [if_pos h0]
  exact orL_hit (by simpa using h) (fun j hj=>by have:=h1 (j+1) (by omega); simpa using this) h2
theorem orL_end:∀ {l:List Int},(∀ j (hj:j < l.length),l[j]=0)→0=orL l
 | [],_=>rfl
 | a :: r,h=>by
  have h0:=h 0 (by simp)
  simp only [List.getElem_cons_zero] at h0
  unfold orL
  rw [if_pos h0]
  exact orL_end (fun j hj=>by have:=h (j+1) (by simp; omega); simpa using this)
theorem row125:rowOf Tryz.prog 125=some none:=by kernel_rfl
theorem sz125:sizeInfo Tryz.prog 125=some 1:=by kernel_rfl
set_option maxRecDepth 100000 in
set_option maxHeartbeats 4000000 in
theorem rank_p (a:Int):PRet Tryz.prog 135 [.v (.int .i64 a)] (fun q=>q=.v (.int .i64 (rkS a))):=by
 refine PRet.of_vc infOk [] [] Tryz.func135 rfl Tryz.ntmps135 rfl (by kernel_rfl) (cE (fun hq4=>?_) (fun hq4=>?_))
 exact rV Tryz.results135 rfl (congrArg (fun z=>AV.v (.int .i64 z)) (by unfold rkS; simp_all))
 refine cE (fun hq6=>?_) (fun hq6=>?_)
 ·exact rV Tryz.results135 rfl (congrArg (fun z=>AV.v (.int .i64 z)) (by unfold rkS; simp_all))
 exact rV Tryz.results135 rfl (congrArg (fun z=>AV.v (.int .i64 z)) (by unfold rkS; simp_all))
set_option maxRecDepth 100000 in
set_option maxHeartbeats 4000000 in
theorem and_p (a:Int) (b:Int) (ha:0≤a∧a≤2) (hb:0≤b∧b≤2):PRet Tryz.prog 93 [.v (.int .i64 a),.v (.int .i64 b)] (fun q=>q=.v (.int .i64 (two 0 a b))):=by
 refine PRet.of_vc infOk [9,10,11] [] Tryz.func93 rfl Tryz.ntmps93 rfl (by kernel_rfl) (ArgG.mk (rank_p a) rfl ?_)
 rintro _ rfl
 refine ArgG.mk (rank_p b) rfl ?_
 rintro _ rfl
 refine OpG.lk (LOp.minI rfl rfl) (OpG.lk (LOp.indexGlobI (cs:=[.int .i64 0,.int .i64 2,.int .i64 1]) (j:=((min (rkS a) (rkS b))).toNat) (List.mem_cons_self ..) Tryz.underlying248 sz125 rfl (by have:=min_rng (rkS_rng a) (rkS_rng b); omega) (by have:=min_rng (rkS_rng a) (rkS_rng b); omega)) ?_)
 exact OpG.lk (lE row125 rfl (cell3 (min_rng (rkS_rng a) (rkS_rng b)))) (rV Tryz.results93 rfl (congrArg (fun z=>AV.v (.int .i64 z)) (andS_eq ha hb)))
set_option maxRecDepth 100000 in
set_option maxHeartbeats 4000000 in
theorem or_p (a:Int) (b:Int) (ha:0≤a∧a≤2) (hb:0≤b∧b≤2):PRet Tryz.prog 94 [.v (.int .i64 a),.v (.int .i64 b)] (fun q=>q=.v (.int .i64 (two 1 a b))):=by
 refine PRet.of_vc infOk [9,10,11] [] Tryz.func94 rfl Tryz.ntmps94 rfl (by kernel_rfl) (ArgG.mk (rank_p a) rfl ?_)
 rintro _ rfl
 refine ArgG.mk (rank_p b) rfl ?_
 rintro _ rfl
 refine OpG.lk (LOp.maxI rfl rfl) (OpG.lk (LOp.indexGlobI (cs:=[.int .i64 0,.int .i64 2,.int .i64 1]) (j:=((max (rkS a) (rkS b))).toNat) (List.mem_cons_self ..) Tryz.underlying248 sz125 rfl (by have:=max_rng (rkS_rng a) (rkS_rng b); omega) (by have:=max_rng (rkS_rng a) (rkS_rng b); omega)) ?_)
 exact OpG.lk (lE row125 rfl (cell3 (max_rng (rkS_rng a) (rkS_rng b)))) (rV Tryz.results94 rfl (congrArg (fun z=>AV.v (.int .i64 z)) (orS_eq ha hb)))
set_option maxRecDepth 100000 in
set_option maxHeartbeats 4000000 in
theorem not_p (a:Int) (ha:0≤a∧a≤2):PRet Tryz.prog 95 [.v (.int .i64 a)] (fun q=>q=.v (.int .i64 (if a=2 then (2:Int) else (1:Int) - a))):=by
 have hr:=rkS_rng a
 refine PRet.of_vc infOk [5,6,7] [] Tryz.func95 rfl Tryz.ntmps95 rfl (by kernel_rfl) (ArgG.mk (rank_p a) rfl ?_)
 rintro _ rfl
 refine OpG.lk (LOp.subI rfl rfl (by omega) (by omega)) (OpG.lk (LOp.indexGlobI (cs:=[.int .i64 0,.int .i64 2,.int .i64 1]) (j:=((2 - rkS a)).toNat) (List.mem_cons_self ..) Tryz.underlying248 sz125 rfl (by have:=(by omega:0≤2 - rkS a∧2 - rkS a≤2); omega) (by have:=(by omega:0≤2 - rkS a∧2 - rkS a≤2); omega)) ?_)
 exact OpG.lk (lE row125 rfl (cell3 ((by omega:0≤2 - rkS a∧2 - rkS a≤2)))) (rV Tryz.results95 rfl (congrArg (fun z=>AV.v (.int .i64 z)) (notS_eq ha)))
set_option maxRecDepth 100000 in
set_option maxHeartbeats 4000000 in
theorem of_t (b:Bool):PRet Tryz.prog 97 [.v (.bool b)] (fun q=>q=.v (.int .i64 (ofS b))):=by
 refine PRet.of_vc infOk [] [] Tryz.func97 rfl Tryz.ntmps97 rfl (by kernel_rfl) (cB (fun hc3=>?_) (fun hc3=>?_))
 ·refine rV Tryz.results97 rfl ?_
  first | exact congrArg (fun z=>AV.v (.int .i64 z)) (by unfold ofS; simp_all)
 refine rV Tryz.results97 rfl ?_
 first | exact congrArg (fun z=>AV.v (.int .i64 z)) (by unfold ofS; simp_all)
set_option maxRecDepth 100000 in
set_option maxHeartbeats 4000000 in
theorem holds_p (op:Int) (o:Int):PRet Tryz.prog 99 [.v (.int .i64 op),.v (.int .i64 o)] (fun q=>q=.v (.bool (holdsB op o))):=by
 refine PRet.of_vc infOk [] [] Tryz.func99 rfl Tryz.ntmps99 rfl (by kernel_rfl) (cE (fun hq6=>?_) (fun hq6=>?_))
 exact rV Tryz.results99 rfl (vb_eq (by unfold holdsB; simp_all))
 refine cE (fun hq10=>?_) (fun hq10=>?_)
 exact rV Tryz.results99 rfl (vb_eq (by unfold holdsB; simp_all))
 refine cE (fun hq14=>?_) (fun hq14=>?_)
 exact rV Tryz.results99 rfl (vb_eq (by unfold holdsB; simp_all))
 refine cE (fun hq18=>?_) (fun hq18=>?_)
 exact rV Tryz.results99 rfl (vb_eq (by unfold holdsB; simp_all))
 refine cE (fun hq22=>?_) (fun hq22=>?_)
 ·exact rV Tryz.results99 rfl (vb_eq (by unfold holdsB; simp_all))
 exact rV Tryz.results99 rfl (vb_eq (by unfold holdsB; simp_all))
set_option maxRecDepth 100000 in
set_option maxHeartbeats 4000000 in
theorem isNaN_p (a:Int):PRet Tryz.prog 138 [.v (.int .i64 a)] (fun q=>q=.v (.bool false)):=by
 exact PRet.of_vc infOk [] [] Tryz.func138 rfl Tryz.ntmps138 rfl (by kernel_rfl) (rV Tryz.results138 rfl (vb_eq (by simp_all)))
set_option maxRecDepth 100000 in
set_option maxHeartbeats 4000000 in
theorem cmpI_p (a:Int) (b:Int):PRet Tryz.prog 101 [.v (.int .i64 a),.v (.int .i64 b)] (fun q=>q=.v (.int .i64 (cmI a b))):=by
 refine PRet.of_vc infOk [] [] Tryz.func101 rfl Tryz.ntmps101 rfl (by kernel_rfl) (ArgG.mk (isNaN_p _) rfl ?_)
 rintro _ rfl
 refine ArgG.mk (isNaN_p _) rfl ?_
 rintro _ rfl
 refine cF (cF ?_)
 refine cD (fun hq16=>?_) (fun hq16=>?_)
 exact rV Tryz.results101 rfl (congrArg (fun z=>AV.v (.int .i64 z)) (by unfold cmI; (simp_all; done)))
 refine cD (fun hq19=>?_) (fun hq19=>?_)
 ·exact rV Tryz.results101 rfl (congrArg (fun z=>AV.v (.int .i64 z)) (by unfold cmI; (simp_all; done)))
 exact rV Tryz.results101 rfl (congrArg (fun z=>AV.v (.int .i64 z)) (by unfold cmI; (rw [if_neg (by omega),if_neg (by omega)])))
set_option maxRecDepth 100000 in
set_option maxHeartbeats 4000000 in
theorem bcmp_p (a:ByteArray) (ha:FitS a) (b:ByteArray) (hb:FitS b):PRet Tryz.prog 139 [.v (.string a),.v (.string b)] (fun q=>q=.v (.int .i64 (cmT a b))):=by
 refine PRet.of_vc infOk [7] [] Tryz.func139 rfl Tryz.ntmps139 rfl (by kernel_rfl) (OpG.lk (LOp.cmpStr (f:=168) Tryz.func168 rfl rfl rfl (by kernel_rfl) rfl rfl) ?_)
 exact rV Tryz.results139 rfl rfl
set_option maxRecDepth 100000 in
set_option maxHeartbeats 4000000 in
theorem scmp_p (a:ByteArray) (ha:FitS a) (b:ByteArray) (hb:FitS b):PRet Tryz.prog 102 [.v (.string a),.v (.string b)] (fun q=>q=.v (.int .i64 (cmT a b))):=by
 refine PRet.of_vc infOk [] [] Tryz.func102 rfl Tryz.ntmps102 rfl (by kernel_rfl) (ArgG.mk (bcmp_p _ (by assumption) _ (by assumption)) rfl ?_)
 rintro _ rfl
 exact rV Tryz.results102 rfl rfl
set_option maxRecDepth 100000 in
set_option maxHeartbeats 4000000 in
theorem cmpOr_p (l:List Int) (hl:FitL l (fun y=>True)):PRet Tryz.prog 100 [.tree 1 (l.map iA)] (fun q=>q=.v (.int .i64 (orL l))):=by
 refine PRet.of_vc infOk [] [] Tryz.func100 rfl Tryz.ntmps100 rfl (by kernel_rfl) (LenG.of ?_)
 refine LpG.on (fun k0:Nat=>(⟨fL [(3,.v (.int .i64 0)),(6,.tree 1 (l.map iA)),(7,.v (.int .i64 ((l.length:Nat):Int))),(8,.v (.int .i64 ((k0:Nat):Int)))],hLz [],0⟩:St)) (fun k0=>(l.length - k0)) (fun k0=>(k0≤l.length∧∀ j (hl:j < l.length),j < k0→l[j]=0)) 0 (cO (.cons rfl rfl (.cons rfl rfl (.cons rfl rfl (.cons rfl rfl .nil)))) .nil) ⟨Nat.zero_le _,fun j _ h=>absurd h (Nat.not_lt_zero j)⟩ ?_
 rintro k0 hinv
 have hgr_k0:l.length≤140737488355328:=hl.1
 obtain ⟨hle_k0,hj_k0⟩:=hinv
 refine cL (fun hlt9=>?_) (fun hge9=>?_)
 ·refine IdxG.of (by assumption) (cB (fun hc14=>?_) (fun hc14=>?_))
  ·have hq14:¬ ((l[k0]:Int)=(0:Int)):=by simpa using hc14
   exact rV Tryz.results100 rfl (congrArg (fun z=>AV.v (.int .i64 z)) (orL_hit hlt9 (fun j h=>hj_k0 j (by omega) h) (by simpa using hc14)))
  have hq14:(l[k0]:Int)=(0:Int):=by simpa using hc14
  refine ⟨by omega,⟨(k0+1),by omega,(cO (.cons rfl rfl (.cons rfl rfl (.cons rfl rfl (.cons rfl rfl .nil)))) .nil),?_⟩⟩
  refine ⟨by omega,fun j hl h=>?_⟩
  rcases Nat.lt_succ_iff_lt_or_eq.1 h with h | rfl
  ·exact hj_k0 j hl h
  simpa using hc14
 exact rV Tryz.results100 rfl (congrArg (fun z=>AV.v (.int .i64 z)) (orL_end (fun j hl=>hj_k0 j hl (by omega))))
end Go.Proofs.YthpangmpihkniaaGreatDoor
namespace Go.Proofs.YthpangmpihkniaaGreatDoor
set_option linter.unusedVariables false
set_option linter.unusedSimpArgs false
open Go.RowKit
/-- Where percent signs lead. -/
def skipF (p:ByteArray) (F:Nat→Bool):Nat→Bool
 | 0=>F 0
 | i+1=>F (i+1)||((bAt p i).toNat==37&&skipF p F i)
def skF (p:ByteArray) (F:Nat→Bool) (k j:Nat):Bool:=if j≤k then skipF p F j else F j
section
variable {p s:ByteArray} {F:Nat→Bool} {k m j i:Nat}
theorem sk_0:F m=skF p F 0 m:=by
 unfold skF
 split
 ·have:m=0:=by omega
  subst this; rfl
 rfl
theorem sk_set (h:(bAt p k).toNat=37) (hv:skF p F k k=true):(if m=k+1 then true else skF p F k m)=skF p F (k+1) m:=by
 unfold skF at hv ⊢
 rw [if_pos (Nat.le_refl _)] at hv
 by_cases e:m=k+1
 ·subst e; rw [if_pos rfl,if_pos (Nat.le_refl _)]; simp [skipF,h,hv]
 rw [if_neg e]
 by_cases h2:m≤k
 ·rw [if_pos h2,if_pos (by omega)]
 rw [if_neg h2,if_neg (by omega)]
theorem sk_no (h:(bAt p k).toNat≠37∨skF p F k k=false):skF p F k m=skF p F (k+1) m:=by
 unfold skF at h ⊢
 rw [if_pos (Nat.le_refl _)] at h
 by_cases h2:m≤k
 ·rw [if_pos h2,if_pos (by omega)]
 rw [if_neg h2]
 by_cases e:m=k+1
 ·subst e; rw [if_pos (Nat.le_refl _)]
  rcases h with h | h
  ·simp [skipF,h]
  simp [skipF,h]
 rw [if_neg (by omega)]
theorem sk_end (h:m≤k):skF p F k m=skipF p F m:=by unfold skF; rw [if_pos h]
/-- What the row of the text's first j letters holds. -/
def reachS (s p:ByteArray) (j i:Nat):Bool:=if (bAt p i).toNat=37 then lk s p (i+1) j else lk s p i j
def hitF (p:ByteArray) (F:Nat→Bool) (m:Nat):Bool:=(bAt p m).toNat==37&&F m
def advF (s p:ByteArray) (j:Nat) (F:Nat→Bool) (m:Nat):Bool:=(bAt p m).toNat != 37&&F m&&((bAt p m).toNat==95||(bAt p m).toNat==(bAt s j).toNat)
def nxF (s p:ByteArray) (j:Nat) (F:Nat→Bool) (k m:Nat):Bool:=(decide (m < k)&&hitF p F m)||(decide (0 < m)&&decide (m≤k)&&advF s p j F (m - 1))
theorem nxF_0:false=nxF s p j F 0 m:=by
 unfold nxF
 by_cases h:m=0 <;> simp [h]
theorem nx_hit (h:(bAt p k).toNat=37) (hF:F k=true):(if m=k then true else nxF s p j F k m)=nxF s p j F (k+1) m:=by
 have h1:hitF p F k=true:=by simp [hitF,h,hF]
 have h2:advF s p j F k=false:=by simp [advF,h]
 by_cases e:m=k
 ·subst e; rw [if_pos rfl]; simp [nxF,h1]
 rw [if_neg e]
 by_cases e2:m=k+1
 ·subst e2; simp [nxF,h2]; intro h; omega
 unfold nxF
 rw [show decide (m < k+1)=decide (m < k) by rw [decide_eq_decide]; omega,show decide (m≤k+1)=decide (m≤k) by rw [decide_eq_decide]; omega]
theorem nx_adv (h:(bAt p k).toNat≠37) (hF:F k=true) (hm:(bAt p k).toNat=95∨(bAt p k).toNat=(bAt s j).toNat):(if m=k+1 then true else nxF s p j F k m)=nxF s p j F (k+1) m:=by
 have h1:hitF p F k=false:=by simp [hitF,h]
 have h2:advF s p j F k=true:=by unfold advF; rcases hm with hm | hm <;> simp [h,hF,hm] <;> omega
 by_cases e:m=k+1
 ·subst e; rw [if_pos rfl]; simp [nxF,h2]
 rw [if_neg e]
 by_cases e2:m=k
 ·subst e2; simp [nxF,h1]
 unfold nxF
 rw [show decide (m < k+1)=decide (m < k) by rw [decide_eq_decide]; omega,show decide (m≤k+1)=decide (m≤k) by rw [decide_eq_decide]; omega]
theorem nx_skip (h1:hitF p F k=false) (h2:advF s p j F k=false):nxF s p j F k m=nxF s p j F (k+1) m:=by
 by_cases e:m=k+1
 ·subst e; simp [nxF,h2]; intro h; omega
 by_cases e2:m=k
 ·subst e2; simp [nxF,h1]
 unfold nxF
 rw [show decide (m < k+1)=decide (m < k) by rw [decide_eq_decide]; omega,show decide (m≤k+1)=decide (m≤k) by rw [decide_eq_decide]; omega]
theorem nx_nF (h:F k=false):nxF s p j F k m=nxF s p j F (k+1) m:=nx_skip (by simp [hitF,h]) (by simp [advF,h])
theorem nx_nM (h:(bAt p k).toNat≠37) (h1:(bAt p k).toNat≠95) (h2:(bAt p k).toNat≠(bAt s j).toNat):nxF s p j F k m=nxF s p j F (k+1) m:=nx_skip (by simp [hitF,h]) (by simp [advF,h1,h2])
theorem lk_step (h:(bAt p k).toNat=37):lk s p (k+1) (j+1)=(lk s p k (j+1)||lk s p (k+1) j):=by
 show lkNext s (bAt p k).toNat (lk s p k) (j+1)=_
 rw [lkN_37 h]; simp; rfl
theorem lk_zero (h:(bAt p k).toNat=37):lk s p (k+1) 0=lk s p k 0:=by
 show lkNext s (bAt p k).toNat (lk s p k) 0=_
 rw [lkN_37 h]; simp
theorem lk_o (h:¬ (bAt p k).toNat=37):lk s p (k+1) (j+1)=(lk s p k j&&((bAt p k).toNat==95||(bAt p k).toNat==(bAt s j).toNat)):=by
 show lkNext s (bAt p k).toNat (lk s p k) (j+1)=_
 rw [lkN_o h]; simp
theorem lk_o0 (h:¬ (bAt p k).toNat=37):lk s p (k+1) 0=false:=by
 show lkNext s (bAt p k).toNat (lk s p k) 0=_
 rw [lkN_o h]; simp
theorem init_reach:∀ i,skipF p (fun k=>if k=0 then true else false) i=reachS s p 0 i:=by
 have key:∀ i,skipF p (fun k=>if k=0 then true else false) i=lk s p i 0:=by
  intro i
  induction i with
  | zero=>rfl
  | succ i ih=>
   simp only [skipF,ih]
   by_cases h:(bAt p i).toNat=37
   ·rw [lk_zero h]; simp [h]
   ·rw [lk_o0 h]; simp [h]
 intro i
 rw [key]
 unfold reachS
 split
 ·rename_i h; rw [lk_zero h]
 rfl
theorem bAt_end:(bAt p p.size).toNat=0:=by
 unfold bAt
 have:p.data.getD p.size 0=0:=by simp [Array.getD]
 rw [this]; rfl
theorem hit_end:hitF p F p.size=false:=by simp [hitF,bAt_end]
theorem next_reach:∀ i,i≤p.size→skipF p (nxF s p j (reachS s p j) p.size) i=reachS s p (j+1) i:=by
 intro i
 induction i with
 | zero=>
  intro _
  show nxF s p j (reachS s p j) p.size 0=_
  have e:nxF s p j (reachS s p j) p.size 0=hitF p (reachS s p j) 0:=by
   unfold nxF
   by_cases h:0 < p.size
   ·simp [h]
   ·have:p.size=0:=by omega
    have:=hit_end (p:=p) (F:=reachS s p j)
    simp_all
  rw [e]
  unfold hitF reachS
  by_cases h:(bAt p 0).toNat=37
  ·rw [if_pos h,if_pos h,lk_step h]; simp [h,lk]
  ·rw [if_neg h,if_neg h]; simp [h,lk]
 | succ i ih=>
  intro hi
  have ih:=ih (by omega)
  simp only [skipF,ih]
  have e:nxF s p j (reachS s p j) p.size (i+1)=(hitF p (reachS s p j) (i+1)||advF s p j (reachS s p j) i):=by
   unfold nxF
   by_cases h:i+1 < p.size
   ·simp [h,hi]
   ·have h2:i+1=p.size:=by omega
    have:=hit_end (p:=p) (F:=reachS s p j)
    rw [h2,this]
    simp [show 0 < p.size by omega,show p.size - 1=i by omega]
  rw [e]
  have eA:(advF s p j (reachS s p j) i||((bAt p i).toNat==37&&reachS s p (j+1) i))=lk s p (i+1) (j+1):=by
   unfold advF
   by_cases h:(bAt p i).toNat=37
   ·have:reachS s p (j+1) i=lk s p (i+1) (j+1):=by unfold reachS; rw [if_pos h]
    simp [h,this]
   ·have:reachS s p j i=lk s p i j:=by unfold reachS; rw [if_neg h]
    have a1:((bAt p i).toNat==37)=false:=by rw [beq_eq_false_iff_ne]; exact h
    rw [lk_o h,this]; simp only [bne,a1]; simp
  rw [Bool.or_assoc,eA]
  unfold hitF
  by_cases h:(bAt p (i+1)).toNat=37
  ·have e1:reachS s p j (i+1)=lk s p (i+2) j:=by unfold reachS; rw [if_pos h]
   have e2:reachS s p (j+1) (i+1)=lk s p (i+2) (j+1):=by unfold reachS; rw [if_pos h]
   rw [e1,e2,lk_step h]; simp [h,Bool.or_comm]
  ·have e2:reachS s p (j+1) (i+1)=lk s p (i+1) (j+1):=by unfold reachS; rw [if_neg h]
   rw [e2]; simp [h]
theorem reach_end:reachS s p s.size p.size=likeS s p:=by
 unfold reachS likeS
 rw [if_neg (by rw [bAt_end]; decide)]
theorem ren_row {g:Nat→Nat} {v n z:Nat} {np:Bool}:some (Blk.mk v (rowB n F) z np)=some ((Blk.mk v (rowB n F) z np).ren g):=by simp only [Blk.ren,rowB_ren]
theorem ok_row {D:List Nat} {v n z:Nat}:okBlk D (Blk.mk v (rowB n F) z false):=⟨rowB_in _,.inl rfl⟩
theorem del3 {m:List (Nat×Nat)} {a b c a' b' c' n:Nat} {A B A' B':Blk} (ha:gOf m a=a') (hb:gOf m b=b') (hc:gOf m c=c') (hA:A.ren (gOf m)=A') (hB:B.ren (gOf m)=B'):deltaH m [(a,some A),(b,some B),(c,some ⟨0,rowB n F,1,false⟩)]=[(a',some A'),(b',some B'),(c',some ⟨0,rowB n F,1,false⟩)]:=by
 subst ha hb hc hA hB
 simp [deltaH,Blk.ren,rowB_ren]
end
set_option maxRecDepth 100000 in
set_option maxHeartbeats 4000000 in
theorem like1_h (p:ByteArray) (hp:p.size≤140737488351232) (F:Nat→Bool):HRet Tryz.prog 137 [.ptr 1000000 0 0,.ptr 1000001 0 0] [(1000000,⟨0,[.v (.string p)],0,false⟩),(1000001,⟨0,[.sl 1000002 0 0 (p.size+1)],0,false⟩),(1000002,⟨0,rowB (p.size+1) F,1,false⟩)] [(1000000,some (⟨0,[.v (.string p)],0,false⟩)),(1000001,some (⟨0,[.sl 1000002 0 0 (p.size+1)],0,false⟩)),(1000002,some (⟨0,rowB (p.size+1) (skF p F p.size),1,false⟩))] (fun q=>q=.tup []):=by
 refine HRet.of_vc infOk [15,16,21,100021] [] Tryz.func137 rfl Tryz.ntmps137 rfl (by kernel_rfl) (LpG.on (fun k0:Nat=>(⟨fL [(0,.ptr 1000000 0 0),(1,.ptr 1000001 0 0),(4,.v (.int .i64 ((p.size:Nat):Int))),(5,.v (.int .i64 ((k0:Nat):Int)))],hLz [(1000000,⟨0,[.v (.string p)],0,false⟩),(1000001,⟨0,[.sl 1000002 0 0 (p.size+1)],0,false⟩),(1000002,⟨0,rowB (p.size+1) (skF p F k0),1,false⟩)],0⟩:St)) (fun k0=>(p.size - k0)) (fun k0=>(k0≤p.size)) 0 (cO (.cons rfl rfl (.cons rfl rfl (.cons rfl rfl (.cons rfl rfl .nil)))) (.cons rfl rfl rfl (.cons rfl rfl rfl (.cons (by exact bB (fun i _=>sk_0)) rfl (rowB_low _) .nil)))) (Nat.zero_le _) ?_)
 rintro k0 hinv
 have hle_k0:=hinv
 refine cL (fun hlt6=>?_) (fun hge6=>?_)
 ·refine ⟨(by assumption),cB (fun hg12=>?_) (fun hg12=>?_)⟩
  ·have hcc:(bAt p k0).toNat=37:=by have h:=hg12; simp at h; omega
   refine OpG.lk (LOp.indexB (i:=k0) Tryz.underlying238 sz4 rfl rfl (by omega) (by omega) rfl) (OpG.lk (LOp.loadB row4 rfl rfl (by omega)) ?_)
   refine cB (fun hc17=>?_) (fun hc17=>?_)
   ·refine ⟨by omega,OpG.lk (LOp.indexB (i:=k0+1) Tryz.underlying238 sz4 rfl rfl (by omega) (by omega) rfl) ?_⟩
    refine OpG.wr (LOp.storeB sz4 rfl rfl rfl (by omega)) rfl ⟨by omega,⟨(k0+1),by omega,(cO (.cons rfl rfl (.cons rfl rfl (.cons rfl rfl (.cons rfl rfl .nil)))) (.cons rfl rfl rfl (.cons rfl rfl rfl (.cons (by exact bB (fun i _=>sk_set hcc hc17)) rfl (rowB_low _) .nil)))),?_⟩⟩
    omega
   refine ⟨by omega,⟨(k0+1),by omega,(cO (.cons rfl rfl (.cons rfl rfl (.cons rfl rfl (.cons rfl rfl .nil)))) (.cons rfl rfl rfl (.cons rfl rfl rfl (.cons (by exact bB (fun i _=>sk_no (.inr hc17))) rfl (rowB_low _) .nil)))),?_⟩⟩
   omega
  have hcc:¬ (bAt p k0).toNat=37:=by have h:=hg12; simp at h; omega
  refine cF ⟨by omega,⟨(k0+1),by omega,(cO (.cons rfl rfl (.cons rfl rfl (.cons rfl rfl (.cons rfl rfl .nil)))) (.cons rfl rfl rfl (.cons rfl rfl rfl (.cons (by exact bB (fun i _=>sk_no (.inl hcc))) rfl (rowB_low _) .nil)))),?_⟩⟩
  omega
 have e:k0=p.size:=by omega
 subst e
 refine ⟨.inl rfl,_,OutsH.of [] (ResIs.res Tryz.results137 .nil) rfl ⟨.same rfl (by decide),.same rfl (by decide),.same rfl (by decide),trivial⟩ .same,?_⟩
 rfl
theorem like1_c (p:ByteArray) (hp:p.size≤140737488351232) (F:Nat→Bool):HCall Tryz.prog 137 [.ptr 1000000 0 0,.ptr 1000001 0 0] [(1000000,⟨0,[.v (.string p)],0,false⟩),(1000001,⟨0,[.sl 1000002 0 0 (p.size+1)],0,false⟩),(1000002,⟨0,rowB (p.size+1) F,1,false⟩)] [(1000000,some ⟨0,[.v (.string p)],0,false⟩),(1000001,some ⟨0,[.sl 1000002 0 0 (p.size+1)],0,false⟩),(1000002,some ⟨0,rowB (p.size+1) (skF p F p.size),1,false⟩)] (.tup []):=by
 obtain ⟨_,rfl,h⟩:=like1_h p hp F; exact h
set_option maxRecDepth 100000 in
set_option maxHeartbeats 4000000 in
theorem likeE_p (s:ByteArray) (hs:FitS s) (p:ByteArray) (hp:FitS p):PRet Tryz.prog 98 [.v (.string s),.v (.string p)] (fun q=>q=.v (.bool (likeS s p))):=by
 have hs1:s.size≤140737488351232:=hs
 have hp1:p.size≤140737488351232:=hp
 refine PRet.of_vc infOk [13,15,16,18,27,35,36,45,55,59,64,65,100015,100045,100055] [22] Tryz.func98 rfl Tryz.ntmps98 rfl (by kernel_rfl) ?_
 refine ⟨by omega,?_⟩
 refine OpG.nw (LOp.makeB (len:=p.size+1) 1 Tryz.underlying238 sz4 zr4 by4 rfl rfl (by omega) (by omega) (by omega)) rfl ?_
 refine OpG.lk (LOp.indexB (i:=0) Tryz.underlying238 sz4 rfl rfl (by omega) (by omega) rfl) ?_
 refine OpG.wr (LOp.storeB sz4 rfl rfl rfl (by omega)) rfl ?_
 refine OpG.lk (LOp.mkFn0 rfl) ?_
 refine OpG.mk _ _ _ 3 (LOp.callVH [(1000000,0),(1000001,2),(1000002,1)] (by kernel_rfl) (like1_c p hp1 (fun k=>if k=0 then true else false)) rfl rfl rfl rfl rfl ⟨rfl,rfl,ren_row,trivial⟩ ⟨⟨rfl,.inl rfl⟩,⟨rfl,.inl rfl⟩,ok_row,trivial⟩ ⟨rfl,rfl,rowB_in _,trivial⟩ rfl rfl rfl rfl (del3 rfl rfl rfl rfl rfl) rfl) rfl rfl ?_
 refine LpG.on (fun k0:Nat=>(⟨fL [(0,.v (.string s)),(3,.ptr 0 0 0),(5,.ptr 2 0 0),(6,.clo 137 [.ptr 0 0 0,.ptr 2 0 0]),(20,.v (.int .i64 ((s.size:Nat):Int))),(21,.v (.int .i64 ((k0:Nat):Int)))],hLz [(0,⟨0,[.v (.string p)],0,false⟩),(1,⟨0,rowB (p.size+1) (reachS s p k0),1,false⟩),(2,⟨0,[.sl 1 0 0 (p.size+1)],0,false⟩)],3⟩:St)) (fun k0=>(s.size - k0)) (fun k0=>(k0≤s.size)) 0 (cO (.cons rfl rfl (.cons rfl rfl (.cons rfl rfl (.cons rfl rfl (.cons rfl rfl (.cons rfl rfl .nil)))))) (.cons rfl rfl rfl (.cons (by exact bB (fun i hi=>(sk_end (by omega)).trans (init_reach i))) rfl (rowB_low _) (.cons rfl rfl rfl .nil)))) (Nat.zero_le _) ?_
 rintro k0 hinv
 have hgr_k0:s.size≤140737488355328:=Nat.le_trans hs (by decide)
 have hle_k0:=hinv
 refine cB (fun hc22=>?_) (fun hc22=>?_)
 ·have hlt22:k0 < s.size:=Int.ofNat_lt.1 (of_decide_eq_true hc22)
  refine ⟨by omega,?_⟩
  refine OpG.nw (LOp.makeB (len:=p.size+1) 3 Tryz.underlying238 sz4 zr4 by4 rfl rfl (by omega) (by omega) (by omega)) rfl ?_
  refine LpG.on (fun k2:Nat=>(⟨fL [(0,.v (.string s)),(3,.ptr 0 0 0),(5,.ptr 2 0 0),(6,.clo 137 [.ptr 0 0 0,.ptr 2 0 0]),(7,.v (.int .i64 ((k0:Nat):Int))),(8,.sl 3 0 0 (p.size+1)),(20,.v (.int .i64 ((s.size:Nat):Int))),(21,.v (.int .i64 ((k0:Nat):Int))),(29,.v (.int .i64 ((p.size:Nat):Int))),(30,.v (.int .i64 ((k2:Nat):Int)))],hLz [(0,⟨0,[.v (.string p)],0,false⟩),(1,⟨0,rowB (p.size+1) (reachS s p k0),1,false⟩),(2,⟨0,[.sl 1 0 0 (p.size+1)],0,false⟩),(3,⟨0,rowB (p.size+1) (nxF s p k0 (reachS s p k0) k2),1,false⟩)],4⟩:St)) (fun k2=>(p.size - k2)) (fun k2=>(k2≤p.size)) 0 (cO (.cons rfl rfl (.cons rfl rfl (.cons rfl rfl (.cons rfl rfl (.cons rfl rfl (.cons rfl rfl (.cons rfl rfl (.cons rfl rfl (.cons rfl rfl (.cons rfl rfl .nil)))))))))) (.cons rfl rfl rfl (.cons rfl rfl (rowB_low _) (.cons rfl rfl rfl (.cons (by exact bB (fun i _=>nxF_0)) rfl (rowB_low _) .nil))))) (Nat.zero_le _) ?_
  rintro k2 hinv
  have hgr_k2:p.size≤140737488355328:=Nat.le_trans hp (by decide)
  have hle_k2:=hinv
  refine cB (fun hc31=>?_) (fun hc31=>?_)
  ·have hlt31:k2 < p.size:=Int.ofNat_lt.1 (of_decide_eq_true hc31)
   refine OpG.lk (LOp.indexB (i:=k2) Tryz.underlying238 sz4 rfl rfl (by omega) (by omega) rfl) ?_
   refine OpG.lk (LOp.loadB row4 rfl rfl (by omega)) ?_
   refine cB (fun hc37=>?_) (fun hc37=>?_)
   ·have hnr:reachS s p k0 k2=false:=by simpa using hc37
    refine ⟨by omega,?_⟩
    refine ⟨(k2+1),by omega,(cO (.cons rfl rfl (.cons rfl rfl (.cons rfl rfl (.cons rfl rfl (.cons rfl rfl (.cons rfl rfl (.cons rfl rfl (.cons rfl rfl (.cons rfl rfl (.cons rfl rfl .nil)))))))))) (.cons rfl rfl rfl (.cons rfl rfl (rowB_low _) (.cons rfl rfl rfl (.cons (by exact bB (fun i _=>nx_nF hnr)) rfl (rowB_low _) .nil))))),?_⟩
    omega
   have hre:reachS s p k0 k2=true:=by simpa using hc37
   refine ⟨(by assumption),?_⟩
   refine cB (fun hc41=>?_) (fun hc41=>?_)
   ·have hcc:(bAt p k2).toNat=37:=by have h:=hc41; simp at h; omega
    refine OpG.lk (LOp.indexB (i:=k2) Tryz.underlying238 sz4 rfl rfl (by omega) (by omega) rfl) ?_
    refine OpG.wr (LOp.storeB sz4 rfl rfl rfl (by omega)) rfl ?_
    refine ⟨by omega,?_⟩
    refine ⟨(k2+1),by omega,(cO (.cons rfl rfl (.cons rfl rfl (.cons rfl rfl (.cons rfl rfl (.cons rfl rfl (.cons rfl rfl (.cons rfl rfl (.cons rfl rfl (.cons rfl rfl (.cons rfl rfl .nil)))))))))) (.cons rfl rfl rfl (.cons rfl rfl (rowB_low _) (.cons rfl rfl rfl (.cons (by exact bB (fun i _=>nx_hit hcc hre)) rfl (rowB_low _) .nil))))),?_⟩
    omega
   have hcc:¬ (bAt p k2).toNat=37:=by have h:=hc41; simp at h; omega
   refine cB (fun hc46=>?_) (fun hc46=>?_)
   ·have h95:(bAt p k2).toNat=95:=by have h:=hc46; simp at h; omega
    refine cB (fun hc46=>?_) (fun hc46=>?_)
    ·have h95:(bAt p k2).toNat=95:=by have h:=hc46; simp at h; omega
     refine ⟨by omega,?_⟩
     refine OpG.lk (LOp.indexB (i:=k2+1) Tryz.underlying238 sz4 rfl rfl (by omega) (by omega) rfl) ?_
     refine OpG.wr (LOp.storeB sz4 rfl rfl rfl (by omega)) rfl ?_
     refine ⟨by omega,?_⟩
     refine ⟨(k2+1),by omega,(cO (.cons rfl rfl (.cons rfl rfl (.cons rfl rfl (.cons rfl rfl (.cons rfl rfl (.cons rfl rfl (.cons rfl rfl (.cons rfl rfl (.cons rfl rfl (.cons rfl rfl .nil)))))))))) (.cons rfl rfl rfl (.cons rfl rfl (rowB_low _) (.cons rfl rfl rfl (.cons (by exact bB (fun i _=>nx_adv hcc hre (by first | exact .inl h95 | exact .inr hms))) rfl (rowB_low _) .nil))))),?_⟩
     omega
    have hms:¬ (bAt p k2).toNat=(bAt s k0).toNat:=by have h:=hc46; simp at h; omega
    try have h96:¬ (bAt p k2).toNat=95:=by have h:=hc46; simp at h; omega
    refine ⟨by omega,?_⟩
    refine ⟨(k2+1),by omega,(cO (.cons rfl rfl (.cons rfl rfl (.cons rfl rfl (.cons rfl rfl (.cons rfl rfl (.cons rfl rfl (.cons rfl rfl (.cons rfl rfl (.cons rfl rfl (.cons rfl rfl .nil)))))))))) (.cons rfl rfl rfl (.cons rfl rfl (rowB_low _) (.cons rfl rfl rfl (.cons (by (exfalso; omega)) rfl (rowB_low _) .nil))))),?_⟩
    omega
   have h95:¬ (bAt p k2).toNat=95:=by have h:=hc46; simp at h; omega
   try have h96:¬ (bAt p k2).toNat=95:=by have h:=hc46; simp at h; omega
   refine ⟨(by assumption),?_⟩
   refine cB (fun hc46=>?_) (fun hc46=>?_)
   ·have hms:(bAt p k2).toNat=(bAt s k0).toNat:=by have h:=hc46; simp at h; omega
    refine ⟨by omega,?_⟩
    refine OpG.lk (LOp.indexB (i:=k2+1) Tryz.underlying238 sz4 rfl rfl (by omega) (by omega) rfl) ?_
    refine OpG.wr (LOp.storeB sz4 rfl rfl rfl (by omega)) rfl ?_
    refine ⟨by omega,?_⟩
    refine ⟨(k2+1),by omega,(cO (.cons rfl rfl (.cons rfl rfl (.cons rfl rfl (.cons rfl rfl (.cons rfl rfl (.cons rfl rfl (.cons rfl rfl (.cons rfl rfl (.cons rfl rfl (.cons rfl rfl .nil)))))))))) (.cons rfl rfl rfl (.cons rfl rfl (rowB_low _) (.cons rfl rfl rfl (.cons (by exact bB (fun i _=>nx_adv hcc hre (by first | exact .inl h95 | exact .inr hms))) rfl (rowB_low _) .nil))))),?_⟩
    omega
   have hms:¬ (bAt p k2).toNat=(bAt s k0).toNat:=by have h:=hc46; simp at h; omega
   try have h96:¬ (bAt p k2).toNat=95:=by have h:=hc46; simp at h; omega
   refine ⟨by omega,?_⟩
   refine ⟨(k2+1),by omega,(cO (.cons rfl rfl (.cons rfl rfl (.cons rfl rfl (.cons rfl rfl (.cons rfl rfl (.cons rfl rfl (.cons rfl rfl (.cons rfl rfl (.cons rfl rfl (.cons rfl rfl .nil)))))))))) (.cons rfl rfl rfl (.cons rfl rfl (rowB_low _) (.cons rfl rfl rfl (.cons (by exact bB (fun i _=>nx_nM hcc h95 hms)) rfl (rowB_low _) .nil))))),?_⟩
   omega
  have hge31:¬ k2 < p.size:=fun h=>of_decide_eq_false hc31 (Int.ofNat_lt.2 h)
  have e:k2=p.size:=by omega
  subst e
  refine OpG.mk _ _ _ 4 (LOp.callVH [(1000000,0),(1000001,2),(1000002,3)] (by kernel_rfl) (like1_c p hp1 (nxF s p k0 (reachS s p k0) p.size)) rfl rfl rfl rfl rfl ⟨rfl,rfl,ren_row,trivial⟩ ⟨⟨rfl,.inl rfl⟩,⟨rfl,.inl rfl⟩,ok_row,trivial⟩ ⟨rfl,rfl,rowB_in _,trivial⟩ rfl rfl rfl rfl (del3 rfl rfl rfl rfl rfl) rfl) rfl rfl ?_
  refine RegG.via (fun _ h=>AWP.swap 1 3 (fl:=[(0,.v (.string s)),(3,.ptr 0 0 0),(5,.ptr 2 0 0),(6,.clo 137 [.ptr 0 0 0,.ptr 2 0 0]),(20,.v (.int .i64 ((s.size:Nat):Int))),(21,.v (.int .i64 ((k0:Nat):Int)))]) (hl:=[(0,⟨0,[.v (.string p)],0,false⟩),(2,⟨0,[.sl 3 0 0 (p.size+1)],0,false⟩),(3,⟨0,rowB (p.size+1) (reachS s p (k0+1)),1,false⟩)]) (u:=4) (cO (.cons rfl rfl (.cons rfl rfl (.cons rfl rfl (.cons rfl rfl (.cons rfl rfl (.cons rfl rfl .nil)))))) (.cons rfl rfl rfl (.cons rfl rfl rfl (.cons (bB (fun i hi=>(sk_end (by omega)).trans (next_reach i (by omega)))) rfl (rowB_low _) .nil)))) ⟨rfl,rfl,rfl,rfl,rfl,rfl,trivial⟩ ⟨rfl,rfl,rowB_in _,trivial⟩ (by decide) (by decide) (by decide) (fl':=[(0,.v (.string s)),(3,.ptr 0 0 0),(5,.ptr 2 0 0),(6,.clo 137 [.ptr 0 0 0,.ptr 2 0 0]),(20,.v (.int .i64 ((s.size:Nat):Int))),(21,.v (.int .i64 ((k0:Nat):Int)))]) (hl':=[(0,⟨0,[.v (.string p)],0,false⟩),(2,⟨0,[.sl 1 0 0 (p.size+1)],0,false⟩),(1,⟨0,rowB (p.size+1) (reachS s p (k0+1)),1,false⟩)]) rfl (by simp only [List.map,Blk.ren,rowB_ren]; rfl) h) ?_
  refine RegG.go ?_
  refine ⟨by omega,?_⟩
  refine ⟨(k0+1),by omega,(cO (.cons rfl rfl (.cons rfl rfl (.cons rfl rfl (.cons rfl rfl (.cons rfl rfl (.cons rfl rfl .nil)))))) (.cons rfl rfl rfl (.cons (by rfl) rfl (rowB_low _) (.cons rfl rfl rfl .nil)))),?_⟩
  omega
 have hge22:¬ k0 < s.size:=fun h=>of_decide_eq_false hc22 (Int.ofNat_lt.2 h)
 refine OpG.lk (LOp.indexB (i:=p.size) Tryz.underlying238 sz4 rfl rfl (by omega) (by omega) rfl) ?_
 refine OpG.lk (LOp.loadB row4 rfl rfl (by omega)) ?_
 refine rV Tryz.results98 rfl ?_
 have e:k0=s.size:=by omega
 subst e; exact vb_eq reach_end
end Go.Proofs.YthpangmpihkniaaGreatDoor
