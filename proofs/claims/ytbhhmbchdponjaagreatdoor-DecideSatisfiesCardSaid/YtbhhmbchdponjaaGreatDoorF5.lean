/- Texts of the claim. -/
import Derived.Test.YtbhhmbchdponjaaGreatDoorF4
import Derived.Test.YtbhhmbchdponjaaGreatDoorQ2
namespace Go.Proofs.YtbhhmbchdponjaaGreatDoor
set_option linter.unusedVariables false
set_option linter.unusedSectionVars false
set_option linter.unusedSimpArgs false
open Go.RowKit
theorem tup2_tr {T:Nat→Prop} {w:World} {a b:Value} {x:Value} (h:TR T w (.tup [.v a,.v b]) x):x=.tuple #[a,b]:=by
 cases h with
 | tup h1 h2=>
  rename_i vs
  have k0:=(h2 0 (by simp) (by simp at h1; omega)).v_inv
  have k1:=(h2 1 (by simp) (by simp at h1; omega)).v_inv
  congr 1
  apply Array.ext
  ·simpa using h1.symm
  ·intro i hi hi'
   have:i=0∨i=1:=by simp at hi'; omega
   rcases this with rfl | rfl
   ·exact k0
   ·exact k1
theorem PCall.tup2 {P:Program} {f:FuncId} {args:List AV} {a b:Value} (h:PCall P f args (.tup [.v a,.v b])):PCall P f args (.v (.tuple #[a,b])):=by
 intro T w vals hv hT
 refine (h T w vals hv hT).mono ?_
 rintro e w' ⟨x,T',h1,h2,h3⟩
 have e:=tup2_tr h2
 subst e
 exact ⟨_,T',h1,.v _,h3⟩
theorem LOp.callB2 {P:Program} {τ:Nat→AV} {η:Heap} {d:Option Tmp} {ty:TypeId} {pos:String} {af:Array Edge} {g:Option (Nat×Bool)} {f:FuncId} {xs:Array Operand} {ats:Array TypeId} {a b:Value} {args:List AV} (fp:List Nat) (hb:bodied P f=true) (hl:xs.size=args.length) (hf:∀ i (h:i < xs.size) (h':i < args.length),FzP fp η (aev τ xs[i]) args[i]) (hc:PCall P f args (.tup [.v a,.v b])) :
 LOp P ⟨d,.call { callee:=.value (.func f),args:=xs,argTypes:=ats },ty,pos,af,g⟩ τ η fp [] (.tup [.v a,.v b]):=by
 have h:=LOp.callB (P:=P) (τ:=τ) (η:=η) (d:=d) (ty:=ty) (pos:=pos) (af:=af) (g:=g) (ats:=ats) fp hb hl hf hc.tup2
 intro C a' hg hxs hfp hn K Q hK
 refine h C a' hg hxs hfp hn K Q fun x C' h1 h2 h3 h4 h5=>hK x C' h1 h2 h3 h4 ?_
 rw [h5.v_inv]
 exact .tup (by simp) fun i hi hi'=>by
  have:i=0∨i=1:=by simp at hi; omega
  rcases this with rfl | rfl
  ·exact VR.v C' _
  ·exact VR.v C' _
section
variable {P:Program} {τ:Nat→AV} {η:Heap} {d:Option Tmp} {ty:TypeId} {pos:String} {af:Array Edge} {g:Option (Nat×Bool)}
theorem LOp.quoT {t t':Nat} {x y:Operand} {m n:Int} (hx:aev τ x=.v (.int .i64 m)) (hy:aev τ y=.v (.int .i64 n)) (h1:-9223372036854775808≤m) (h2:m≤9223372036854775807) (h3:1≤n) :
 LOp P ⟨d,.binOp .quo t x y t',ty,pos,af,g⟩ τ η [] [] (.v (.int .i64 (m.tdiv n))) :=
 .look [] fun C a _ hxs _=>by
  have e1:=hxs x (by simp [Op.operands])
  have e2:=hxs y (by simp [Op.operands])
  rw [hx] at e1
  rw [hy] at e2
  refine ⟨.int .i64 (m.tdiv n),?_,VR.v C _⟩
  have hw:=Go.IntWalk.i64_quo' m n ⟨h1,h2,h3⟩
  have h0:¬ (n=0):=by omega
  simp only [execOp,e1.v_inv,e2.v_inv]
  simp [binOp,Op.intArith,Op.intDiv,eqGuard,h0,Sem.run_bind,hw]
end
theorem tdiv_fdiv {a b:Int} (hb:1≤b):(if a.tdiv b * b > a then a.tdiv b - 1 else a.tdiv b)=a.fdiv b:=by
 have h1:=Int.tmod_add_mul_tdiv a b
 have h4:b * a.tdiv b=a.tdiv b * b:=Int.mul_comm _ _
 have hf:=Int.fdiv_eq_ediv_of_nonneg a (by omega:(0:Int)≤b)
 rw [hf]
 have h2:=Int.emod_add_mul_ediv a b
 have h3:=Int.emod_nonneg a (by omega:b≠0)
 have h5:=Int.emod_lt_of_pos a (by omega:0 < b)
 have h6:=Int.tmod_lt_of_pos a (by omega:0 < b)
 have h7:-b < a.tmod b:=Int.lt_tmod_of_pos a (by omega)
 split
 ·rename_i h
  have:(a.tdiv b - 1)=a / b:=by
   refine (Int.ediv_eq_iff_of_pos (by omega) |>.2 ⟨?_,?_⟩).symm <;> (try rw [Int.sub_mul]) <;> (try rw [Int.add_mul]) <;> (try rw [Int.sub_mul]) <;> omega
  exact this
 rename_i h
 refine (Int.ediv_eq_iff_of_pos (by omega) |>.2 ⟨?_,?_⟩).symm
 ·omega
 omega
section
variable {P:Program} {τ:Nat→AV} {η:Heap} {d:Option Tmp} {ty:TypeId} {pos:String} {af:Array Edge} {g:Option (Nat×Bool)}
theorem LOp.remT {t t':Nat} {x y:Operand} {m n:Int} (hx:aev τ x=.v (.int .i64 m)) (hy:aev τ y=.v (.int .i64 n)) (h3:1≤n) :
 LOp P ⟨d,.binOp .rem t x y t',ty,pos,af,g⟩ τ η [] [] (.v (.int .i64 (m.tmod n))) :=
 .look [] fun C a _ hxs _=>by
  have e1:=hxs x (by simp [Op.operands])
  have e2:=hxs y (by simp [Op.operands])
  rw [hx] at e1
  rw [hy] at e2
  refine ⟨.int .i64 (m.tmod n),?_,VR.v C _⟩
  have h0:¬ (n=0):=by omega
  simp only [execOp,e1.v_inv,e2.v_inv]
  simp [binOp,Op.intArith,Op.intDiv,eqGuard,h0,Sem.run_bind]
end
def w64 (x:Int):Int:=IntKind.i64.wrap x
theorem w64_rng (x:Int):-9223372036854775808≤w64 x∧w64 x≤9223372036854775807:=by unfold w64; rw [IntKind.wrap_i64]; omega
theorem LOp.addW {P:Program} {τ:Nat→AV} {η:Heap} {d:Option Tmp} {ty:TypeId} {pos:String} {af:Array Edge} {g:Option (Nat×Bool)} {t t':Nat} {x y:Operand} {m n:Int} (hx:aev τ x=.v (.int .i64 m)) (hy:aev τ y=.v (.int .i64 n)) :
 LOp P ⟨d,.binOp .add t x y t',ty,pos,af,g⟩ τ η [] [] (.v (.int .i64 (w64 (m+n)))) :=
 .look [] fun C a _ hxs _=>by
  have e1:=hxs x (by simp [Op.operands])
  have e2:=hxs y (by simp [Op.operands])
  rw [hx] at e1
  rw [hy] at e2
  refine ⟨.int .i64 (IntKind.i64.wrap (m+n)),?_,VR.v C _⟩
  simp only [execOp,e1.v_inv,e2.v_inv]
  rfl
theorem LOp.mulW {P:Program} {τ:Nat→AV} {η:Heap} {d:Option Tmp} {ty:TypeId} {pos:String} {af:Array Edge} {g:Option (Nat×Bool)} {t t':Nat} {x y:Operand} {m n:Int} (hx:aev τ x=.v (.int .i64 m)) (hy:aev τ y=.v (.int .i64 n)) :
 LOp P ⟨d,.binOp .mul t x y t',ty,pos,af,g⟩ τ η [] [] (.v (.int .i64 (w64 (m * n)))) :=
 .look [] fun C a _ hxs _=>by
  have e1:=hxs x (by simp [Op.operands])
  have e2:=hxs y (by simp [Op.operands])
  rw [hx] at e1
  rw [hy] at e2
  refine ⟨.int .i64 (IntKind.i64.wrap (m * n)),?_,VR.v C _⟩
  simp only [execOp,e1.v_inv,e2.v_inv]
  rfl
theorem flE {a b:Int} (hb:1≤b):(a.tmod b < 0→a.tdiv b - 1=a.fdiv b)∧(¬ a.tmod b < 0→a.tdiv b=a.fdiv b):=by
 have hf:=tdiv_fdiv (a:=a) hb
 have h1:=Int.tmod_add_mul_tdiv a b
 have h4:b * a.tdiv b=a.tdiv b * b:=Int.mul_comm _ _
 refine ⟨fun h=>?_,fun h=>?_⟩
 ·rw [← hf,if_pos (by omega)]
 rw [← hf,if_neg (by omega)]
abbrev zV:GVal:=⟨0,0,⟨#[]⟩⟩
def rowF (r:List GVal) (i:Int):GVal:=r.getD i.toNat zV
theorem rF_nat {w:List GVal} {j:Nat} {v:Int} (hv:v=((j:Nat):Int)) (hj:j < w.length):rowF w v=w[j]:=by subst hv; unfold rowF; simp [hj]
def vvR (w:List GVal) (A:List Int) (v:Int):Int:=if v≥((w.length:Nat):Int) then A.getD (v - ((w.length:Nat):Int)).toNat 0 else (rowF w v).int_
def vOk (w:List GVal) (v:Int):Bool:=decide (v≥((w.length:Nat):Int))||(rowF w v).kind_==1
def sumW (w:List GVal) (A:List Int) (cs:List PCoef) (e:Int):Int:=cs.foldl (fun e c=>w64 (e+w64 (c.n * vvR w A c.v))) e
def okF (w:List GVal) (f:PLin):Bool:=f.cs.all fun c=>vOk w c.v
def valW (w:List GVal) (A:List Int) (f:PLin):Int:=sumW w A f.cs f.k
def tup2 (b:Bool) (v:Int):AV:=.tup [.v (.int .i64 (if b=true then v else 0)),.v (.bool b)]
structure RgF (n m:Nat) (f:PLin):Prop where
 len:f.cs.length≤1000000000
 k:-1099511627777≤f.k∧f.k≤1099511627777
 rng:∀ c∈f.cs,0≤c.v∧c.v < ((n:Nat):Int)+((m:Nat):Int)
section
variable {w:List GVal} {A:List Int} {f:PLin}
theorem vv_in {v:Int} {j:Nat} (hv:v=((j:Nat):Int)) (hj:j < w.length):vvR w A v=w[j].int_:=by
 unfold vvR; rw [if_neg (by omega),rF_nat hv hj]
theorem vv_ax {v:Int} {j:Nat} (hv:v - ((w.length:Nat):Int)=((j:Nat):Int)) (hj:j < A.length):vvR w A v=A[j]:=by
 unfold vvR; rw [if_pos (by omega),hv]; simp [hj]
theorem vo_ge {v:Int} (h:v≥((w.length:Nat):Int)):vOk w v=true:=by unfold vOk; rw [decide_eq_true h]; rfl
theorem vo_in {v:Int} {j:Nat} (hv:v=((j:Nat):Int)) (hj:j < w.length):vOk w v=(w[j].kind_==1):=by
 unfold vOk; rw [rF_nat hv hj,decide_eq_false (by omega)]; rfl
theorem sw_nx {k:Nat} {e:Int} (hk:k < f.cs.length) (h:e=sumW w A (f.cs.take k) f.k):w64 (e+w64 (f.cs[k].n * vvR w A f.cs[k].v))=sumW w A (f.cs.take (k+1)) f.k:=by
 unfold sumW at h ⊢
 rw [List.take_succ_eq_append_getElem hk,List.foldl_append,← h]; rfl
theorem okF_no {k:Nat} (hk:k < f.cs.length) (h:vOk w f.cs[k].v=false):okF w f=false:=by
 unfold okF; rw [List.all_eq_false]; exact ⟨_,List.getElem_mem hk,by rw [h]; simp⟩
theorem okF_yes (h:∀ c∈f.cs,vOk w c.v=true):okF w f=true:=List.all_eq_true.2 h
theorem sumW_rng:∀ (cs:List PCoef) {e:Int},-9223372036854775808≤e∧e≤9223372036854775807→-9223372036854775808≤sumW w A cs e∧sumW w A cs e≤9223372036854775807
 | [],_,h=>h
 | c :: cs,e,_=>sumW_rng cs (e:=w64 (e+w64 (c.n * vvR w A c.v))) (w64_rng _)
theorem valW_rng {n m:Nat} (h:RgF n m f):-9223372036854775808≤valW w A f∧valW w A f≤9223372036854775807:=by
 have:=h.k; exact sumW_rng f.cs (by omega)
end
def axW (w:List GVal) (A:List Int) (x:PAux):Int:=if x.by_=0 then (((rowF w x.tx).text_.size:Nat):Int) else (valW w A x.of_).fdiv x.by_
def axO (w:List GVal) (x:PAux):Bool:=if x.by_=0 then (rowF w x.tx).kind_==2 else okF w x.of_
def axsW (w:List GVal) (L:List PAux):List Int:=L.foldl (fun A x=>A++[axW w A x]) []
theorem axsW_snoc (w:List GVal) (L:List PAux) (x:PAux):axsW w (L++[x])=axsW w L++[axW w (axsW w L) x]:=by simp [axsW,List.foldl_append]
theorem axsW_len (w:List GVal):∀ (L:List PAux) (k:Nat),k≤L.length→(axsW w (L.take k)).length=k
 | L,0,_=>rfl
 | L,k+1,h=>by rw [List.take_succ_eq_append_getElem (by omega),axsW_snoc,List.length_append,axsW_len w L k (by omega)]; rfl
def axT (w:List GVal) (L:List PAux):AV:=.tup [.tree 1 ((if L.all (axO w)=true then axsW w L else []).map iA),.v (.bool (L.all (axO w)))]
structure RgA (n j:Nat) (x:PAux):Prop where
 t:x.by_=0→0≤x.tx∧x.tx < ((n:Nat):Int)
 d:x.by_≠0→(1≤x.by_∧x.by_≤1000)∧RgF n j x.of_
theorem ax_t {w:List GVal} {A:List Int} {x:PAux} {j:Nat} (h:x.by_=0) (hv:x.tx=((j:Nat):Int)) (hj:j < w.length):((w[j].text_.size:Nat):Int)=axW w A x:=by unfold axW; rw [if_pos h,rF_nat hv hj]
theorem ax_d1 {w:List GVal} {A:List Int} {x:PAux} (h:¬ x.by_=0) (hb:1≤x.by_) (hm:(valW w A x.of_).tmod x.by_ < 0):(valW w A x.of_).tdiv x.by_ - 1=axW w A x:=by unfold axW; rw [if_neg h]; exact (flE hb).1 hm
theorem ax_d0 {w:List GVal} {A:List Int} {x:PAux} (h:¬ x.by_=0) (hb:1≤x.by_) (hm:¬ (valW w A x.of_).tmod x.by_ < 0):(valW w A x.of_).tdiv x.by_=axW w A x:=by unfold axW; rw [if_neg h]; exact (flE hb).2 hm
theorem axs_nx {w:List GVal} {L:List PAux} {k:Nat} {M:List Int} {v:Int} (hk:k < L.length) (h:M=axsW w (L.take k)) (hv:v=axW w M L[k]):M++[v]=axsW w (L.take (k+1)):=by
 rw [List.take_succ_eq_append_getElem hk,axsW_snoc,← h,hv]
theorem axT_no {w:List GVal} {L:List PAux} {k:Nat} (hk:k < L.length) (h:axO w L[k]=false):AV.tup [.tree 1 [],.v (.bool false)]=axT w L:=by
 have e:L.all (axO w)=false:=by rw [List.all_eq_false]; exact ⟨_,List.getElem_mem hk,by rw [h]; simp⟩
 unfold axT; rw [e,if_neg Bool.false_ne_true]; rfl
theorem axT_yes {w:List GVal} {L:List PAux} {M:List Int} (h:∀ x∈L,axO w x=true) (hM:M=axsW w L):AV.tup [.tree 1 (M.map iA),.v (.bool true)]=axT w L:=by
 have e:L.all (axO w)=true:=List.all_eq_true.2 h
 unfold axT; rw [e,if_pos rfl,hM]
theorem axO_t {w:List GVal} {x:PAux} {j:Nat} (h:x.by_=0) (hv:x.tx=((j:Nat):Int)) (hj:j < w.length):axO w x=(w[j].kind_==2):=by unfold axO; rw [if_pos h,rF_nat hv hj]
theorem axO_d {w:List GVal} {x:PAux} (h:¬ x.by_=0):axO w x=okF w x.of_:=by unfold axO; rw [if_neg h]
theorem td_rng {a b:Int} (ha:-9223372036854775808≤a∧a≤9223372036854775807) (hb:1≤b):(-9223372036854775808≤a.tdiv b∧a.tdiv b≤9223372036854775807)∧(a.tmod b < 0→-9223372036854775808≤a.tdiv b - 1)∧(-9223372036854775808≤a.tdiv b * b∧a.tdiv b * b≤9223372036854775807):=by
 have h1:=Int.tmod_add_mul_tdiv a b
 have h4:b * a.tdiv b=a.tdiv b * b:=Int.mul_comm _ _
 by_cases h0:0≤a
 ·have h2:0≤a.tmod b:=Int.tmod_nonneg b h0
  have h3:0≤a.tdiv b:=Int.tdiv_nonneg h0 (by omega)
  have h5:a.tdiv b≤a.tdiv b * b:=by
   have:=Int.mul_le_mul_of_nonneg_left hb h3; omega
  refine ⟨by omega,fun h=>by omega,by omega⟩
 have h2:a.tmod b≤0:=by
  have:=Int.tmod_nonneg b (a:=-a) (by omega)
  rw [Int.neg_tmod] at this; omega
 have h3:a.tdiv b≤0:=by
  have:=Int.tdiv_nonneg (a:=-a) (b:=b) (by omega) (by omega)
  rw [Int.neg_tdiv] at this; omega
 have h5:a.tdiv b * b≤a.tdiv b:=by
  have:=Int.mul_le_mul_of_nonneg_left hb (a:=1) (c:=-a.tdiv b) (by omega)
  rw [Int.neg_mul,Int.neg_mul] at this; omega
 refine ⟨by omega,fun h=>by omega,by omega⟩
structure RG (c:PCl) (n:Nat):Prop where
 nul:∀ v∈c.nul,0≤v∧v < ((n:Nat):Int)
 nn:∀ v∈c.nn,0≤v∧v < ((n:Nat):Int)
 ax:∀ k (h:k < c.aux.length),RgA n k c.aux[k]
 it:∀ k∈c.ints,RgF n c.aux.length k.l
 ts:∀ t∈c.tests,(0≤t.v∧t.v < ((n:Nat):Int))∧(0≤t.kd∧t.kd≤3)∧FitS t.s
 sm:∀ p∈c.same,(0≤p.1∧p.1 < ((n:Nat):Int))∧(0≤p.2∧p.2 < ((n:Nat):Int))
 df:∀ p∈c.diff,(0≤p.1∧p.1 < ((n:Nat):Int))∧(0≤p.2∧p.2 < ((n:Nat):Int))
 l1:c.nul.length≤1000000000
 l2:c.nn.length≤1000000000
 l3:c.aux.length≤1000000000
 l4:c.ints.length≤1000000000
 l5:c.tests.length≤1000000000
 l6:c.same.length≤1000000000
 l7:c.diff.length≤1000000000
def nulH (w:List GVal) (v:Int):Prop:=(rowF w v).kind_=0
def nnH (w:List GVal) (v:Int):Prop:=¬ (rowF w v).kind_=0
def conG (w:List GVal) (A:List Int) (k:PCon):Prop:=okF w k.l=true∧valW w A k.l≤0∧(k.eq=true→valW w A k.l=0)
def tesG (w:List GVal) (t:PTest):Prop:=(rowF w t.v).kind_=2∧pasS t (rowF w t.v).text_=true
def samG (w:List GVal) (p:Int×Int):Prop:=(rowF w p.1).kind_=2∧(rowF w p.2).kind_=2∧(rowF w p.1).text_=(rowF w p.2).text_
def difG (w:List GVal) (p:Int×Int):Prop:=(rowF w p.1).kind_=2∧(rowF w p.2).kind_=2∧¬ (rowF w p.1).text_=(rowF w p.2).text_
structure HW (c:PCl) (w:List GVal):Prop where
 nul:∀ v∈c.nul,nulH w v
 nn:∀ v∈c.nn,nnH w v
 ax:c.aux.all (axO w)=true
 ints:∀ k∈c.ints,conG w (axsW w c.aux) k
 tests:∀ t∈c.tests,tesG w t
 same:∀ p∈c.same,samG w p
 diff:∀ p∈c.diff,difG w p
theorem hf_n {c:PCl} {w:List GVal} (h:¬ HW c w):∃ b:Bool,AV.v (.bool false)=.v (.bool b)∧(b=true↔HW c w):=⟨false,rfl,fun e=>absurd e Bool.false_ne_true,fun e=>absurd e h⟩
theorem toList_inj {a b:ByteArray} (h:a.toList=b.toList):a=b:=by
 rw [Go.ByteArray.toList_eq,Go.ByteArray.toList_eq] at h
 exact ByteArray.ext (Array.toList_inj.1 h)
theorem le_nlt:∀ l m:List UInt8,(Op.bytesLess l m||l==m)=!Op.bytesLess m l
 | [],[]=>by simp [Op.bytesLess]
 | [],_ :: _=>by simp [Op.bytesLess]
 | _ :: _,[]=>by simp [Op.bytesLess]
 | a :: l,b :: m=>by
  have ih:=le_nlt l m
  by_cases e:a=b
  ·subst e
   have h:¬ a < a:=Std.lt_irrefl
   simp only [Op.bytesLess,h,decide_false,Bool.false_or,beq_self_eq_true,Bool.true_and,List.cons_beq_cons]
   exact ih
  ·have e2:¬ b=a:=fun h=>e h.symm
   have hn:¬ a.toNat=b.toNat:=fun h=>e (u8.1 h)
   by_cases h1:a < b
   ·have h2:¬ b < a:=fun g=>by have h3:=UInt8.lt_iff_toNat_lt.1 h1; have h4:=UInt8.lt_iff_toNat_lt.1 g; omega
    simp [Op.bytesLess,h1,h2,e,e2]
   ·have h2:b < a:=UInt8.lt_iff_toNat_lt.2 (by have h3:¬ a.toNat < b.toNat:=fun g=>h1 (UInt8.lt_iff_toNat_lt.2 g); omega)
    simp [Op.bytesLess,h1,h2,e,e2]
def pasP (t:PTest) (s:ByteArray):Bool:=pasS ⟨t.v,t.kd,false,t.s⟩ s
theorem pasP_ng (t:PTest) (s:ByteArray):pasS t s=(pasP t s != t.ng):=by unfold pasP pasS; simp
section
variable {t:PTest} {s:ByteArray}
theorem pg_0 (h:t.kd=0):(s.toList==t.s.toList)=pasP t s:=by unfold pasP pasS; simp [h]
theorem pg_1 (h:t.kd=1):likeS s t.s=pasP t s:=by unfold pasP pasS; simp [h]
theorem pg_2 (h:t.kd=2):Op.bytesLess s.toList t.s.toList=pasP t s:=by unfold pasP pasS lessS; simp [h]
theorem pg_3 (h:t.kd=3):(Op.bytesLess s.toList t.s.toList||s.toList==t.s.toList)=pasP t s:=by unfold pasP pasS lessS; rw [le_nlt]; simp [h]
end
section
variable {w:List GVal} {v:Int} {j:Nat} (hv:v=((j:Nat):Int)) (hj:j < w.length)
include hv hj
theorem nul_y (h:w[j].kind_=0):nulH w v:=by unfold nulH; rw [rF_nat hv hj]; exact h
theorem nul_n (h:¬ w[j].kind_=0):¬ nulH w v:=by unfold nulH; rw [rF_nat hv hj]; exact h
theorem nn_y (h:¬ w[j].kind_=0):nnH w v:=by unfold nnH; rw [rF_nat hv hj]; exact h
theorem nn_n (h:w[j].kind_=0):¬ nnH w v:=by unfold nnH; rw [rF_nat hv hj]; exact fun g=>g h
end
theorem con_y1 {w:List GVal} {A:List Int} {k:PCon} (h0:okF w k.l=true) (h:¬ valW w A k.l > 0) (h2:valW w A k.l=0):conG w A k:=⟨h0,by omega,fun _=>h2⟩
theorem con_y0 {w:List GVal} {A:List Int} {k:PCon} (h0:okF w k.l=true) (h:¬ valW w A k.l > 0) (h2:k.eq=false):conG w A k:=⟨h0,by omega,fun g=>by rw [h2] at g; cases g⟩
theorem con_n1 {w:List GVal} {A:List Int} {k:PCon} (h:valW w A k.l > 0):¬ conG w A k:=fun g=>by have:=g.2.1; omega
theorem con_n0 {w:List GVal} {A:List Int} {k:PCon} (h:¬ valW w A k.l=0) (he:k.eq=true):¬ conG w A k:=fun g=>h (g.2.2 he)
section
variable {w:List GVal} {p:Int×Int} {i j:Nat} (h1:p.1=((i:Nat):Int)) (hi:i < w.length) (h2:p.2=((j:Nat):Int)) (hj:j < w.length)
include h1 hi h2 hj
theorem sam_y (k1:w[i].kind_=2) (k2:w[j].kind_=2) (h:(!(w[i].text_.toList==w[j].text_.toList))=false):samG w p:=by
 unfold samG; rw [rF_nat h1 hi,rF_nat h2 hj]; exact ⟨k1,k2,toList_inj (by simpa using h)⟩
theorem sam_n (h:(!(w[i].text_.toList==w[j].text_.toList))=true):¬ samG w p:=by
 unfold samG; rw [rF_nat h1 hi,rF_nat h2 hj]; rintro ⟨_,_,e⟩; rw [e] at h; simp at h
theorem sam_k1 (h:¬ w[i].kind_=2):¬ samG w p:=by unfold samG; rw [rF_nat h1 hi]; exact fun g=>h g.1
theorem sam_k2 (h:¬ w[j].kind_=2):¬ samG w p:=by unfold samG; rw [rF_nat h2 hj]; exact fun g=>h g.2.1
theorem dif_y (k1:w[i].kind_=2) (k2:w[j].kind_=2) (h:(w[i].text_.toList==w[j].text_.toList)=false):difG w p:=by
 unfold difG; rw [rF_nat h1 hi,rF_nat h2 hj]; exact ⟨k1,k2,fun e=>by rw [e] at h; simp at h⟩
theorem dif_n (h:(w[i].text_.toList==w[j].text_.toList)=true):¬ difG w p:=by
 unfold difG; rw [rF_nat h1 hi,rF_nat h2 hj]; rintro ⟨_,_,e⟩; exact e (toList_inj (by simpa using h))
theorem dif_k1 (h:¬ w[i].kind_=2):¬ difG w p:=by unfold difG; rw [rF_nat h1 hi]; exact fun g=>h g.1
theorem dif_k2 (h:¬ w[j].kind_=2):¬ difG w p:=by unfold difG; rw [rF_nat h2 hj]; exact fun g=>h g.2.1
end
theorem tes_y {w:List GVal} {t:PTest} {j:Nat} (hv:t.v=((j:Nat):Int)) (hj:j < w.length) (hk:w[j].kind_=2) (h:(pasP t w[j].text_==t.ng)=false):tesG w t:=by
 unfold tesG; rw [rF_nat hv hj,pasP_ng]; exact ⟨hk,by cases h1:pasP t w[j].text_ <;> cases h2:t.ng <;> simp_all⟩
theorem tes_k {w:List GVal} {t:PTest} {j:Nat} (hv:t.v=((j:Nat):Int)) (hj:j < w.length) (hk:¬ w[j].kind_=2):¬ tesG w t:=by
 unfold tesG; rw [rF_nat hv hj]; exact fun h=>hk h.1
theorem tes_n {w:List GVal} {t:PTest} {j:Nat} (hv:t.v=((j:Nat):Int)) (hj:j < w.length) (h:(pasP t w[j].text_==t.ng)=true):¬ tesG w t:=by
 unfold tesG; rw [rF_nat hv hj,pasP_ng]; rintro ⟨_,h3⟩; cases h1:pasP t w[j].text_ <;> cases h2:t.ng <;> simp_all
theorem bod73:bodied Tryz.prog 73=true:=by kernel_rfl
theorem sz74:sizeInfo Tryz.prog 74=some 3:=by kernel_rfl
set_option maxRecDepth 100000 in
set_option maxHeartbeats 4000000 in
theorem integerW_p (w:List GVal) (hw:FitL w (fun y=>FitVal y)) (m:List Int) (hm:FitL m (fun y=>True)) (v:Int) (hv:0≤v∧v < ((w.length:Nat):Int)+((m.length:Nat):Int)):PRet Tryz.prog 105 [.v (.int .i64 v),.tree 3 (w.map gvA),.tree 1 (m.map iA)] (fun r=>r=.tup [.v (.int .i64 (vvR w m v)),.v (.bool (vOk w v))]):=by
 refine ovT [17,21,26] [] Tryz.func105 rfl rfl ?_
 refine LenG.of (cD (fun hq11=>?_) (fun hq11=>?_))
 ·obtain ⟨j,hj,hjl⟩:∃ j:Nat,v - ((w.length:Nat):Int)=((j:Nat):Int)∧j < m.length:=⟨(v - ((w.length:Nat):Int)).toNat,by omega,by omega⟩
  refine LenG.of ⟨by omega,OpG.lk (LOp.indexI Tryz.underlying134 sz2 rfl rfl hj hjl) ?_⟩
  refine ⟨.inr rfl,_,Outs.two Tryz.results105 (OutR.tmp ⟨[],FzP.pure rfl⟩) (OutR.tmp ⟨[],FzP.pure rfl⟩),?_⟩
  rw [vv_ax hj hjl,vo_ge (by omega)]; rfl
 obtain ⟨j,hj,hjl⟩:∃ j:Nat,v=((j:Nat):Int)∧j < w.length:=⟨v.toNat,by omega,by omega⟩
 refine OpG.lk (LOp.indexI Tryz.underlying43 sz74 rfl rfl hj hjl) ?_
 refine OpG.lk (LOp.indexI Tryz.underlying43 sz74 rfl rfl hj hjl) ?_
 refine ⟨by kernel_rfl,?_⟩
 refine ⟨.inr rfl,_,Outs.two Tryz.results105 (OutR.tmp ⟨[],FzP.pure rfl⟩) (OutR.tmp ⟨[],FzP.pure rfl⟩),?_⟩
 rw [vv_in hj hjl,vo_in hj hjl]; rfl
set_option maxRecDepth 100000 in
set_option maxHeartbeats 4000000 in
theorem computeW_p (f:PLin) (w:List GVal) (hw:FitL w (fun y=>FitVal y)) (m:List Int) (hm:FitL m (fun y=>True)) (hcf:RgF w.length m.length f):PRet Tryz.prog 73 [.agg (liA f),.tree 3 (w.map gvA),.tree 1 (m.map iA)] (fun r=>r=tup2 (okF w f) (valW w m f)):=by
 have hfl:=hcf.len
 refine ovT [36,37] [] Tryz.func73 rfl rfl (LenG.of ?_)
 refine LpG.on (fun k0:KE=>(⟨fL [(1,.tree 3 (w.map gvA)),(2,.tree 1 (m.map iA)),(8,.v (.int .i64 k0.e)),(16,.tree 2 (f.cs.map cfA)),(17,.v (.int .i64 ((f.cs.length:Nat):Int))),(18,.v (.int .i64 ((k0.k:Nat):Int)))],hLz [],1⟩:St)) (fun k0=>(f.cs.length - k0.k)) (fun k0=>(k0.k≤f.cs.length∧(k0.e=sumW w m (f.cs.take k0.k) f.k∧∀ j (hl:j < f.cs.length),j < k0.k→vOk w f.cs[j].v=true))) (⟨0,f.k⟩:KE) (cO (.cons rfl rfl (.cons rfl rfl (.cons rfl rfl (.cons rfl rfl (.cons rfl rfl (.cons rfl rfl .nil)))))) .nil) ⟨Nat.zero_le _,⟨rfl,fun j _ h=>absurd h (Nat.not_lt_zero j)⟩⟩ ?_
 rintro k0 hinv
 obtain ⟨hle_k0,hi_k0⟩:=hinv
 refine cL (fun hlt19=>?_) (fun hge19=>?_)
 ·refine IdxG.of (by assumption) (ArgG.mk (integerW_p w hw m hm f.cs[k0.k].v (hcf.rng _ (List.getElem_mem _))) rfl ?_)
  rintro _ rfl
  refine cB (fun hc31=>?_) (fun hc31=>?_)
  ·have hvo:vOk w f.cs[k0.k].v=false:=by simpa using hc31
   refine ⟨.inr rfl,_,Outs.two Tryz.results73 (OutR.tmp ⟨[],FzP.pure rfl⟩) (OutR.tmp ⟨[],FzP.pure rfl⟩),?_⟩
   rw [okF_no hlt19 hvo]; rfl
  have hvo:vOk w f.cs[k0.k].v=true:=nb hc31
  refine OpG.lk (LOp.mulW rfl rfl) (OpG.lk (LOp.addW rfl rfl) ?_)
  refine ⟨by omega,⟨(⟨k0.k+1,w64 (k0.e+w64 (f.cs[k0.k].n * vvR w m f.cs[k0.k].v))⟩:KE),(by show f.cs.length - (k0.k+1) < f.cs.length - k0.k; omega),(cO (.cons rfl rfl (.cons rfl rfl (.cons rfl rfl (.cons rfl rfl (.cons rfl rfl (.cons rfl rfl .nil)))))) .nil),?_⟩⟩
  exact ⟨by show k0.k+1≤_; omega,⟨sw_nx hlt19 hi_k0.1,fun j hl h=>(Nat.lt_succ_iff_lt_or_eq.1 h).elim (hi_k0.2 j hl) (fun e=>by subst e; exact hvo)⟩⟩
 refine ⟨.inr rfl,_,Outs.two Tryz.results73 (OutR.tmp ⟨[],FzP.pure rfl⟩) (OutR.tmp ⟨[],FzP.pure rfl⟩),?_⟩
 have e:=hi_k0.1
 rw [List.take_of_length_le (by omega)] at e
 rw [okF_yes (all_of (P:=fun c:PCoef=>vOk w c.v=true) hge19 hi_k0.2),e]; rfl
set_option maxRecDepth 100000 in
set_option maxHeartbeats 4000000 in
theorem auxiliaryW_p (c:PCl) (w:List GVal) (hw:FitL w (fun y=>FitVal y)) (hal:c.aux.length≤1000000000) (hax:∀ k (h:k < c.aux.length),RgA w.length k c.aux[k]):PRet Tryz.prog 72 [.agg (clA c),.tree 3 (w.map gvA)] (fun r=>r=axT w c.aux):=by
 refine ovT [25,33,44,52,56] [] Tryz.func72 rfl rfl ?_
 refine LenG.of (LpG.via (fun _ h=>AWP.lazyT 6 1 rfl 2 rfl h) ?_)
 refine LpG.on (fun k0:KL Int=>(⟨fL [(1,.tree 3 (w.map gvA)),(6,.sl 1 k0.L.length 0 k0.L.length),(13,.tree 4 (c.aux.map axA)),(14,.v (.int .i64 ((c.aux.length:Nat):Int))),(15,.v (.int .i64 ((k0.k:Nat):Int)))],hLz [(1,⟨k0.L.length,rF iA k0.L,1,Nat.beq k0.L.length 0⟩)],2⟩:St)) (fun k0=>(c.aux.length - k0.k)) (fun k0=>(k0.k≤c.aux.length∧(k0.L=axsW w (c.aux.take k0.k)∧k0.L.length=k0.k∧∀ j (hl:j < c.aux.length),j < k0.k→axO w c.aux[j]=true))) (⟨0,[]⟩:KL Int) (cO (.cons rfl rfl (.cons (by rfl) rfl (.cons rfl rfl (.cons rfl rfl (.cons rfl rfl .nil))))) (.cons (by rfl) rfl (rF_low row_i _ _) .nil)) ⟨Nat.zero_le _,⟨rfl,rfl,fun j _ h=>absurd h (Nat.not_lt_zero j)⟩⟩ ?_
 rintro k0 hinv
 obtain ⟨hle_k0,hi_k0⟩:=hinv
 refine cL (fun hlt16=>?_) (fun hge16=>?_)
 ·have hll:=hi_k0.2.1
  have hxf:=hax _ hlt16
  refine IdxG.of (by assumption) (cE (fun hq21=>?_) (fun hq21=>?_))
  ·obtain ⟨j1,hj1,hj1l⟩:∃ j:Nat,c.aux[k0.k].tx=((j:Nat):Int)∧j < w.length:=⟨(c.aux[k0.k].tx).toNat,by have:=hxf.t hq21; omega,by have:=hxf.t hq21; omega⟩
   refine OpG.lk (LOp.indexI Tryz.underlying43 sz74 rfl rfl hj1 hj1l) ?_
   refine cN (fun hq28=>?_) (fun hq28=>?_)
   ·have hxo:axO w c.aux[k0.k]=false:=by rw [axO_t hq21 hj1 hj1l,beq_eq_false_iff_ne]; exact hq28
    refine ⟨.inr rfl,_,Outs.two Tryz.results72 (OutR.tmp (ret:=.tree 1 []) ⟨[],FzP.nil⟩) (OutR.tmp ⟨[],FzP.pure rfl⟩),?_⟩
    exact axT_no hlt16 hxo
   have hxo:axO w c.aux[k0.k]=true:=by rw [axO_t hq21 hj1 hj1l,beq_iff_eq]; exact hq28
   refine OpG.lk (LOp.indexI Tryz.underlying43 sz74 rfl rfl hj1 hj1l) ?_
   refine OpG.mk _ _ _ 4 (LOp.appRow row_i (a:=((w[j1].text_.size:Nat):Int)) Tryz.underlying134 sz2 zr2 by2 rfl rfl rfl (Src.slB rfl rfl rfl rfl) rfl (by omega) (by omega) (by unfold TV; omega)) rfl rfl ?_
   refine ⟨by omega,?_⟩
   refine ⟨(⟨k0.k+1,k0.L++[((w[j1].text_.size:Nat):Int)]⟩:KL Int),(by show c.aux.length - (k0.k+1) < c.aux.length - k0.k; omega),(cO (.cons rfl rfl (.cons (by (rw [List.length_append]; rfl)) rfl (.cons rfl rfl (.cons rfl rfl (.cons rfl rfl .nil))))) (.cons (by (rw [List.length_append]; rfl)) rfl (rF_low row_i _ _) .nil)),?_⟩
   refine ⟨by show k0.k+1≤_; omega,?_⟩
   refine ⟨by exact axs_nx hlt16 hi_k0.1 (ax_t hq21 hj1 hj1l),by show (_++[_]).length=_; rw [List.length_append,hi_k0.2.1]; rfl,fun j hl h=>(Nat.lt_succ_iff_lt_or_eq.1 h).elim (hi_k0.2.2 j hl) (fun e=>by subst e; exact hxo)⟩
  obtain ⟨hby,hcf⟩:=hxf.d hq21
  have hcl:=hcf.len
  have hcf:RgF w.length k0.L.length c.aux[k0.k].of_:=by rw [hll]; exact hcf
  have htr:=td_rng (valW_rng (w:=w) (A:=k0.L) hcf) hby.1
  have hvr:=valW_rng (w:=w) (A:=k0.L) hcf
  obtain ⟨_,rfl,hcl0⟩:=computeW_p c.aux[k0.k].of_ w hw k0.L ⟨by omega,fun _ _=>trivial⟩ hcf
  refine OpG.lk (LOp.callB2 [1] bod73 rfl (fun i h h'=>match i,h with | 0,_=>FzP.pure rfl | 1,_=>FzP.pure rfl | 2,_=>FzP.rows row_i (List.mem_singleton.2 rfl) rfl) hcl0) ?_
  refine cB (fun hc48=>?_) (fun hc48=>?_)
  ·have hxo:axO w c.aux[k0.k]=false:=by rw [axO_d hq21]; simpa using hc48
   refine ⟨.inr rfl,_,Outs.two Tryz.results72 (OutR.tmp (ret:=.tree 1 []) ⟨[],FzP.nil⟩) (OutR.tmp ⟨[],FzP.pure rfl⟩),?_⟩
   exact axT_no hlt16 hxo
  have hxk:okF w c.aux[k0.k].of_=true:=nb hc48
  have hxo:axO w c.aux[k0.k]=true:=by rw [axO_d hq21]; exact hxk
  rw [if_pos hxk]
  refine OpG.lk (LOp.quoT rfl rfl (by omega) (by omega) (by omega)) ?_
  refine OpG.lk (LOp.remT rfl rfl (by omega)) ?_
  refine cD (fun hq57=>?_) (fun hq57=>?_)
  ·refine ⟨by omega,?_⟩
   refine OpG.mk _ _ _ 4 (LOp.appRow row_i (a:=(((valW w k0.L c.aux[k0.k].of_).tdiv c.aux[k0.k].by_ - 1))) Tryz.underlying134 sz2 zr2 by2 rfl rfl rfl (Src.slB rfl rfl rfl rfl) rfl (by omega) (by omega) (by unfold TV; omega)) rfl rfl ?_
   refine ⟨by omega,?_⟩
   refine ⟨(⟨k0.k+1,k0.L++[(((valW w k0.L c.aux[k0.k].of_).tdiv c.aux[k0.k].by_ - 1))]⟩:KL Int),(by show c.aux.length - (k0.k+1) < c.aux.length - k0.k; omega),(cO (.cons rfl rfl (.cons (by (rw [List.length_append]; rfl)) rfl (.cons rfl rfl (.cons rfl rfl (.cons rfl rfl .nil))))) (.cons (by (rw [List.length_append]; rfl)) rfl (rF_low row_i _ _) .nil)),?_⟩
   refine ⟨by show k0.k+1≤_; omega,?_⟩
   refine ⟨by exact axs_nx hlt16 hi_k0.1 (ax_d1 hq21 hby.1 hq57),by show (_++[_]).length=_; rw [List.length_append,hi_k0.2.1]; rfl,fun j hl h=>(Nat.lt_succ_iff_lt_or_eq.1 h).elim (hi_k0.2.2 j hl) (fun e=>by subst e; exact hxo)⟩
  refine OpG.mk _ _ _ 4 (LOp.appRow row_i (a:=(((valW w k0.L c.aux[k0.k].of_).tdiv c.aux[k0.k].by_))) Tryz.underlying134 sz2 zr2 by2 rfl rfl rfl (Src.slB rfl rfl rfl rfl) rfl (by omega) (by omega) (by unfold TV; omega)) rfl rfl ?_
  refine ⟨by omega,?_⟩
  refine ⟨(⟨k0.k+1,k0.L++[(((valW w k0.L c.aux[k0.k].of_).tdiv c.aux[k0.k].by_))]⟩:KL Int),(by show c.aux.length - (k0.k+1) < c.aux.length - k0.k; omega),(cO (.cons rfl rfl (.cons (by (rw [List.length_append]; rfl)) rfl (.cons rfl rfl (.cons rfl rfl (.cons rfl rfl .nil))))) (.cons (by (rw [List.length_append]; rfl)) rfl (rF_low row_i _ _) .nil)),?_⟩
  refine ⟨by show k0.k+1≤_; omega,?_⟩
  refine ⟨by exact axs_nx hlt16 hi_k0.1 (ax_d0 hq21 hby.1 hq57),by show (_++[_]).length=_; rw [List.length_append,hi_k0.2.1]; rfl,fun j hl h=>(Nat.lt_succ_iff_lt_or_eq.1 h).elim (hi_k0.2.2 j hl) (fun e=>by subst e; exact hxo)⟩
 refine ⟨.inr rfl,_,Outs.two Tryz.results72 (OutR.tmp ⟨[1],FzP.rows row_i (List.mem_singleton.2 rfl) rfl⟩) (OutR.tmp ⟨[],FzP.pure rfl⟩),?_⟩
 have e:=hi_k0.1
 rw [List.take_of_length_le (by omega)] at e
 exact axT_yes (all_of (P:=fun x:PAux=>axO w x=true) hge16 hi_k0.2.2) e
end Go.Proofs.YtbhhmbchdponjaaGreatDoor
namespace Go.Proofs.YtbhhmbchdponjaaGreatDoor
set_option linter.unusedVariables false
set_option linter.unusedSectionVars false
set_option linter.unusedSimpArgs false
open Go.RowKit
theorem kb_next {l:Nat} {P:Prop} {H:Nat→Prop} {b nb:Bool} {k:Nat} (hi:b=true↔P∧∀ j,j < l→j < k→H j) (hb:b=true) (h:nb=true↔H k) (hk:k < l):nb=true↔P∧∀ j,j < l→j < k+1→H j:=by
 obtain ⟨h1,h2⟩:=hi.1 hb
 rw [h]
 exact ⟨fun g=>⟨h1,fun j hl hj=>(Nat.lt_succ_iff_lt_or_eq.1 hj).elim (h2 j hl) (fun e=>by subst e; exact g)⟩,fun g=>g.2 k hk (Nat.lt_succ_self _)⟩
theorem kb_end {α:Type} [Inhabited α] {L:List α} {P:Prop} {H:α→Prop} {b:Bool} {k:Nat} (hi:b=true↔P∧∀ j,j < L.length→j < k→H (L.getD j default)) (hk:¬ k < L.length∨b=false):b=true↔P∧∀ x∈L,H x:=by
 constructor
 ·intro hb
  obtain ⟨h1,h2⟩:=hi.1 hb
  refine ⟨h1,fun x hx=>?_⟩
  obtain ⟨j,hj,rfl⟩:=List.getElem_of_mem hx
  rcases hk with hk | hk
  ·have:=h2 j hj (by omega); rwa [getD_at hj] at this
  rw [hb] at hk; cases hk
 rintro ⟨h1,h2⟩
 exact hi.2 ⟨h1,fun j hj _=>by rw [getD_at hj]; exact h2 _ (List.getElem_mem hj)⟩
theorem kb_0 {α:Type} [Inhabited α] {L:List α} {P:Prop} {H:α→Prop} {b:Bool} (h:b=true↔P):b=true↔P∧∀ j,j < L.length→j < 0→H (L.getD j default):=by rw [h]; exact ⟨fun h=>⟨h,fun j _ h=>absurd h (Nat.not_lt_zero j)⟩,fun h=>h.1⟩
theorem aux_q {w:List GVal} {L:List PAux} {q:AV} (h:q=axT w L):∃ (A:List Int) (b:Bool),q=.tup [.tree 1 (A.map iA),.v (.bool b)]∧(b=true↔L.all (axO w)=true)∧(b=true→A=axsW w L)∧A.length≤L.length:=by
 refine ⟨_,_,h,Iff.rfl,fun h=>if_pos h,?_⟩
 split
 ·have h:=axsW_len w L L.length (Nat.le_refl _); rw [List.take_length] at h; omega
 exact Nat.zero_le _
theorem cmp_q {w:List GVal} {A:List Int} {f:PLin} {q:AV} (h:q=tup2 (okF w f) (valW w A f)):∃ (e:Int) (b:Bool),q=.tup [.v (.int .i64 e),.v (.bool b)]∧(b=true↔okF w f=true)∧(b=true→e=valW w A f):=⟨_,_,h,Iff.rfl,fun h=>if_pos h⟩
section
variable {w:List GVal} {A:List Int} {k:PCon} {e:Int} (he:e=valW w A k.l)
include he
theorem cq_y1 (h0:okF w k.l=true) (h:¬ e > 0) (h2:e=0):conG w A k:=by subst he; exact con_y1 h0 h h2
theorem cq_y0 (h0:okF w k.l=true) (h:¬ e > 0) (h2:k.eq=false):conG w A k:=by subst he; exact con_y0 h0 h h2
theorem cq_n1 (h:e > 0):¬ conG w A k:=by subst he; exact con_n1 h
theorem cq_n0 (h:¬ e=0) (h2:k.eq=true):¬ conG w A k:=by subst he; exact con_n0 h h2
end
theorem ff {P:Prop} (h:¬ P):false=true↔P:=⟨fun e=>absurd e Bool.false_ne_true,fun g=>absurd g h⟩
theorem tt {P:Prop} (h:P):true=true↔P:=⟨fun _=>h,fun _=>rfl⟩
theorem con_eq {w:List GVal} {A:List Int} {k:PCon} (h0:okF w k.l=true) (h1:valW w A k.l≤0) (h2:¬ valW w A k.l=0):(!k.eq)=true↔conG w A k:=by
 cases he:k.eq with
 | true=>exact ff fun g=>h2 (g.2.2 he)
 | false=>exact tt ⟨h0,h1,fun g=>by rw [he] at g; cases g⟩
theorem tes_iff {w:List GVal} {t:PTest} {j:Nat} (hv:t.v=((j:Nat):Int)) (hj:j < w.length) (hk:w[j].kind_=2):pasS t w[j].text_=true↔tesG w t:=by
 unfold tesG; rw [rF_nat hv hj]; exact ⟨fun h=>⟨hk,h⟩,fun h=>h.2⟩
theorem sam_iff {w:List GVal} {p:Int×Int} {i j:Nat} (h1:p.1=((i:Nat):Int)) (hi:i < w.length) (h2:p.2=((j:Nat):Int)) (hj:j < w.length) (hz:∀ x∈w,x.kind_=2→x.int_=0) (hk:w[i].kind_=2):(w[i].kind_==w[j].kind_&&(w[i].int_==w[j].int_&&w[i].text_.toList==w[j].text_.toList))=true↔samG w p:=by
 unfold samG; rw [rF_nat h1 hi,rF_nat h2 hj]
 simp only [Bool.and_eq_true,beq_iff_eq]
 constructor
 ·rintro ⟨a,b,c⟩; exact ⟨hk,by rw [← a]; exact hk,toList_inj c⟩
 rintro ⟨a,b,c⟩; exact ⟨by rw [a,b],by rw [hz _ (List.getElem_mem hi) a,hz _ (List.getElem_mem hj) b],by rw [c]⟩
theorem dif_iff {w:List GVal} {p:Int×Int} {i j:Nat} (h1:p.1=((i:Nat):Int)) (hi:i < w.length) (h2:p.2=((j:Nat):Int)) (hj:j < w.length) (k1:w[i].kind_=2) (k2:w[j].kind_=2):(!(w[i].text_.toList==w[j].text_.toList))=true↔difG w p:=by
 unfold difG; rw [rF_nat h1 hi,rF_nat h2 hj]
 constructor
 ·intro h; exact ⟨k1,k2,fun e=>by rw [e] at h; simp at h⟩
 rintro ⟨_,_,c⟩; simp only [Bool.not_eq_true',beq_eq_false_iff_ne]; exact fun e=>c (toList_inj e)
set_option maxRecDepth 100000 in
set_option maxHeartbeats 4000000 in
theorem passesG_p (t:PTest) (s:ByteArray) (hs:FitS s) (hts:FitS t.s) (hk:0≤t.kd∧t.kd≤3):PRet Tryz.prog 74 [.agg (teA t),.v (.string s)] (fun r=>r=.v (.bool (pasP t s))):=by
 refine ovT [] [] Tryz.func74 rfl rfl (cE (fun hq7=>?_) (fun hq7=>?_))
 exact rV Tryz.results74 rfl (congrArg (fun z=>AV.v (.bool z)) (pg_0 hq7))
 refine cE (fun hq13=>?_) (fun hq13=>?_)
 refine ArgG.mk (likeE_p s hs t.s hts) rfl ?_
 rintro _ rfl
 exact rV Tryz.results74 rfl (congrArg (fun z=>AV.v (.bool z)) (pg_1 hq13))
 refine cE (fun hq19=>?_) (fun hq19=>?_)
 ·exact rV Tryz.results74 rfl (congrArg (fun z=>AV.v (.bool z)) (pg_2 hq19))
 exact rV Tryz.results74 rfl (congrArg (fun z=>AV.v (.bool z)) (pg_3 (by omega)))
set_option maxRecDepth 100000 in
set_option maxHeartbeats 4000000 in
theorem holdsW_p (c:PCl) (w:List GVal) (hw:FitL w (fun y=>FitVal y)) (hc:RG c w.length):PRet Tryz.prog 33 [.agg (clA c),.tree 3 (w.map gvA)] (fun r=>∃ b:Bool,r=.v (.bool b)∧(b=true↔HW c w)):=by
 have hc1:=hc.l1
 have hc2:=hc.l2
 have hc3:=hc.l3
 have hc4:=hc.l4
 have hc5:=hc.l5
 have hc6:=hc.l6
 have hc7:=hc.l7
 refine ovT [30,44,97,106,123,125,131,133,140,142,146,148,162,164,170,172,179,181,185,187] [] Tryz.func33 rfl rfl ?_
 refine LenG.of (LpG.on (fun k0:Nat=>(⟨fL [(1,.tree 3 (w.map gvA)),(2,.ptr 0 0 0),(22,.tree 1 (c.nul.map iA)),(23,.v (.int .i64 ((c.nul.length:Nat):Int))),(24,.v (.int .i64 ((k0:Nat):Int)))],hLz [(0,⟨0,clA c,0,false⟩)],1⟩:St)) (fun k0=>(c.nul.length - k0)) (fun k0=>(k0≤c.nul.length∧∀ j (hl:j < c.nul.length),j < k0→nulH w c.nul[j])) 0 (cO (.cons rfl rfl (.cons rfl rfl (.cons rfl rfl (.cons rfl rfl (.cons rfl rfl .nil))))) (.cons rfl rfl rfl .nil)) ⟨Nat.zero_le _,fun j _ h=>absurd h (Nat.not_lt_zero j)⟩ ?_)
 rintro k0 hinv
 obtain ⟨hle_k0,hj_k0⟩:=hinv
 refine cL (fun hlt25=>?_) (fun hge25=>?_)
 ·obtain ⟨j1,hj1,hj1l⟩:∃ j:Nat,c.nul[k0]=((j:Nat):Int)∧j < w.length:=⟨(c.nul[k0]).toNat,by have:=hc.nul _ (List.getElem_mem hlt25); omega,by have:=hc.nul _ (List.getElem_mem hlt25); omega⟩
  refine IdxG.of (by assumption) (OpG.lk (LOp.indexI Tryz.underlying43 sz74 rfl rfl hj1 hj1l) ?_)
  refine cB (fun hc33=>?_) (fun hc33=>?_)
  ·have hq33:¬ ((w[j1].kind_:Int)=(0:Int)):=by simpa using hc33
   exact rV Tryz.results33 rfl (hf_n fun h=>nul_n hj1 hj1l hq33 (h.nul _ (List.getElem_mem hlt25)))
  have hq33:(w[j1].kind_:Int)=(0:Int):=by simpa using hc33
  refine ⟨by omega,?_⟩
  refine ⟨(k0+1),by omega,(cO (.cons rfl rfl (.cons rfl rfl (.cons rfl rfl (.cons rfl rfl (.cons rfl rfl .nil))))) (.cons rfl rfl rfl .nil)),?_⟩
  refine ⟨by omega,fun j hl h=>?_⟩
  rcases Nat.lt_succ_iff_lt_or_eq.1 h with h | rfl
  ·exact hj_k0 j hl h
  exact nul_y hj1 hj1l (by simpa using hc33)
 refine LenG.of (LpG.on (fun k2:Nat=>(⟨fL [(1,.tree 3 (w.map gvA)),(2,.ptr 0 0 0),(36,.tree 1 (c.nn.map iA)),(37,.v (.int .i64 ((c.nn.length:Nat):Int))),(38,.v (.int .i64 ((k2:Nat):Int)))],hLz [(0,⟨0,clA c,0,false⟩)],1⟩:St)) (fun k2=>(c.nn.length - k2)) (fun k2=>(k2≤c.nn.length∧∀ j (hl:j < c.nn.length),j < k2→nnH w c.nn[j])) 0 (cO (.cons rfl rfl (.cons rfl rfl (.cons rfl rfl (.cons rfl rfl (.cons rfl rfl .nil))))) (.cons rfl rfl rfl .nil)) ⟨Nat.zero_le _,fun j _ h=>absurd h (Nat.not_lt_zero j)⟩ ?_)
 rintro k2 hinv
 obtain ⟨hle_k2,hj_k2⟩:=hinv
 refine cL (fun hlt39=>?_) (fun hge39=>?_)
 ·obtain ⟨j1,hj1,hj1l⟩:∃ j:Nat,c.nn[k2]=((j:Nat):Int)∧j < w.length:=⟨(c.nn[k2]).toNat,by have:=hc.nn _ (List.getElem_mem hlt39); omega,by have:=hc.nn _ (List.getElem_mem hlt39); omega⟩
  refine IdxG.of (by assumption) (OpG.lk (LOp.indexI Tryz.underlying43 sz74 rfl rfl hj1 hj1l) ?_)
  refine cB (fun hc47=>?_) (fun hc47=>?_)
  ·have hq47:(w[j1].kind_:Int)=(0:Int):=by simpa using hc47
   exact rV Tryz.results33 rfl (hf_n fun h=>nn_n hj1 hj1l hq47 (h.nn _ (List.getElem_mem hlt39)))
  have hq47:¬ ((w[j1].kind_:Int)=(0:Int)):=by simpa using hc47
  refine ⟨by omega,?_⟩
  refine ⟨(k2+1),by omega,(cO (.cons rfl rfl (.cons rfl rfl (.cons rfl rfl (.cons rfl rfl (.cons rfl rfl .nil))))) (.cons rfl rfl rfl .nil)),?_⟩
  refine ⟨by omega,fun j hl h=>?_⟩
  rcases Nat.lt_succ_iff_lt_or_eq.1 h with h | rfl
  ·exact hj_k2 j hl h
  exact nn_y hj1 hj1l (by simpa using hc47)
 have hnn:=all_of hge39 hj_k2
 refine ArgG.mk ((auxiliaryW_p c w hw hc3 hc.ax).mono (fun _ h=>aux_q h)) rfl ?_
 rintro _ ⟨A0,b0,rfl,hb0,hA0,hL0⟩
 refine cB (fun hc56=>?_) (fun hc56=>?_)
 ·have hxn:¬ c.aux.all (axO w)=true:=fun h=>by rw [hb0.2 h] at hc56; cases hc56
  exact rV Tryz.results33 rfl (hf_n fun h=>hxn h.ax)
 have hx0:b0=true:=nb hc56
 have hxa:=hb0.1 hx0
 have hA:=hA0 hx0
 have hxl:A0.length=c.aux.length:=by rw [hA]; have h:=axsW_len w c.aux c.aux.length (Nat.le_refl _); rwa [List.take_length] at h
 refine LenG.of (LpG.on (fun k4:Nat=>(⟨fL [(1,.tree 3 (w.map gvA)),(2,.ptr 0 0 0),(9,.tree 1 (A0.map iA)),(58,.tree 3 (c.ints.map cnA)),(59,.v (.int .i64 ((c.ints.length:Nat):Int))),(60,.v (.int .i64 ((k4:Nat):Int)))],hLz [(0,⟨0,clA c,0,false⟩)],1⟩:St)) (fun k4=>(c.ints.length - k4)) (fun k4=>(k4≤c.ints.length∧∀ j (hl:j < c.ints.length),j < k4→conG w A0 c.ints[j])) 0 (cO (.cons rfl rfl (.cons rfl rfl (.cons rfl rfl (.cons rfl rfl (.cons rfl rfl (.cons rfl rfl .nil)))))) (.cons rfl rfl rfl .nil)) ⟨Nat.zero_le _,fun j _ h=>absurd h (Nat.not_lt_zero j)⟩ ?_)
 rintro k4 hinv
 obtain ⟨hle_k4,hj_k4⟩:=hinv
 refine cL (fun hlt61=>?_) (fun hge61=>?_)
 ·have hcf:RgF w.length A0.length c.ints[k4].l:=by rw [hxl]; exact hc.it _ (List.getElem_mem hlt61)
  refine IdxG.of (by assumption) (ArgG.mk ((computeW_p c.ints[k4].l w hw A0 ⟨by rw [hxl]; omega,fun _ _=>trivial⟩ hcf).mono (fun _ h=>cmp_q h)) rfl ?_)
  rintro _ ⟨e1,b1,rfl,hb1,he1⟩
  refine cB (fun hg74=>?_) (fun hg74=>?_)
  ·have hkn:¬ conG w A0 c.ints[k4]:=fun h=>by rw [hb1.2 h.1] at hg74; cases hg74
   refine cT (cT ?_)
   exact rV Tryz.results33 rfl (hf_n fun h=>hkn (by rw [hA]; exact h.ints _ (List.getElem_mem hlt61)))
  have hk1:b1=true:=nb hg74
  have hko:=hb1.1 hk1
  have hev:=he1 hk1
  refine cD (fun hq78=>?_) (fun hq78=>?_)
  ·exact cT (rV Tryz.results33 rfl (hf_n fun h=>cq_n1 hev hq78 (by rw [hA]; exact h.ints _ (List.getElem_mem hlt61))))
  refine cB (fun hg81=>?_) (fun hg81=>?_)
  ·refine cN (fun hq85=>?_) (fun hq85=>?_)
   ·exact rV Tryz.results33 rfl (hf_n fun h=>cq_n0 hev hq85 hg81 (by rw [hA]; exact h.ints _ (List.getElem_mem hlt61)))
   refine ⟨by omega,?_⟩
   refine ⟨(k4+1),by omega,(cO (.cons rfl rfl (.cons rfl rfl (.cons rfl rfl (.cons rfl rfl (.cons rfl rfl (.cons rfl rfl .nil)))))) (.cons rfl rfl rfl .nil)),?_⟩
   refine ⟨by omega,fun j hl h=>?_⟩
   rcases Nat.lt_succ_iff_lt_or_eq.1 h with h | rfl
   ·exact hj_k4 j hl h
   exact cq_y1 hev hko hq78 hq85
  refine cF ⟨by omega,⟨(k4+1),by omega,(cO (.cons rfl rfl (.cons rfl rfl (.cons rfl rfl (.cons rfl rfl (.cons rfl rfl (.cons rfl rfl .nil)))))) (.cons rfl rfl rfl .nil)),?_⟩⟩
  refine ⟨by omega,fun j hl h=>?_⟩
  rcases Nat.lt_succ_iff_lt_or_eq.1 h with h | rfl
  ·exact hj_k4 j hl h
  exact cq_y0 hev hko hq78 hg81
 refine LenG.of (LpG.on (fun k6:Nat=>(⟨fL [(1,.tree 3 (w.map gvA)),(2,.ptr 0 0 0),(88,.tree 4 (c.tests.map teA)),(89,.v (.int .i64 ((c.tests.length:Nat):Int))),(90,.v (.int .i64 ((k6:Nat):Int)))],hLz [(0,⟨0,clA c,0,false⟩)],1⟩:St)) (fun k6=>(c.tests.length - k6)) (fun k6=>(k6≤c.tests.length∧∀ j (hl:j < c.tests.length),j < k6→tesG w c.tests[j])) 0 (cO (.cons rfl rfl (.cons rfl rfl (.cons rfl rfl (.cons rfl rfl (.cons rfl rfl .nil))))) (.cons rfl rfl rfl .nil)) ⟨Nat.zero_le _,fun j _ h=>absurd h (Nat.not_lt_zero j)⟩ ?_)
 rintro k6 hinv
 obtain ⟨hle_k6,hj_k6⟩:=hinv
 refine cL (fun hlt91=>?_) (fun hge91=>?_)
 ·obtain ⟨htv,htk,hts⟩:=hc.ts _ (List.getElem_mem hlt91)
  obtain ⟨j1,hj1,hj1l⟩:∃ j:Nat,c.tests[k6].v=((j:Nat):Int)∧j < w.length:=⟨(c.tests[k6].v).toNat,by have:=htv; omega,by have:=htv; omega⟩
  refine IdxG.of (by assumption) (OpG.lk (LOp.indexI Tryz.underlying43 sz74 rfl rfl hj1 hj1l) ?_)
  refine cN (fun hq101=>?_) (fun hq101=>?_)
  ·refine ⟨by kernel_rfl,?_⟩
   exact cT (rV Tryz.results33 rfl (hf_n fun h=>tes_k hj1 hj1l hq101 (h.tests _ (List.getElem_mem hlt91))))
  refine OpG.lk (LOp.indexI Tryz.underlying43 sz74 rfl rfl hj1 hj1l) ?_
  refine ArgG.mk (passesG_p c.tests[k6] w[j1].text_ (hw.2 _ (List.getElem_mem hj1l)).text_ hts htk) rfl ?_
  rintro _ rfl
  refine ⟨by kernel_rfl,?_⟩
  refine cB (fun hc113=>?_) (fun hc113=>?_)
  ·exact rV Tryz.results33 rfl (hf_n fun h=>tes_n hj1 hj1l hc113 (h.tests _ (List.getElem_mem hlt91)))
  refine ⟨by omega,?_⟩
  refine ⟨(k6+1),by omega,(cO (.cons rfl rfl (.cons rfl rfl (.cons rfl rfl (.cons rfl rfl (.cons rfl rfl .nil))))) (.cons rfl rfl rfl .nil)),?_⟩
  refine ⟨by omega,fun j hl h=>?_⟩
  rcases Nat.lt_succ_iff_lt_or_eq.1 h with h | rfl
  ·exact hj_k6 j hl h
  exact tes_y hj1 hj1l hq101 hc113
 refine LenG.of (LpG.on (fun k8:Nat=>(⟨fL [(1,.tree 3 (w.map gvA)),(2,.ptr 0 0 0),(116,.tree 2 (c.same.map paA)),(117,.v (.int .i64 ((c.same.length:Nat):Int))),(118,.v (.int .i64 ((k8:Nat):Int)))],hLz [(0,⟨0,clA c,0,false⟩)],1⟩:St)) (fun k8=>(c.same.length - k8)) (fun k8=>(k8≤c.same.length∧∀ j (hl:j < c.same.length),j < k8→samG w c.same[j])) 0 (cO (.cons rfl rfl (.cons rfl rfl (.cons rfl rfl (.cons rfl rfl (.cons rfl rfl .nil))))) (.cons rfl rfl rfl .nil)) ⟨Nat.zero_le _,fun j _ h=>absurd h (Nat.not_lt_zero j)⟩ ?_)
 rintro k8 hinv
 obtain ⟨hle_k8,hj_k8⟩:=hinv
 refine cL (fun hlt119=>?_) (fun hge119=>?_)
 ·have hpr1:=(hc.sm _ (List.getElem_mem hlt119)).1
  have hpr2:=(hc.sm _ (List.getElem_mem hlt119)).2
  obtain ⟨j1,hj1,hj1l⟩:∃ j:Nat,c.same[k8].1=((j:Nat):Int)∧j < w.length:=⟨(c.same[k8].1).toNat,by have:=hpr1; omega,by have:=hpr1; omega⟩
  obtain ⟨j2,hj2,hj2l⟩:∃ j:Nat,c.same[k8].2=((j:Nat):Int)∧j < w.length:=⟨(c.same[k8].2).toNat,by have:=hpr2; omega,by have:=hpr2; omega⟩
  refine IdxG.of (by assumption) (OpG.lk (LOp.indexArrS Tryz.underlying62 sz3 rfl rfl rfl rfl rfl rfl) ?_)
  refine OpG.lk (LOp.indexI Tryz.underlying43 sz74 rfl rfl hj1 hj1l) ?_
  refine cN (fun hq129=>?_) (fun hq129=>?_)
  ·refine cT ⟨by kernel_rfl,cT ?_⟩
   exact rV Tryz.results33 rfl (hf_n fun h=>sam_k1 hj1 hj1l hj2 hj2l hq129 (h.same _ (List.getElem_mem hlt119)))
  refine OpG.lk (LOp.indexArrS Tryz.underlying62 sz3 rfl rfl rfl rfl rfl rfl) ?_
  refine OpG.lk (LOp.indexI Tryz.underlying43 sz74 rfl rfl hj2 hj2l) ?_
  refine cN (fun hq138=>?_) (fun hq138=>?_)
  ·refine ⟨by kernel_rfl,?_⟩
   exact cT (rV Tryz.results33 rfl (hf_n fun h=>sam_k2 hj1 hj1l hj2 hj2l hq138 (h.same _ (List.getElem_mem hlt119))))
  refine OpG.lk (LOp.indexArrS Tryz.underlying62 sz3 rfl rfl rfl rfl rfl rfl) ?_
  refine OpG.lk (LOp.indexI Tryz.underlying43 sz74 rfl rfl hj1 hj1l) ?_
  refine OpG.lk (LOp.indexArrS Tryz.underlying62 sz3 rfl rfl rfl rfl rfl rfl) ?_
  refine OpG.lk (LOp.indexI Tryz.underlying43 sz74 rfl rfl hj2 hj2l) ?_
  refine ⟨by kernel_rfl,?_⟩
  refine cB (fun hc152=>?_) (fun hc152=>?_)
  ·exact rV Tryz.results33 rfl (hf_n fun h=>sam_n hj1 hj1l hj2 hj2l hc152 (h.same _ (List.getElem_mem hlt119)))
  refine ⟨by omega,?_⟩
  refine ⟨(k8+1),by omega,(cO (.cons rfl rfl (.cons rfl rfl (.cons rfl rfl (.cons rfl rfl (.cons rfl rfl .nil))))) (.cons rfl rfl rfl .nil)),?_⟩
  refine ⟨by omega,fun j hl h=>?_⟩
  rcases Nat.lt_succ_iff_lt_or_eq.1 h with h | rfl
  ·exact hj_k8 j hl h
  exact sam_y hj1 hj1l hj2 hj2l hq129 hq138 hc152
 refine LenG.of (LpG.on (fun k10:Nat=>(⟨fL [(1,.tree 3 (w.map gvA)),(155,.tree 2 (c.diff.map paA)),(156,.v (.int .i64 ((c.diff.length:Nat):Int))),(157,.v (.int .i64 ((k10:Nat):Int)))],hLz [],1⟩:St)) (fun k10=>(c.diff.length - k10)) (fun k10=>(k10≤c.diff.length∧∀ j (hl:j < c.diff.length),j < k10→difG w c.diff[j])) 0 (cO (.cons rfl rfl (.cons rfl rfl (.cons rfl rfl (.cons rfl rfl .nil)))) .nil) ⟨Nat.zero_le _,fun j _ h=>absurd h (Nat.not_lt_zero j)⟩ ?_)
 rintro k10 hinv
 obtain ⟨hle_k10,hj_k10⟩:=hinv
 refine cL (fun hlt158=>?_) (fun hge158=>?_)
 ·have hpr1:=(hc.df _ (List.getElem_mem hlt158)).1
  have hpr2:=(hc.df _ (List.getElem_mem hlt158)).2
  obtain ⟨j1,hj1,hj1l⟩:∃ j:Nat,c.diff[k10].1=((j:Nat):Int)∧j < w.length:=⟨(c.diff[k10].1).toNat,by have:=hpr1; omega,by have:=hpr1; omega⟩
  obtain ⟨j2,hj2,hj2l⟩:∃ j:Nat,c.diff[k10].2=((j:Nat):Int)∧j < w.length:=⟨(c.diff[k10].2).toNat,by have:=hpr2; omega,by have:=hpr2; omega⟩
  refine IdxG.of (by assumption) (OpG.lk (LOp.indexArrS Tryz.underlying62 sz3 rfl rfl rfl rfl rfl rfl) ?_)
  refine OpG.lk (LOp.indexI Tryz.underlying43 sz74 rfl rfl hj1 hj1l) ?_
  refine cN (fun hq168=>?_) (fun hq168=>?_)
  ·refine cT ⟨by kernel_rfl,cT ?_⟩
   exact rV Tryz.results33 rfl (hf_n fun h=>dif_k1 hj1 hj1l hj2 hj2l hq168 (h.diff _ (List.getElem_mem hlt158)))
  refine OpG.lk (LOp.indexArrS Tryz.underlying62 sz3 rfl rfl rfl rfl rfl rfl) ?_
  refine OpG.lk (LOp.indexI Tryz.underlying43 sz74 rfl rfl hj2 hj2l) ?_
  refine cN (fun hq177=>?_) (fun hq177=>?_)
  ·refine ⟨by kernel_rfl,?_⟩
   exact cT (rV Tryz.results33 rfl (hf_n fun h=>dif_k2 hj1 hj1l hj2 hj2l hq177 (h.diff _ (List.getElem_mem hlt158))))
  refine OpG.lk (LOp.indexArrS Tryz.underlying62 sz3 rfl rfl rfl rfl rfl rfl) ?_
  refine OpG.lk (LOp.indexI Tryz.underlying43 sz74 rfl rfl hj1 hj1l) ?_
  refine OpG.lk (LOp.indexArrS Tryz.underlying62 sz3 rfl rfl rfl rfl rfl rfl) ?_
  refine OpG.lk (LOp.indexI Tryz.underlying43 sz74 rfl rfl hj2 hj2l) ?_
  refine ⟨by kernel_rfl,?_⟩
  refine cB (fun hc191=>?_) (fun hc191=>?_)
  ·exact rV Tryz.results33 rfl (hf_n fun h=>dif_n hj1 hj1l hj2 hj2l hc191 (h.diff _ (List.getElem_mem hlt158)))
  refine ⟨by omega,?_⟩
  refine ⟨(k10+1),by omega,(cO (.cons rfl rfl (.cons rfl rfl (.cons rfl rfl (.cons rfl rfl .nil)))) .nil),?_⟩
  refine ⟨by omega,fun j hl h=>?_⟩
  rcases Nat.lt_succ_iff_lt_or_eq.1 h with h | rfl
  ·exact hj_k10 j hl h
  exact dif_y hj1 hj1l hj2 hj2l hq168 hq177 hc191
 exact rV Tryz.results33 rfl ⟨true,rfl,fun _=>⟨all_of hge25 hj_k0,hnn,hxa,by rw [← hA]; exact all_of hge61 hj_k4,all_of hge91 hj_k6,all_of hge119 hj_k8,all_of hge158 hj_k10⟩,fun _=>rfl⟩
end Go.Proofs.YtbhhmbchdponjaaGreatDoor
namespace Go.Proofs.YtbhhmbchdponjaaGreatDoor
set_option linter.unusedVariables false
set_option linter.unusedSectionVars false
set_option linter.unusedSimpArgs false
open Go.RowKit
theorem fl_hi {a b:Int} (hb:1≤b) (h:a.tdiv b * b > a):a.tdiv b - 1=a.fdiv b:=by have e:=tdiv_fdiv (a:=a) hb; rwa [if_pos h] at e
theorem fl_lo {a b:Int} (hb:1≤b) (h:¬ a.tdiv b * b > a):a.tdiv b=a.fdiv b:=by have e:=tdiv_fdiv (a:=a) hb; rwa [if_neg h] at e
theorem fl_rng {a b:Int} (ha:-9223372036854775808≤a∧a≤9223372036854775807) (hb:1≤b) (h:a.tdiv b * b > a):-9223372036854775808≤a.tdiv b - 1:=by
 refine (td_rng ha hb).2.1 ?_
 have h1:=Int.tmod_add_mul_tdiv a b
 have h4:b * a.tdiv b=a.tdiv b * b:=Int.mul_comm _ _
 omega
theorem ax_d {w:List GVal} {A:List Int} {x:PAux} (h:¬ x.by_=0):(valW w A x.of_).fdiv x.by_=axW w A x:=by unfold axW; rw [if_neg h]
theorem bod61:bodied Tryz.prog 61=true:=by kernel_rfl
set_option maxRecDepth 100000 in
set_option maxHeartbeats 4000000 in
theorem floorW_p (a:Int) (b:Int) (ha:-9223372036854775808≤a∧a≤9223372036854775807) (hb:1≤b):PRet Tryz.prog 98 [.v (.int .i64 a),.v (.int .i64 b)] (fun r=>r=.v (.int .i64 (a.fdiv b))):=by
 have htr:=td_rng ha hb
 refine ovT [8,11,15] [] Tryz.func98 rfl rfl (OpG.lk (LOp.quoT rfl rfl (by omega) (by omega) (by omega)) ?_)
 refine OpG.lk (LOp.mulI rfl rfl (by omega) (by omega)) (cD (fun hq13=>?_) (fun hq13=>?_))
 ·have hfr:=fl_rng ha hb hq13
  exact OpG.lk (LOp.subI rfl rfl (by omega) (by omega)) (rV Tryz.results98 rfl (congrArg (fun z=>AV.v (.int .i64 z)) (fl_hi hb hq13)))
 exact rV Tryz.results98 rfl (congrArg (fun z=>AV.v (.int .i64 z)) (fl_lo hb hq13))
set_option maxRecDepth 100000 in
set_option maxHeartbeats 4000000 in
theorem value17_p (f:PLin) (w:List GVal) (hw:FitL w (fun y=>FitVal y)) (m:List Int) (hm:FitL m (fun y=>True)) (hcf:RgF w.length m.length f):PRet Tryz.prog 61 [.agg (liA f),.tree 3 (w.map gvA),.tree 1 (m.map iA)] (fun r=>r=tup2 (okF w f) (valW w m f)):=by
 have hfl:=hcf.len
 refine ovT [36,40,46,57,58] [] Tryz.func61 rfl rfl ?_
 refine LpG.on (fun k0:KE=>(⟨fL [(1,.tree 3 (w.map gvA)),(2,.tree 1 (m.map iA)),(3,.ptr 0 0 0),(8,.v (.int .i64 k0.e)),(9,.v (.int .i64 ((k0.k:Nat):Int)))],hLz [(0,⟨0,liA f,0,false⟩)],1⟩:St)) (fun k0=>(f.cs.length - k0.k)) (fun k0=>(k0.k≤f.cs.length∧(k0.e=sumW w m (f.cs.take k0.k) f.k∧∀ j (hl:j < f.cs.length),j < k0.k→vOk w f.cs[j].v=true))) (⟨0,f.k⟩:KE) (cO (.cons rfl rfl (.cons rfl rfl (.cons rfl rfl (.cons rfl rfl (.cons rfl rfl .nil))))) (.cons rfl rfl rfl .nil)) ⟨Nat.zero_le _,⟨rfl,fun j _ h=>absurd h (Nat.not_lt_zero j)⟩⟩ ?_
 rintro k0 hinv
 obtain ⟨hle_k0,hi_k0⟩:=hinv
 refine LenG.of (cL (fun hlt18=>?_) (fun hge18=>?_))
 ·have hrg:=hcf.rng _ (List.getElem_mem hlt18)
  refine IdxG.of (by assumption) (LenG.of ?_)
  refine cD (fun hq30=>?_) (fun hq30=>?_)
  ·obtain ⟨j,hj,hjl⟩:∃ j:Nat,f.cs[k0.k].v - ((w.length:Nat):Int)=((j:Nat):Int)∧j < m.length:=⟨(f.cs[k0.k].v - ((w.length:Nat):Int)).toNat,by omega,by omega⟩
   have hvo:vOk w f.cs[k0.k].v=true:=vo_ge hq30
   have hvv:vvR w m f.cs[k0.k].v=m[j]:=vv_ax hj hjl
   refine LenG.of ⟨by omega,OpG.lk (LOp.indexI Tryz.underlying134 sz2 rfl rfl hj hjl) ?_⟩
   refine IdxG.of (by assumption) (OpG.lk (LOp.mulW rfl rfl) ?_)
   refine OpG.lk (LOp.addW rfl rfl) ?_
   refine ⟨by omega,?_⟩
   refine ⟨(⟨k0.k+1,w64 (k0.e+w64 (f.cs[k0.k].n * m[j]))⟩:KE),(by show f.cs.length - (k0.k+1) < f.cs.length - k0.k; omega),(cO (.cons rfl rfl (.cons rfl rfl (.cons rfl rfl (.cons rfl rfl (.cons rfl rfl .nil))))) (.cons rfl rfl rfl .nil)),?_⟩
   refine ⟨by show k0.k+1≤_; omega,?_⟩
   refine ⟨?_,fun j hl h=>(Nat.lt_succ_iff_lt_or_eq.1 h).elim (hi_k0.2 j hl) (fun e=>by subst e; exact hvo)⟩
   show w64 (k0.e+w64 (_ * _))=_
   rw [← hvv]; exact sw_nx hlt18 hi_k0.1
  obtain ⟨j,hj,hjl⟩:∃ j:Nat,f.cs[k0.k].v=((j:Nat):Int)∧j < w.length:=⟨(f.cs[k0.k].v).toNat,by omega,by omega⟩
  have hvv:vvR w m f.cs[k0.k].v=w[j].int_:=vv_in hj hjl
  refine OpG.lk (LOp.indexI Tryz.underlying43 sz74 rfl rfl hj hjl) ?_
  refine cN (fun hq43=>?_) (fun hq43=>?_)
  ·have hvo:vOk w f.cs[k0.k].v=false:=by rw [vo_in hj hjl,beq_eq_false_iff_ne]; exact hq43
   refine ⟨.inr rfl,_,Outs.two Tryz.results61 (OutR.tmp ⟨[],FzP.pure rfl⟩) (OutR.tmp ⟨[],FzP.pure rfl⟩),?_⟩
   rw [okF_no hlt18 hvo]; rfl
  have hvo:vOk w f.cs[k0.k].v=true:=by rw [vo_in hj hjl,beq_iff_eq]; exact hq43
  refine OpG.lk (LOp.indexI Tryz.underlying43 sz74 rfl rfl hj hjl) ?_
  refine IdxG.of (by assumption) (OpG.lk (LOp.mulW rfl rfl) ?_)
  refine OpG.lk (LOp.addW rfl rfl) ?_
  refine ⟨by omega,?_⟩
  refine ⟨(⟨k0.k+1,w64 (k0.e+w64 (f.cs[k0.k].n * w[j].int_))⟩:KE),(by show f.cs.length - (k0.k+1) < f.cs.length - k0.k; omega),(cO (.cons rfl rfl (.cons rfl rfl (.cons rfl rfl (.cons rfl rfl (.cons rfl rfl .nil))))) (.cons rfl rfl rfl .nil)),?_⟩
  refine ⟨by show k0.k+1≤_; omega,?_⟩
  refine ⟨?_,fun j hl h=>(Nat.lt_succ_iff_lt_or_eq.1 h).elim (hi_k0.2 j hl) (fun e=>by subst e; exact hvo)⟩
  show w64 (k0.e+w64 (_ * _))=_
  rw [← hvv]; exact sw_nx hlt18 hi_k0.1
 refine ⟨.inr rfl,_,Outs.two Tryz.results61 (OutR.tmp ⟨[],FzP.pure rfl⟩) (OutR.tmp ⟨[],FzP.pure rfl⟩),?_⟩
 have e:=hi_k0.1
 rw [List.take_of_length_le (by omega)] at e
 rw [okF_yes (all_of (P:=fun c:PCoef=>vOk w c.v=true) hge18 hi_k0.2),e]; rfl
set_option maxRecDepth 100000 in
set_option maxHeartbeats 4000000 in
theorem auxiliary17_p (c:PCl) (w:List GVal) (hw:FitL w (fun y=>FitVal y)) (hal:c.aux.length≤1000000000) (hax:∀ k (h:k < c.aux.length),RgA w.length k c.aux[k]):PRet Tryz.prog 60 [.agg (clA c),.tree 3 (w.map gvA)] (fun r=>r=axT w c.aux):=by
 refine ovT [29,37,48] [] Tryz.func60 rfl rfl ?_
 refine LpG.via (fun _ h=>AWP.lazyT 6 1 rfl 2 rfl h) ?_
 refine LpG.on (fun k0:KL Int=>(⟨fL [(1,.tree 3 (w.map gvA)),(2,.ptr 0 0 0),(6,.sl 1 k0.L.length 0 k0.L.length),(7,.v (.int .i64 ((k0.k:Nat):Int)))],hLz [(0,⟨0,clA c,0,false⟩),(1,⟨k0.L.length,rF iA k0.L,1,Nat.beq k0.L.length 0⟩)],2⟩:St)) (fun k0=>(c.aux.length - k0.k)) (fun k0=>(k0.k≤c.aux.length∧(k0.L=axsW w (c.aux.take k0.k)∧k0.L.length=k0.k∧∀ j (hl:j < c.aux.length),j < k0.k→axO w c.aux[j]=true))) (⟨0,[]⟩:KL Int) (cO (.cons rfl rfl (.cons rfl rfl (.cons (by rfl) rfl (.cons rfl rfl .nil)))) (.cons rfl rfl rfl (.cons (by rfl) rfl (rF_low row_i _ _) .nil))) ⟨Nat.zero_le _,⟨rfl,rfl,fun j _ h=>absurd h (Nat.not_lt_zero j)⟩⟩ ?_
 rintro k0 hinv
 obtain ⟨hle_k0,hi_k0⟩:=hinv
 refine LenG.of (cL (fun hlt15=>?_) (fun hge15=>?_))
 ·have hll:=hi_k0.2.1
  have hxf:=hax _ hlt15
  refine IdxG.of (by assumption) (cE (fun hq25=>?_) (fun hq25=>?_))
  ·obtain ⟨j1,hj1,hj1l⟩:∃ j:Nat,c.aux[k0.k].tx=((j:Nat):Int)∧j < w.length:=⟨(c.aux[k0.k].tx).toNat,by have:=hxf.t hq25; omega,by have:=hxf.t hq25; omega⟩
   refine OpG.lk (LOp.indexI Tryz.underlying43 sz74 rfl rfl hj1 hj1l) ?_
   refine cN (fun hq32=>?_) (fun hq32=>?_)
   ·have hxo:axO w c.aux[k0.k]=false:=by rw [axO_t hq25 hj1 hj1l,beq_eq_false_iff_ne]; exact hq32
    refine ⟨.inr rfl,_,Outs.two Tryz.results60 (OutR.tmp (ret:=.tree 1 []) ⟨[],FzP.nil⟩) (OutR.tmp ⟨[],FzP.pure rfl⟩),?_⟩
    exact axT_no hlt15 hxo
   have hxo:axO w c.aux[k0.k]=true:=by rw [axO_t hq25 hj1 hj1l,beq_iff_eq]; exact hq32
   refine OpG.lk (LOp.indexI Tryz.underlying43 sz74 rfl rfl hj1 hj1l) ?_
   refine OpG.mk _ _ _ 4 (LOp.appRow row_i (a:=((w[j1].text_.size:Nat):Int)) Tryz.underlying134 sz2 zr2 by2 rfl rfl rfl (Src.slB rfl rfl rfl rfl) rfl (by omega) (by omega) (by unfold TV; omega)) rfl rfl ?_
   refine ⟨by omega,?_⟩
   refine ⟨(⟨k0.k+1,k0.L++[((w[j1].text_.size:Nat):Int)]⟩:KL Int),(by show c.aux.length - (k0.k+1) < c.aux.length - k0.k; omega),(cO (.cons rfl rfl (.cons rfl rfl (.cons (by (rw [List.length_append]; rfl)) rfl (.cons rfl rfl .nil)))) (.cons rfl rfl rfl (.cons (by (rw [List.length_append]; rfl)) rfl (rF_low row_i _ _) .nil))),?_⟩
   refine ⟨by show k0.k+1≤_; omega,?_⟩
   refine ⟨by exact axs_nx hlt15 hi_k0.1 (ax_t hq25 hj1 hj1l),by show (_++[_]).length=_; rw [List.length_append,hi_k0.2.1]; rfl,fun j hl h=>(Nat.lt_succ_iff_lt_or_eq.1 h).elim (hi_k0.2.2 j hl) (fun e=>by subst e; exact hxo)⟩
  obtain ⟨hby,hcf⟩:=hxf.d hq25
  have hcl:=hcf.len
  have hcf:RgF w.length k0.L.length c.aux[k0.k].of_:=by rw [hll]; exact hcf
  have hvr:=valW_rng (w:=w) (A:=k0.L) hcf
  obtain ⟨_,⟨e0,b0,rfl,hb0,he0⟩,hcl0⟩:=(value17_p c.aux[k0.k].of_ w hw k0.L ⟨by omega,fun _ _=>trivial⟩ hcf).mono (fun _ h=>cmp_q h)
  refine OpG.lk (LOp.callB2 [1] bod61 rfl (fun i h h'=>match i,h with | 0,_=>FzP.pure rfl | 1,_=>FzP.pure rfl | 2,_=>FzP.rows row_i (List.mem_singleton.2 rfl) rfl) hcl0) ?_
  refine cB (fun hc52=>?_) (fun hc52=>?_)
  ·have hxo:axO w c.aux[k0.k]=false:=by rw [axO_d hq25]; exact Bool.eq_false_iff.2 fun h=>by rw [hb0.2 h] at hc52; cases hc52
   refine ⟨.inr rfl,_,Outs.two Tryz.results60 (OutR.tmp (ret:=.tree 1 []) ⟨[],FzP.nil⟩) (OutR.tmp ⟨[],FzP.pure rfl⟩),?_⟩
   exact axT_no hlt15 hxo
  have hbt:b0=true:=nb hc52
  have hxo:axO w c.aux[k0.k]=true:=by rw [axO_d hq25]; exact hb0.1 hbt
  have hev:=he0 hbt
  refine ArgG.mk (floorW_p e0 c.aux[k0.k].by_ (by rw [hev]; exact hvr) hby.1) rfl ?_
  rintro _ rfl
  refine OpG.mk _ _ _ 4 (LOp.appRow row_i (a:=(((e0).fdiv c.aux[k0.k].by_))) Tryz.underlying134 sz2 zr2 by2 rfl rfl rfl (Src.slB rfl rfl rfl rfl) rfl (by omega) (by omega) (by unfold TV; omega)) rfl rfl ?_
  refine ⟨by omega,?_⟩
  refine ⟨(⟨k0.k+1,k0.L++[(((e0).fdiv c.aux[k0.k].by_))]⟩:KL Int),(by show c.aux.length - (k0.k+1) < c.aux.length - k0.k; omega),(cO (.cons rfl rfl (.cons rfl rfl (.cons (by (rw [List.length_append]; rfl)) rfl (.cons rfl rfl .nil)))) (.cons rfl rfl rfl (.cons (by (rw [List.length_append]; rfl)) rfl (rF_low row_i _ _) .nil))),?_⟩
  refine ⟨by show k0.k+1≤_; omega,?_⟩
  refine ⟨by exact axs_nx hlt15 hi_k0.1 (by rw [hev]; exact ax_d hq25),by show (_++[_]).length=_; rw [List.length_append,hi_k0.2.1]; rfl,fun j hl h=>(Nat.lt_succ_iff_lt_or_eq.1 h).elim (hi_k0.2.2 j hl) (fun e=>by subst e; exact hxo)⟩
 refine ⟨.inr rfl,_,Outs.two Tryz.results60 (OutR.tmp ⟨[1],FzP.rows row_i (List.mem_singleton.2 rfl) rfl⟩) (OutR.tmp ⟨[],FzP.pure rfl⟩),?_⟩
 have e:=hi_k0.1
 rw [List.take_of_length_le (by omega)] at e
 exact axT_yes (all_of (P:=fun x:PAux=>axO w x=true) hge15 hi_k0.2.2) e
end Go.Proofs.YtbhhmbchdponjaaGreatDoor
