/- Texts of the claim. -/
import Derived.Test.YtbhhmbchdponjaaGreatDoorF1
import Derived.Test.YtbhhmbchdponjaaGreatDoorQ2
import Derived.Test.YtbhhmbchdponjaaGreatDoorInf
namespace Go.Proofs.YtbhhmbchdponjaaGreatDoor
set_option linter.unusedVariables false
set_option linter.unusedSimpArgs false
open Go.RowKit
def lkNext (s:ByteArray) (c:Nat) (prev:Nat→Bool):Nat→Bool
 | 0=>c==37&&prev 0
 | i+1=>if c=37 then prev (i+1)||lkNext s c prev i else prev i&&(c==95||c==(bAt s i).toNat)
def lk (s p:ByteArray):Nat→Nat→Bool
 | 0=>fun i=>i==0
 | k+1=>lkNext s (bAt p k).toNat (lk s p k)
def likeS (s p:ByteArray):Bool:=lk s p p.size s.size
def lessS (a b:ByteArray):Bool:=Op.bytesLess a.toList b.toList
def ordI (a b:Int):Int:=if a < b then -1 else if b < a then 1 else 0
def ordT (a b:ByteArray):Int:=if lessS a b=true then -1 else if lessS b a=true then 1 else 0
section
variable {P:Program} {τ:Nat→AV} {η:Heap} {d:Option Tmp} {ty:TypeId} {pos:String} {af:Array Edge} {g:Option (Nat×Bool)}
theorem LOp.sliceStrL {t:Nat} {x i:Operand} {s:ByteArray} {m:Int} (hu:P.underlying t=some .string) (hx:aev τ x=.v (.string s)) (hi:aev τ i=.v (.int .i64 m)) (h0:0≤m) (h1:m≤s.size) :
 LOp P ⟨d,.slice t x (some i) none none,ty,pos,af,g⟩ τ η [] [] (.v (.string (s.extract m.toNat s.size))) :=
 .look [] fun C a hg hxs _=>by
  have e1:=hxs x (by simp [Op.operands])
  have e2:=hxs i (by simp [Op.operands])
  rw [hx] at e1
  rw [hi] at e2
  refine ⟨_,?_,VR.v C _⟩
  simp only [execOp,e1.v_inv,Option.map_some,Option.map_none,e2.v_inv]
  rw [Sem.run_bind,Go.run_sliceAt_string C.w t _ _ _ _ hu,Go.run_slice_string_l C.w t s hu .i64 m h0 h1]
  rfl
theorem LOp.cvtI {t t':Nat} {x:Operand} {td:TypeDesc} {m:Int} {k:IntKind} (hs:P.underlying t=some td) (hd:P.underlying t'=some (.int .i64)) (hx:aev τ x=.v (.int k m)) (h1:-9223372036854775808≤m) (h2:m≤9223372036854775807) :
 LOp P ⟨d,.convert t t' x,ty,pos,af,g⟩ τ η [] [] (.v (.int .i64 m)) :=
 .look [] fun C a _ hxs _=>by
  have e1:=hxs x (by simp [Op.operands])
  rw [hx] at e1
  refine ⟨.int .i64 m,?_,VR.v C _⟩
  simp [execOp,e1.v_inv,convert,run_underlying hs,run_underlying hd,Conv.intToInt,Go.IntWalk.i64_in m ⟨h1,h2⟩]
end
inductive Mt:List UInt8→List UInt8→Prop
 | nil:Mt [] []
 | star0 {p s:List UInt8} (h:Mt p s):Mt (37 :: p) s
 | star1 {p s:List UInt8} {x:UInt8} (h:Mt (37 :: p) s):Mt (37 :: p) (x :: s)
 | one {c x:UInt8} {p s:List UInt8} (hc:c≠37) (hx:c=95∨c=x) (h:Mt p s):Mt (c :: p) (x :: s)
theorem mt_nil {s:List UInt8}:Mt [] s↔s=[]:=⟨fun h=>by cases h; rfl,fun h=>by subst h; exact .nil⟩
theorem mt_star {p s:List UInt8}:Mt (37 :: p) s↔∃ a b,s=a++b∧Mt p b:=by
 constructor
 ·intro h
  generalize e:(37:UInt8) :: p=q at h
  induction h with
  | nil=>cases e
  | star0 h=>cases e; exact ⟨[],_,rfl,h⟩
  | star1 h ih=>obtain ⟨a,b,rfl,hb⟩:=ih e; exact ⟨_ :: a,b,rfl,hb⟩
  | one hc hx h=>cases e; exact absurd rfl hc
 rintro ⟨a,b,rfl,hb⟩
 induction a with
 | nil=>exact .star0 hb
 | cons x a ih=>exact .star1 ih
theorem mt_one {c:UInt8} {p s:List UInt8} (hc:c≠37):Mt (c :: p) s↔∃ x t,s=x :: t∧(c=95∨c=x)∧Mt p t:=by
 constructor
 ·intro h
  cases h with
  | star0 h=>exact absurd rfl hc
  | star1 h=>exact absurd rfl hc
  | one _ hx h=>exact ⟨_,_,rfl,hx,h⟩
 rintro ⟨x,t,rfl,hx,h⟩; exact .one hc hx h
theorem mt_app:∀ {p q s:List UInt8},Mt (p++q) s↔∃ a b,s=a++b∧Mt p a∧Mt q b
 | [],q,s=>⟨fun h=>⟨[],s,rfl,.nil,h⟩,fun ⟨a,b,e,h1,h2⟩=>by rw [mt_nil.1 h1] at e; subst e; exact h2⟩
 | c :: p,q,s=>by
  rw [List.cons_append]
  by_cases hc:c=37
  ·subst hc
   rw [mt_star]
   constructor
   ·rintro ⟨a,b,rfl,h⟩
    obtain ⟨b1,b2,rfl,h1,h2⟩:=mt_app.1 h
    exact ⟨a++b1,b2,by rw [List.append_assoc],mt_star.2 ⟨a,b1,rfl,h1⟩,h2⟩
   ·rintro ⟨a,b,rfl,h1,h2⟩
    obtain ⟨a1,a2,rfl,h3⟩:=mt_star.1 h1
    exact ⟨a1,a2++b,by rw [List.append_assoc],mt_app.2 ⟨a2,b,rfl,h3,h2⟩⟩
  ·rw [mt_one hc]
   constructor
   ·rintro ⟨x,t,rfl,hx,h⟩
    obtain ⟨a,b,rfl,h1,h2⟩:=mt_app.1 h
    exact ⟨x :: a,b,rfl,.one hc hx h1,h2⟩
   ·rintro ⟨a,b,rfl,h1,h2⟩
    obtain ⟨x,t,rfl,hx,h3⟩:=(mt_one hc).1 h1
    exact ⟨x,t++b,rfl,hx,mt_app.2 ⟨t,b,rfl,h3,h2⟩⟩
theorem mt_s {p s:List UInt8}:Mt (p++[37]) s↔∃ a b,s=a++b∧Mt p a:=by
 rw [mt_app]
 exact ⟨fun ⟨a,b,e,h1,_⟩=>⟨a,b,e,h1⟩,fun ⟨a,b,e,h1⟩=>⟨a,b,e,h1,mt_star.2 ⟨b,[],by simp,.nil⟩⟩⟩
theorem mt_o {c:UInt8} {p s:List UInt8} (hc:c≠37):Mt (p++[c]) s↔∃ a x,s=a++[x]∧(c=95∨c=x)∧Mt p a:=by
 rw [mt_app]
 constructor
 ·rintro ⟨a,b,rfl,h1,h2⟩
  obtain ⟨x,t,rfl,hx,h3⟩:=(mt_one hc).1 h2
  rw [mt_nil.1 h3]; exact ⟨a,x,rfl,hx,h1⟩
 rintro ⟨a,x,rfl,hx,h1⟩; exact ⟨a,[x],rfl,h1,.one hc hx .nil⟩
section
variable {s p:ByteArray}
theorem bAt_getS {s:ByteArray} {k:Nat} (h:k < s.data.toList.length):bAt s k=s.data.toList[k]:=by
 unfold bAt
 simp only [Array.length_toList] at h
 have h':k < s.size:=h
 simp [Array.getD,h,h']
theorem u8 {a b:UInt8}:a.toNat=b.toNat↔a=b:=⟨fun h=>UInt8.toNat_inj.1 h,fun h=>by rw [h]⟩
theorem lk_mt:∀ k,k≤p.data.toList.length→∀ i,i≤s.data.toList.length→(lk s p k i=true↔Mt (p.data.toList.take k) (s.data.toList.take i))
 | 0,_,i,hi=>by
  rw [List.take_zero,mt_nil,List.take_eq_nil_iff]
  show (i==0)=true↔_
  rw [beq_iff_eq]
  constructor
  ·exact .inl
  ·rintro (h | h)
   ·exact h
   ·rw [h] at hi; simpa using hi
 | k+1,hk,i,hi=>by
  have ih:=lk_mt k (by omega)
  rw [List.take_succ_eq_append_getElem (by omega:k < p.data.toList.length)]
  have hb:=bAt_getS (s:=p) (k:=k) (by omega)
  show lkNext s (bAt p k).toNat (lk s p k) i=true↔_
  rw [hb]
  clear hb
  generalize p.data.toList[k]=c
  by_cases hc:c=37
  ·subst hc
   rw [mt_s]
   induction i with
   | zero=>
    show (((37:UInt8).toNat==37)&&lk s p k 0)=true↔_
    rw [Bool.and_eq_true,ih 0 hi]
    constructor
    ·rintro ⟨_,h⟩; exact ⟨[],[],rfl,h⟩
    ·rintro ⟨a,b,e,h⟩
     have:a=[]:=(List.append_eq_nil_iff.1 (by rw [← e,List.take_zero])).1
     subst this; exact ⟨rfl,h⟩
   | succ i ihi=>
    have h2:=ihi (by omega)
    show (if (37:UInt8).toNat=37 then lk s p k (i+1)||lkNext s (37:UInt8).toNat (lk s p k) i else _)=true↔_
    rw [if_pos (by decide),Bool.or_eq_true,ih _ hi,h2]
    constructor
    ·rintro (h | ⟨a,b,e,h⟩)
     ·exact ⟨_,[],by simp,h⟩
     ·exact ⟨a,b++[s.data.toList[i]'(by omega)],by rw [List.take_succ_eq_append_getElem (by omega),e,List.append_assoc],h⟩
    ·rintro ⟨a,b,e,h⟩
     rcases List.eq_nil_or_concat b with rfl | ⟨b',x,rfl⟩
     ·left; rw [List.append_nil] at e; rw [e]; exact h
     ·right
      rw [List.take_succ_eq_append_getElem (by omega),List.concat_eq_append,← List.append_assoc] at e
      exact ⟨a,b',List.append_inj_left' e rfl,h⟩
  ·rw [mt_o hc]
   have hn:¬ c.toNat=37:=fun h=>hc (u8.1 h)
   cases i with
   | zero=>
    show ((c.toNat==37)&&lk s p k 0)=true↔_
    rw [beq_eq_false_iff_ne.2 hn]
    simp
   | succ i=>
    show (if c.toNat=37 then _ else lk s p k i&&(c.toNat==95||c.toNat==(bAt s i).toNat))=true↔_
    rw [if_neg hn,Bool.and_eq_true,Bool.or_eq_true,beq_iff_eq,beq_iff_eq,ih i (by omega),bAt_getS (by omega),List.take_succ_eq_append_getElem (by omega:i < s.data.toList.length)]
    constructor
    ·rintro ⟨h,hx⟩; exact ⟨_,_,rfl,hx.imp (fun h=>u8.1 h) (fun h=>u8.1 h),h⟩
    ·rintro ⟨a,x,e,hx,h⟩
     have e1:=List.append_inj_left' e rfl
     have e2:=List.append_inj_right' e rfl
     simp only [List.cons.injEq,and_true] at e2
     subst e1; subst e2
     exact ⟨h,hx.imp (fun h=>by rw [h]; rfl) (fun h=>by rw [h])⟩
theorem like_mt:likeS s p=true↔Mt p.data.toList s.data.toList:=by
 unfold likeS
 have h:=lk_mt (s:=s) (p:=p) p.data.toList.length (Nat.le_refl _) s.data.toList.length (Nat.le_refl _)
 rw [List.take_length,List.take_length] at h
 exact h
theorem ext_data (s:ByteArray) (i:Nat):(s.extract i s.size).data.toList=s.data.toList.drop i:=by
 rw [ByteArray.data_extract,Array.toList_extract]
 have e:s.size=s.data.toList.length:=by simp
 rw [e]
 rw [List.extract_eq_take_drop]
 exact List.take_of_length_le (by rw [List.length_drop]; exact Nat.le_refl _)
theorem ext_size (s:ByteArray) (i:Nat):(s.extract i s.size).size=s.size - i:=by simp
theorem emp_data {s:ByteArray}:(s.toList==(⟨#[]⟩:ByteArray).toList)=true↔s.data.toList=[]:=by
 rw [beq_iff_eq,Go.ByteArray.toList_eq,Go.ByteArray.toList_eq]
theorem data_cons {s:ByteArray} (h:¬ s.data.toList=[]):0 < s.size∧s.data.toList=bAt s 0 :: (s.extract 1 s.size).data.toList:=by
 have hl:0 < s.data.toList.length:=List.length_pos_iff.2 h
 refine ⟨by simpa using hl,?_⟩
 rw [ext_data,bAt_getS hl]
 exact (List.drop_eq_getElem_cons (i:=0) hl)
theorem mt_37 {s p:ByteArray} (hp:¬ p.data.toList=[]) (hc:(bAt p 0).toNat=37):Mt p.data.toList s.data.toList↔∃ i,i≤s.size∧Mt (p.extract 1 p.size).data.toList (s.extract i s.size).data.toList:=by
 rw [(data_cons hp).2,u8.1 (show (bAt p 0).toNat=(37:UInt8).toNat from hc),mt_star]
 constructor
 ·rintro ⟨a,b,e,h⟩
  refine ⟨a.length,?_,?_⟩
  ·have:s.size=s.data.toList.length:=by simp
   rw [this,e]; simp
  rw [ext_data s,e,List.drop_left]; exact h
 rintro ⟨i,hi,h⟩
 rw [ext_data s] at h
 exact ⟨s.data.toList.take i,_,(List.take_append_drop i _).symm,h⟩
theorem mt_c {s p:ByteArray} (hp:¬ p.data.toList=[]) (hs:¬ s.data.toList=[]) (hc:¬ (bAt p 0).toNat=37):Mt p.data.toList s.data.toList↔((bAt p 0).toNat=95∨(bAt p 0).toNat=(bAt s 0).toNat)∧Mt (p.extract 1 p.size).data.toList (s.extract 1 s.size).data.toList:=by
 rw [(data_cons hp).2,(data_cons hs).2,mt_one (fun e=>hc (by rw [e]; rfl))]
 constructor
 ·rintro ⟨x,t,e,hx,h⟩
  cases e
  exact ⟨hx.imp (fun h=>by rw [h]; rfl) (fun h=>by rw [h]),h⟩
 rintro ⟨hx,h⟩
 exact ⟨_,_,rfl,hx.imp (fun h=>u8.1 h) (fun h=>u8.1 h),h⟩
theorem mt_cn {s p:ByteArray} (hp:¬ p.data.toList=[]) (hs:s.data.toList=[]) (hc:¬ (bAt p 0).toNat=37):¬ Mt p.data.toList s.data.toList:=by
 rw [(data_cons hp).2,hs,mt_one (fun e=>hc (by rw [e]; rfl))]
 rintro ⟨x,t,e,_⟩; cases e
end
theorem bB {n:Nat} {F G:Nat→Bool} (h:∀ i,i < n→F i=G i):some (Blk.mk 0 (rowB n F) 1 false)=some (Blk.mk 0 (rowB n G) 1 false):=by rw [rowB_ext h]
section
variable {s p:ByteArray} {c k i:Nat} {prev:Nat→Bool} {v:Bool}
theorem lkN_37 (h:c=37):lkNext s c prev k=(prev k||(decide (0 < k)&&lkNext s c prev (k - 1))):=by
 subst h
 cases k with
 | zero=>simp [lkNext]
 | succ k=>simp [lkNext]
theorem lkN_o (h:¬ c=37):lkNext s c prev k=(decide (0 < k)&&(prev (k - 1)&&(c==95||c==(bAt s (k - 1)).toNat))):=by
 cases k with
 | zero=>simp [lkNext,h]
 | succ k=>simp [lkNext,h]
end
def pasS (t:PTest) (s:ByteArray):Bool:=(if t.kd=0 then (s.toList==t.s.toList) else if t.kd=1 then likeS s t.s else if t.kd=2 then lessS s t.s else if t.kd=3 then !lessS t.s s else false) != t.ng
theorem ext_fit {s:ByteArray} (h:FitS s) (i:Nat):FitS (s.extract i s.size):=by
 have h:s.size≤140737488351232:=h
 show (s.extract i s.size).size≤140737488351232
 rw [ext_size]; omega
theorem emp_ne {s:ByteArray} (h:(s.toList==(⟨#[]⟩:ByteArray).toList)=false):¬ s.data.toList=[]:=fun e=>by rw [emp_data.2 e] at h; cases h
theorem emp_bne {s:ByteArray}:(!(s.toList==(⟨#[]⟩:ByteArray).toList))=true↔¬ s.data.toList=[]:=by
 rw [Bool.not_eq_true',← Bool.not_eq_true,emp_data]
theorem emp_sz {s:ByteArray} (h:¬ s.data.toList=[]):0 < s.size:=(data_cons h).1
theorem nE {n m:Nat} {c:Int} (h:(((n:Nat):Int)==c)=true) (hc:c=((m:Nat):Int)):n=m:=by rw [beq_iff_eq] at h; omega
theorem nF {n m:Nat} {c:Int} (h:(((n:Nat):Int)==c)=false) (hc:c=((m:Nat):Int)):¬ n=m:=by rw [beq_eq_false_iff_ne] at h; omega
theorem emp_nn {s:ByteArray} (h:(!(s.toList==(⟨#[]⟩:ByteArray).toList))=false):s.data.toList=[]:=by rw [Bool.not_eq_false'] at h; exact emp_data.1 h
structure K1 where
 k:Nat
def ordL (l m:List UInt8):Int:=if Op.bytesLess l m=true then -1 else if Op.bytesLess m l=true then 1 else 0
theorem ordT_L (a b:ByteArray):ordT a b=ordL a.data.toList b.data.toList:=by unfold ordT ordL lessS; rw [Go.ByteArray.toList_eq,Go.ByteArray.toList_eq]
theorem ordL_cons (x:UInt8) (l m:List UInt8):ordL (x :: l) (x :: m)=ordL l m:=by unfold ordL; simp [Op.bytesLess]
theorem ordL_ne {x y:UInt8} (l m:List UInt8) (h:¬ x=y):ordL (x :: l) (y :: m)=ordI ((x.toNat:Nat):Int) ((y.toNat:Nat):Int):=by
 unfold ordL ordI
 have hn:¬ x.toNat=y.toNat:=fun e=>h (u8.1 e)
 by_cases h1:x < y
 ·have h2:x.toNat < y.toNat:=UInt8.lt_iff_toNat_lt.1 h1
  rw [if_pos (by simp [Op.bytesLess,h1]),if_pos (by omega)]
 have h2:¬ x.toNat < y.toNat:=fun g=>h1 (UInt8.lt_iff_toNat_lt.2 g)
 have h3:y < x:=UInt8.lt_iff_toNat_lt.2 (by omega)
 rw [if_neg (by simp [Op.bytesLess,h1,h]),if_pos (by simp [Op.bytesLess,h3]),if_neg (by omega),if_pos (by omega)]
theorem bE {n m:Nat} (h:(((n:Nat):Int) != ((m:Nat):Int))=false):n=m:=by simp only [bne_eq_false_iff_eq] at h; omega
theorem bNe {x y:UInt8} (h:(((x.toNat:Nat):Int) != ((y.toNat:Nat):Int))=true):¬ x=y:=fun e=>by subst e; simp at h
theorem less_asym:∀ {l m:List UInt8},Op.bytesLess l m=true→Op.bytesLess m l=false
 | [],[],h=>by simp [Op.bytesLess] at h
 | [],_ :: _,_=>by simp [Op.bytesLess]
 | _ :: _,[],h=>by simp [Op.bytesLess] at h
 | a :: l,b :: m,h=>by
  simp only [Op.bytesLess,Bool.or_eq_true,decide_eq_true_eq,Bool.and_eq_true,beq_iff_eq] at h
  simp only [Op.bytesLess,Bool.or_eq_false_iff,decide_eq_false_iff_not,Bool.and_eq_false_iff,beq_eq_false_iff_ne]
  rcases h with h | ⟨rfl,h⟩
  ·exact ⟨Std.not_lt.2 (Std.le_of_lt h),.inl (fun e=>by subst e; exact absurd h (Std.lt_irrefl))⟩
  ·exact ⟨Std.lt_irrefl,.inr (less_asym h)⟩
theorem ord_lt (a b:ByteArray):decide (ordT a b < 0)=lessS a b:=by
 unfold ordT
 cases h:lessS a b with
 | true=>rfl
 | false=>rw [if_neg (by decide)]; split <;> rfl
theorem ord_le (a b:ByteArray):decide (ordT a b≤0)=!lessS b a:=by
 unfold ordT
 cases h:lessS a b with
 | true=>rw [if_pos rfl,show lessS b a=false from less_asym h]; rfl
 | false=>rw [if_neg (by decide)]; cases h2:lessS b a <;> rfl
def TxI (a b:ByteArray) (k:Nat):Prop:=ordL a.data.toList b.data.toList=ordL (a.data.toList.drop k) (b.data.toList.drop k)
section
variable {a b:ByteArray} {k:Nat}
theorem txI0:TxI a b 0:=rfl
theorem dl {a:ByteArray} (h:k < a.size):a.data.toList.drop k=bAt a k :: a.data.toList.drop (k+1):=by
 have hl:k < a.data.toList.length:=by simpa using h
 rw [bAt_getS hl]; exact List.drop_eq_getElem_cons hl
theorem txI_nx (h:TxI a b k) (ha:k < a.size) (hb:k < b.size) (he:bAt a k=bAt b k):TxI a b (k+1):=by
 unfold TxI at h ⊢
 rw [h,dl ha,dl hb,he,ordL_cons]
theorem txI_ne (h:TxI a b k) (ha:k < a.size) (hb:k < b.size) (he:¬ bAt a k=bAt b k):ordI (((bAt a k).toNat:Nat):Int) (((bAt b k).toNat:Nat):Int)=ordT a b:=by
 rw [ordT_L,h,dl ha,dl hb,ordL_ne _ _ he]
theorem dz {a:ByteArray} (h:¬ k < a.size):a.data.toList.drop k=[]:=List.drop_of_length_le (by simp at h ⊢; omega)
theorem txI_end (h:TxI a b k) (hk:k≤a.size) (hk2:k≤b.size) (he:¬ k < a.size∨¬ k < b.size):ordI ((a.size:Nat):Int) ((b.size:Nat):Int)=ordT a b:=by
 rw [ordT_L,h]
 unfold ordI
 by_cases ha:k < a.size
 ·have hb:¬ k < b.size:=he.resolve_left (fun h=>h ha)
  rw [dz hb,dl ha,if_neg (by omega),if_pos (by omega)]; rfl
 by_cases hb:k < b.size
 ·rw [dz ha,dl hb,if_pos (by omega)]; rfl
 rw [dz ha,dz hb,if_neg (by omega),if_neg (by omega)]; rfl
end
def skipF (p:ByteArray) (F:Nat→Bool):Nat→Bool
 | 0=>F 0
 | i+1=>F (i+1)||((bAt p i).toNat==37&&skipF p F i)
def skF (p:ByteArray) (F:Nat→Bool) (k j:Nat):Bool:=if j≤k then skipF p F j else F j
section
variable {p s:ByteArray} {F:Nat→Bool} {k m j i:Nat}
theorem sk_0:F m=skF p F 0 m:=by
 unfold skF
 split
 ·have:m=0:=by omega
  subst this; rfl
 rfl
theorem sk_set (h:(bAt p k).toNat=37) (hv:skF p F k k=true):(if m=k+1 then true else skF p F k m)=skF p F (k+1) m:=by
 unfold skF at hv ⊢
 rw [if_pos (Nat.le_refl _)] at hv
 by_cases e:m=k+1
 ·subst e; rw [if_pos rfl,if_pos (Nat.le_refl _)]; simp [skipF,h,hv]
 rw [if_neg e]
 by_cases h2:m≤k
 ·rw [if_pos h2,if_pos (by omega)]
 rw [if_neg h2,if_neg (by omega)]
theorem sk_no (h:(bAt p k).toNat≠37∨skF p F k k=false):skF p F k m=skF p F (k+1) m:=by
 unfold skF at h ⊢
 rw [if_pos (Nat.le_refl _)] at h
 by_cases h2:m≤k
 ·rw [if_pos h2,if_pos (by omega)]
 rw [if_neg h2]
 by_cases e:m=k+1
 ·subst e; rw [if_pos (Nat.le_refl _)]
  rcases h with h | h
  ·simp [skipF,h]
  simp [skipF,h]
 rw [if_neg (by omega)]
theorem sk_end (h:m≤k):skF p F k m=skipF p F m:=by unfold skF; rw [if_pos h]
def reachS (s p:ByteArray) (j i:Nat):Bool:=if (bAt p i).toNat=37 then lk s p (i+1) j else lk s p i j
def hitF (p:ByteArray) (F:Nat→Bool) (m:Nat):Bool:=(bAt p m).toNat==37&&F m
def advF (s p:ByteArray) (j:Nat) (F:Nat→Bool) (m:Nat):Bool:=(bAt p m).toNat != 37&&F m&&((bAt p m).toNat==95||(bAt p m).toNat==(bAt s j).toNat)
def nxF (s p:ByteArray) (j:Nat) (F:Nat→Bool) (k m:Nat):Bool:=(decide (m < k)&&hitF p F m)||(decide (0 < m)&&decide (m≤k)&&advF s p j F (m - 1))
theorem nxF_0:false=nxF s p j F 0 m:=by
 unfold nxF
 by_cases h:m=0 <;> simp [h]
theorem nx_hit (h:(bAt p k).toNat=37) (hF:F k=true):(if m=k then true else nxF s p j F k m)=nxF s p j F (k+1) m:=by
 have h1:hitF p F k=true:=by simp [hitF,h,hF]
 have h2:advF s p j F k=false:=by simp [advF,h]
 by_cases e:m=k
 ·subst e; rw [if_pos rfl]; simp [nxF,h1]
 rw [if_neg e]
 by_cases e2:m=k+1
 ·subst e2; simp [nxF,h2]; intro h; omega
 unfold nxF
 rw [show decide (m < k+1)=decide (m < k) by rw [decide_eq_decide]; omega,show decide (m≤k+1)=decide (m≤k) by rw [decide_eq_decide]; omega]
theorem nx_adv (h:(bAt p k).toNat≠37) (hF:F k=true) (hm:(bAt p k).toNat=95∨(bAt p k).toNat=(bAt s j).toNat):(if m=k+1 then true else nxF s p j F k m)=nxF s p j F (k+1) m:=by
 have h1:hitF p F k=false:=by simp [hitF,h]
 have h2:advF s p j F k=true:=by unfold advF; rcases hm with hm | hm <;> simp [h,hF,hm] <;> omega
 by_cases e:m=k+1
 ·subst e; rw [if_pos rfl]; simp [nxF,h2]
 rw [if_neg e]
 by_cases e2:m=k
 ·subst e2; simp [nxF,h1]
 unfold nxF
 rw [show decide (m < k+1)=decide (m < k) by rw [decide_eq_decide]; omega,show decide (m≤k+1)=decide (m≤k) by rw [decide_eq_decide]; omega]
theorem nx_skip (h1:hitF p F k=false) (h2:advF s p j F k=false):nxF s p j F k m=nxF s p j F (k+1) m:=by
 by_cases e:m=k+1
 ·subst e; simp [nxF,h2]; intro h; omega
 by_cases e2:m=k
 ·subst e2; simp [nxF,h1]
 unfold nxF
 rw [show decide (m < k+1)=decide (m < k) by rw [decide_eq_decide]; omega,show decide (m≤k+1)=decide (m≤k) by rw [decide_eq_decide]; omega]
theorem nx_nF (h:F k=false):nxF s p j F k m=nxF s p j F (k+1) m:=nx_skip (by simp [hitF,h]) (by simp [advF,h])
theorem nx_nM (h:(bAt p k).toNat≠37) (h1:(bAt p k).toNat≠95) (h2:(bAt p k).toNat≠(bAt s j).toNat):nxF s p j F k m=nxF s p j F (k+1) m:=nx_skip (by simp [hitF,h]) (by simp [advF,h1,h2])
theorem lk_step (h:(bAt p k).toNat=37):lk s p (k+1) (j+1)=(lk s p k (j+1)||lk s p (k+1) j):=by
 show lkNext s (bAt p k).toNat (lk s p k) (j+1)=_
 rw [lkN_37 h]; simp; rfl
theorem lk_zero (h:(bAt p k).toNat=37):lk s p (k+1) 0=lk s p k 0:=by
 show lkNext s (bAt p k).toNat (lk s p k) 0=_
 rw [lkN_37 h]; simp
theorem lk_o (h:¬ (bAt p k).toNat=37):lk s p (k+1) (j+1)=(lk s p k j&&((bAt p k).toNat==95||(bAt p k).toNat==(bAt s j).toNat)):=by
 show lkNext s (bAt p k).toNat (lk s p k) (j+1)=_
 rw [lkN_o h]; simp
theorem lk_o0 (h:¬ (bAt p k).toNat=37):lk s p (k+1) 0=false:=by
 show lkNext s (bAt p k).toNat (lk s p k) 0=_
 rw [lkN_o h]; simp
theorem init_reach:∀ i,skipF p (fun k=>if k=0 then true else false) i=reachS s p 0 i:=by
 have key:∀ i,skipF p (fun k=>if k=0 then true else false) i=lk s p i 0:=by
  intro i
  induction i with
  | zero=>rfl
  | succ i ih=>
   simp only [skipF,ih]
   by_cases h:(bAt p i).toNat=37
   ·rw [lk_zero h]; simp [h]
   ·rw [lk_o0 h]; simp [h]
 intro i
 rw [key]
 unfold reachS
 split
 ·rename_i h; rw [lk_zero h]
 rfl
theorem bAt_end:(bAt p p.size).toNat=0:=by
 unfold bAt
 have:p.data.getD p.size 0=0:=by simp [Array.getD]
 rw [this]; rfl
theorem hit_end:hitF p F p.size=false:=by simp [hitF,bAt_end]
theorem next_reach:∀ i,i≤p.size→skipF p (nxF s p j (reachS s p j) p.size) i=reachS s p (j+1) i:=by
 intro i
 induction i with
 | zero=>
  intro _
  show nxF s p j (reachS s p j) p.size 0=_
  have e:nxF s p j (reachS s p j) p.size 0=hitF p (reachS s p j) 0:=by
   unfold nxF
   by_cases h:0 < p.size
   ·simp [h]
   ·have:p.size=0:=by omega
    have:=hit_end (p:=p) (F:=reachS s p j)
    simp_all
  rw [e]
  unfold hitF reachS
  by_cases h:(bAt p 0).toNat=37
  ·rw [if_pos h,if_pos h,lk_step h]; simp [h,lk]
  ·rw [if_neg h,if_neg h]; simp [h,lk]
 | succ i ih=>
  intro hi
  have ih:=ih (by omega)
  simp only [skipF,ih]
  have e:nxF s p j (reachS s p j) p.size (i+1)=(hitF p (reachS s p j) (i+1)||advF s p j (reachS s p j) i):=by
   unfold nxF
   by_cases h:i+1 < p.size
   ·simp [h,hi]
   ·have h2:i+1=p.size:=by omega
    have:=hit_end (p:=p) (F:=reachS s p j)
    rw [h2,this]
    simp [show 0 < p.size by omega,show p.size - 1=i by omega]
  rw [e]
  have eA:(advF s p j (reachS s p j) i||((bAt p i).toNat==37&&reachS s p (j+1) i))=lk s p (i+1) (j+1):=by
   unfold advF
   by_cases h:(bAt p i).toNat=37
   ·have:reachS s p (j+1) i=lk s p (i+1) (j+1):=by unfold reachS; rw [if_pos h]
    simp [h,this]
   ·have:reachS s p j i=lk s p i j:=by unfold reachS; rw [if_neg h]
    have a1:((bAt p i).toNat==37)=false:=by rw [beq_eq_false_iff_ne]; exact h
    rw [lk_o h,this]; simp only [bne,a1]; simp
  rw [Bool.or_assoc,eA]
  unfold hitF
  by_cases h:(bAt p (i+1)).toNat=37
  ·have e1:reachS s p j (i+1)=lk s p (i+2) j:=by unfold reachS; rw [if_pos h]
   have e2:reachS s p (j+1) (i+1)=lk s p (i+2) (j+1):=by unfold reachS; rw [if_pos h]
   rw [e1,e2,lk_step h]; simp [h,Bool.or_comm]
  ·have e2:reachS s p (j+1) (i+1)=lk s p (i+1) (j+1):=by unfold reachS; rw [if_neg h]
   rw [e2]; simp [h]
theorem reach_end:reachS s p s.size p.size=likeS s p:=by
 unfold reachS likeS
 rw [if_neg (by rw [bAt_end]; decide)]
theorem ren_row {g:Nat→Nat} {v n z:Nat} {np:Bool}:some (Blk.mk v (rowB n F) z np)=some ((Blk.mk v (rowB n F) z np).ren g):=by simp only [Blk.ren,rowB_ren]
theorem ok_row {D:List Nat} {v n z:Nat}:okBlk D (Blk.mk v (rowB n F) z false):=⟨rowB_in _,.inl rfl⟩
theorem del3 {m:List (Nat×Nat)} {a b c a' b' c' n:Nat} {A B A' B':Blk} (ha:gOf m a=a') (hb:gOf m b=b') (hc:gOf m c=c') (hA:A.ren (gOf m)=A') (hB:B.ren (gOf m)=B'):deltaH m [(a,some A),(b,some B),(c,some ⟨0,rowB n F,1,false⟩)]=[(a',some A'),(b',some B'),(c',some ⟨0,rowB n F,1,false⟩)]:=by
 subst ha hb hc hA hB
 simp [deltaH,Blk.ren,rowB_ren]
end
theorem by4:(Tryz.prog.info? 4).map (·.bytes)=some 1:=by kernel_rfl
theorem row4:rowOf Tryz.prog 4=some none:=by kernel_rfl
theorem sz4:sizeInfo Tryz.prog 4=some 1:=by kernel_rfl
theorem zr4:zeroOf Tryz.prog 4=some (.bool false):=by kernel_rfl
set_option maxRecDepth 100000 in
set_option maxHeartbeats 4000000 in
theorem like16_w (s:ByteArray) (hs:FitS s) (p:ByteArray) (hp:FitS p) (ih:∀ p1 s1:ByteArray,p1.size < p.size→FitS p1→FitS s1→PRet Tryz.prog 99 [.v (.string s1),.v (.string p1)] (fun q=>∃ b:Bool,q=.v (.bool b)∧(b=true↔Mt (p1).data.toList (s1).data.toList))):PRet Tryz.prog 99 [.v (.string s),.v (.string p)] (fun q=>∃ b:Bool,q=.v (.bool b)∧(b=true↔Mt p.data.toList s.data.toList)):=by
 have hs1:s.size≤140737488351232:=hs
 have hp1:p.size≤140737488351232:=hp
 refine ovT [21,23,41,43] [] Tryz.func99 rfl rfl (cB (fun hc7=>?_) (fun hc7=>?_))
 ·exact rV Tryz.results99 rfl ⟨_,rfl,by rw [emp_data,emp_data.1 hc7,mt_nil]⟩
 have hpn:=emp_ne hc7
 have hpz:=emp_sz hpn
 refine ⟨(by assumption),cB (fun hc12=>?_) (fun hc12=>?_)⟩
 ·have h37:(bAt p 0).toNat=37:=nE hc12 rfl
  refine LpG.on (fun k0:Nat=>(⟨fL [(0,.v (.string s)),(1,.v (.string p)),(5,.v (.int .i64 ((k0:Nat):Int)))],hLz [],0⟩:St)) (fun k0=>((s.size+1) - k0)) (fun k0=>(k0≤(s.size+1)∧∀ j (hl:j < s.size+1),j < k0→¬ Mt (p.extract 1 p.size).data.toList (s.extract j s.size).data.toList)) 0 (cO (.cons rfl rfl (.cons rfl rfl (.cons rfl rfl .nil))) .nil) ⟨Nat.zero_le _,fun j _ h=>absurd h (Nat.not_lt_zero j)⟩ ?_
  rintro k0 hinv
  obtain ⟨hle_k0,hj_k0⟩:=hinv
  refine cD (fun hq16=>?_) (fun hq16=>?_)
  ·have hk16:k0≤s.size:=by omega
   refine OpG.lk (LOp.sliceStrL Tryz.underlying9 rfl rfl (by omega) (by omega)) (OpG.lk (LOp.sliceStrL Tryz.underlying9 rfl rfl (by omega) (by omega)) ?_)
   refine ArgG.mk (ih (p.extract 1 p.size) (s.extract k0 s.size) (by rw [ext_size]; omega) (ext_fit hp 1) (ext_fit hs k0)) rfl ?_
   rintro _ ⟨b0,rfl,hb0⟩
   refine ⟨by kernel_rfl,cB (fun hc24=>?_) (fun hc24=>?_)⟩
   ·exact rV Tryz.results99 rfl ⟨_,rfl,fun _=>(mt_37 hpn h37).2 ⟨k0,hk16,hb0.1 hc24⟩,fun _=>rfl⟩
   refine ⟨by omega,⟨(k0+1),by omega,(cO (.cons rfl rfl (.cons rfl rfl (.cons rfl rfl .nil))) .nil),?_⟩⟩
   refine ⟨by omega,fun j hl h=>?_⟩
   rcases Nat.lt_succ_iff_lt_or_eq.1 h with h | rfl
   ·exact hj_k0 j hl h
   exact fun h=>by rw [hb0.2 h] at hc24; cases hc24
  exact rV Tryz.results99 rfl ⟨_,rfl,fun h=>absurd h Bool.false_ne_true,fun h=>by obtain ⟨i,hi,h⟩:=(mt_37 hpn h37).1 h; exact absurd h (hj_k0 i (by omega) (by omega))⟩
 have h37:¬ (bAt p 0).toNat=37:=nF hc12 rfl
 refine cB (fun hg27=>?_) (fun hg27=>?_)
 ·have hsn:=emp_bne.1 hg27
  have hsz:=emp_sz hsn
  refine ⟨(by assumption),cB (fun hg31=>?_) (fun hg31=>?_)⟩
  ·refine cT (OpG.lk (LOp.sliceStrL Tryz.underlying9 rfl rfl (by omega) (by omega)) ?_)
   refine OpG.lk (LOp.sliceStrL Tryz.underlying9 rfl rfl (by omega) (by omega)) (ArgG.mk (ih (p.extract 1 p.size) (s.extract 1 s.size) (by rw [ext_size]; omega) (ext_fit hp 1) (ext_fit hs 1)) rfl ?_)
   rintro _ ⟨b1,rfl,hb1⟩
   exact ⟨by kernel_rfl,rV Tryz.results99 rfl ⟨_,rfl,fun h=>(mt_c hpn hsn h37).2 ⟨.inl (nE hg31 rfl),hb1.1 h⟩,fun h=>hb1.2 ((mt_c hpn hsn h37).1 h).2⟩⟩
  refine ⟨(by assumption),⟨(by assumption),?_⟩⟩
  refine cB (fun hg39=>?_) (fun hg39=>?_)
  ·refine OpG.lk (LOp.sliceStrL Tryz.underlying9 rfl rfl (by omega) (by omega)) (OpG.lk (LOp.sliceStrL Tryz.underlying9 rfl rfl (by omega) (by omega)) ?_)
   refine ArgG.mk (ih (p.extract 1 p.size) (s.extract 1 s.size) (by rw [ext_size]; omega) (ext_fit hp 1) (ext_fit hs 1)) rfl ?_
   rintro _ ⟨b2,rfl,hb2⟩
   exact ⟨by kernel_rfl,rV Tryz.results99 rfl ⟨_,rfl,fun h=>(mt_c hpn hsn h37).2 ⟨.inr (nE hg39 rfl),hb2.1 h⟩,fun h=>hb2.2 ((mt_c hpn hsn h37).1 h).2⟩⟩
  exact ⟨by kernel_rfl,rV Tryz.results99 rfl ⟨_,rfl,fun h=>absurd h Bool.false_ne_true,fun h=>absurd ((mt_c hpn hsn h37).1 h).1 (by rintro (h | h); exact nF hg31 rfl h; exact nF hg39 rfl h)⟩⟩
 exact cF ⟨by kernel_rfl,rV Tryz.results99 rfl ⟨_,rfl,fun h=>absurd h Bool.false_ne_true,fun h=>absurd h (mt_cn hpn (emp_nn hg27) h37)⟩⟩
theorem like16_p (p:ByteArray) (hp:FitS p) (s:ByteArray) (hs:FitS s):PRet Tryz.prog 99 [.v (.string s),.v (.string p)] (fun q=>q=.v (.bool (likeS s p))):=by
 have key:∀ n,∀ p s:ByteArray,p.size < n→FitS p→FitS s→PRet Tryz.prog 99 [.v (.string s),.v (.string p)] (fun q=>∃ b:Bool,q=.v (.bool b)∧(b=true↔Mt (p).data.toList (s).data.toList)):=by
  intro n
  induction n with
  | zero=>intro p s h; omega
  | succ n ih=>intro p s h hp hs; exact like16_w s hs p hp fun p1 s1 h1 hp1 hs1=>ih p1 s1 (by omega) hp1 hs1
 obtain ⟨_,⟨b,rfl,hb⟩,h⟩:=key _ p s (Nat.lt_succ_self _) hp hs
 exact ⟨_,by rw [Bool.eq_iff_iff.2 (hb.trans like_mt.symm)],h⟩
set_option maxRecDepth 100000 in
set_option maxHeartbeats 4000000 in
theorem ints04_p (a:Int) (b:Int):PRet Tryz.prog 130 [.v (.int .i64 a),.v (.int .i64 b)] (fun q=>q=.v (.int .i64 (ordI a b))):=by
 refine ovT [] [] Tryz.func130 rfl rfl (cD (fun hq7=>?_) (fun hq7=>?_))
 exact rV Tryz.results130 rfl (congrArg (fun z=>AV.v (.int .i64 z)) (by unfold ordI; (rw [if_pos (by omega)]; done)))
 refine cD (fun hq10=>?_) (fun hq10=>?_)
 ·exact rV Tryz.results130 rfl (congrArg (fun z=>AV.v (.int .i64 z)) (by unfold ordI; (rw [if_neg (by omega),if_pos (by omega)]; done)))
 exact rV Tryz.results130 rfl (congrArg (fun z=>AV.v (.int .i64 z)) (by unfold ordI; (rw [if_neg (by omega),if_neg (by omega)]; done)))
set_option maxRecDepth 100000 in
set_option maxHeartbeats 4000000 in
theorem texts04_p (a:ByteArray) (ha:FitS a) (b:ByteArray) (hb:FitS b):PRet Tryz.prog 100 [.v (.string a),.v (.string b)] (fun q=>q=.v (.int .i64 (ordT a b))):=by
 have ha1:a.size≤140737488351232:=ha
 have hb1:b.size≤140737488351232:=hb
 refine ovT [28,32] [] Tryz.func100 rfl rfl ?_
 refine LpG.on (fun k0:K1=>(⟨fL [(0,.v (.string a)),(1,.v (.string b)),(5,.v (.int .i64 ((k0.k:Nat):Int)))],hLz [],0⟩:St)) (fun k0=>((min a.size b.size) - k0.k)) (fun k0=>(k0.k≤(min a.size b.size)∧TxI a b k0.k)) (⟨0⟩:K1) (cO (.cons rfl rfl (.cons rfl rfl (.cons rfl rfl .nil))) .nil) ⟨Nat.zero_le _,txI0⟩ ?_
 rintro k0 hinv
 obtain ⟨hle_k0,hi_k0⟩:=hinv
 refine cB (fun hg10=>?_) (fun hg10=>?_)
 ·have hlt10:k0.k < a.size:=Int.ofNat_lt.1 (of_decide_eq_true hg10)
  refine cB (fun hc15=>?_) (fun hc15=>?_)
  ·have hlt15:k0.k < b.size:=Int.ofNat_lt.1 (of_decide_eq_true hc15)
   refine ⟨(by assumption),?_⟩
   refine ⟨(by assumption),?_⟩
   refine ⟨by kernel_rfl,?_⟩
   refine cB (fun hc24=>?_) (fun hc24=>?_)
   ·refine ⟨(by assumption),?_⟩
    refine OpG.lk (LOp.cvtI Tryz.underlying5 Tryz.underlying2 rfl (by omega) (by have:=(bAt a k0.k).toNat_lt; omega)) ?_
    refine ⟨(by assumption),?_⟩
    refine OpG.lk (LOp.cvtI Tryz.underlying5 Tryz.underlying2 rfl (by omega) (by have:=(bAt b k0.k).toNat_lt; omega)) ?_
    refine ArgG.mk (ints04_p ((((bAt a k0.k).toNat:Nat):Int)) ((((bAt b k0.k).toNat:Nat):Int))) rfl ?_
    rintro _ rfl
    refine ⟨by kernel_rfl,?_⟩
    exact rV Tryz.results100 rfl (congrArg (fun z=>AV.v (.int .i64 z)) (txI_ne hi_k0 hlt10 hlt15 (bNe hc24)))
   refine ⟨by omega,?_⟩
   refine ⟨(⟨k0.k+1⟩:K1),(by show (min a.size b.size) - (k0.k+1) < (min a.size b.size) - k0.k; omega),(cO (.cons rfl rfl (.cons rfl rfl (.cons rfl rfl .nil))) .nil),?_⟩
   refine ⟨by show k0.k+1≤_; omega,?_⟩
   exact txI_nx hi_k0 hlt10 hlt15 (u8.1 (bE hc24))
  have hge15:¬ k0.k < b.size:=fun h=>of_decide_eq_false hc15 (Int.ofNat_lt.2 h)
  refine ArgG.mk (ints04_p (((a.size:Nat):Int)) (((b.size:Nat):Int))) rfl ?_
  rintro _ rfl
  exact rV Tryz.results100 rfl (congrArg (fun z=>AV.v (.int .i64 z)) (txI_end hi_k0 (by omega) (by omega) (by omega)))
 have hge10:¬ k0.k < a.size:=fun h=>of_decide_eq_false hg10 (Int.ofNat_lt.2 h)
 refine cF (ArgG.mk (ints04_p (((a.size:Nat):Int)) (((b.size:Nat):Int))) rfl ?_)
 rintro _ rfl
 exact rV Tryz.results100 rfl (congrArg (fun z=>AV.v (.int .i64 z)) (txI_end hi_k0 (by omega) (by omega) (by omega)))
set_option maxRecDepth 100000 in
set_option maxHeartbeats 4000000 in
theorem passesR_p (t:PTest) (s:ByteArray) (hs:FitS s) (hts:FitS t.s):PRet Tryz.prog 62 [.agg (teA t),.v (.string s)] (fun q=>q=.v (.bool (pasS t s))):=by
 refine ovT [] [] Tryz.func62 rfl rfl (cE (fun hq8=>?_) (fun hq8=>?_))
 exact rV Tryz.results62 rfl (congrArg (fun z=>AV.v (.bool z)) (by rw [pasS,if_pos (by assumption)]; rfl))
 refine cE (fun hq14=>?_) (fun hq14=>?_)
 refine ArgG.mk (like16_p t.s hts s hs) rfl ?_
 rintro _ rfl
 exact rV Tryz.results62 rfl (congrArg (fun z=>AV.v (.bool z)) (by rw [pasS,if_neg (by omega),if_pos (by assumption)]; rfl))
 refine cE (fun hq20=>?_) (fun hq20=>?_)
 refine ArgG.mk (texts04_p s hs t.s hts) rfl ?_
 rintro _ rfl
 exact rV Tryz.results62 rfl (congrArg (fun z=>AV.v (.bool z)) (by rw [pasS,if_neg (by omega),if_neg (by omega),if_pos (by assumption),← ord_lt]; rfl))
 refine cE (fun hq27=>?_) (fun hq27=>?_)
 ·refine ArgG.mk (texts04_p s hs t.s hts) rfl ?_
  rintro _ rfl
  exact rV Tryz.results62 rfl (congrArg (fun z=>AV.v (.bool z)) (by rw [pasS,if_neg (by omega),if_neg (by omega),if_neg (by omega),if_pos (by assumption),← ord_le]; rfl))
 exact rV Tryz.results62 rfl (congrArg (fun z=>AV.v (.bool z)) (by rw [pasS,if_neg (by omega),if_neg (by omega),if_neg (by omega),if_neg (by omega)]; rfl))
set_option maxRecDepth 100000 in
set_option maxHeartbeats 4000000 in
theorem like1_h (p:ByteArray) (hp:p.size≤140737488351232) (F:Nat→Bool):HRet Tryz.prog 142 [.ptr 1000000 0 0,.ptr 1000001 0 0] [(1000000,⟨0,[.v (.string p)],0,false⟩),(1000001,⟨0,[.sl 1000002 0 0 (p.size+1)],0,false⟩),(1000002,⟨0,rowB (p.size+1) F,1,false⟩)] [(1000000,some (⟨0,[.v (.string p)],0,false⟩)),(1000001,some (⟨0,[.sl 1000002 0 0 (p.size+1)],0,false⟩)),(1000002,some (⟨0,rowB (p.size+1) (skF p F p.size),1,false⟩))] (fun q=>q=.tup []):=by
 refine HRet.of_vc infOk [15,16,21,100021] [] Tryz.func142 rfl Tryz.ntmps142 rfl (by kernel_rfl) (LpG.on (fun k0:Nat=>(⟨fL [(0,.ptr 1000000 0 0),(1,.ptr 1000001 0 0),(4,.v (.int .i64 ((p.size:Nat):Int))),(5,.v (.int .i64 ((k0:Nat):Int)))],hLz [(1000000,⟨0,[.v (.string p)],0,false⟩),(1000001,⟨0,[.sl 1000002 0 0 (p.size+1)],0,false⟩),(1000002,⟨0,rowB (p.size+1) (skF p F k0),1,false⟩)],0⟩:St)) (fun k0=>(p.size - k0)) (fun k0=>(k0≤p.size)) 0 (cO (.cons rfl rfl (.cons rfl rfl (.cons rfl rfl (.cons rfl rfl .nil)))) (.cons rfl rfl rfl (.cons rfl rfl rfl (.cons (by exact bB (fun i _=>sk_0)) rfl (rowB_low _) .nil)))) (Nat.zero_le _) ?_)
 rintro k0 hinv
 have hle_k0:=hinv
 refine cL (fun hlt6=>?_) (fun hge6=>?_)
 ·refine ⟨(by assumption),cB (fun hg12=>?_) (fun hg12=>?_)⟩
  ·have hcc:(bAt p k0).toNat=37:=by have h:=hg12; simp at h; omega
   refine OpG.lk (LOp.indexB (i:=k0) Tryz.underlying183 sz4 rfl rfl (by omega) (by omega) rfl) (OpG.lk (LOp.loadB row4 rfl rfl (by omega)) ?_)
   refine cB (fun hc17=>?_) (fun hc17=>?_)
   ·refine ⟨by omega,OpG.lk (LOp.indexB (i:=k0+1) Tryz.underlying183 sz4 rfl rfl (by omega) (by omega) rfl) ?_⟩
    refine OpG.wr (LOp.storeB sz4 rfl rfl rfl (by omega)) rfl ⟨by omega,⟨(k0+1),by omega,(cO (.cons rfl rfl (.cons rfl rfl (.cons rfl rfl (.cons rfl rfl .nil)))) (.cons rfl rfl rfl (.cons rfl rfl rfl (.cons (by exact bB (fun i _=>sk_set hcc hc17)) rfl (rowB_low _) .nil)))),?_⟩⟩
    omega
   refine ⟨by omega,⟨(k0+1),by omega,(cO (.cons rfl rfl (.cons rfl rfl (.cons rfl rfl (.cons rfl rfl .nil)))) (.cons rfl rfl rfl (.cons rfl rfl rfl (.cons (by exact bB (fun i _=>sk_no (.inr hc17))) rfl (rowB_low _) .nil)))),?_⟩⟩
   omega
  have hcc:¬ (bAt p k0).toNat=37:=by have h:=hg12; simp at h; omega
  refine cF ⟨by omega,⟨(k0+1),by omega,(cO (.cons rfl rfl (.cons rfl rfl (.cons rfl rfl (.cons rfl rfl .nil)))) (.cons rfl rfl rfl (.cons rfl rfl rfl (.cons (by exact bB (fun i _=>sk_no (.inl hcc))) rfl (rowB_low _) .nil)))),?_⟩⟩
  omega
 have e:k0=p.size:=by omega
 subst e
 refine ⟨.inl rfl,_,OutsH.of [] (ResIs.res Tryz.results142 .nil) rfl ⟨.same rfl (by decide),.same rfl (by decide),.same rfl (by decide),trivial⟩ .same,?_⟩
 rfl
theorem like1_c (p:ByteArray) (hp:p.size≤140737488351232) (F:Nat→Bool):HCall Tryz.prog 142 [.ptr 1000000 0 0,.ptr 1000001 0 0] [(1000000,⟨0,[.v (.string p)],0,false⟩),(1000001,⟨0,[.sl 1000002 0 0 (p.size+1)],0,false⟩),(1000002,⟨0,rowB (p.size+1) F,1,false⟩)] [(1000000,some ⟨0,[.v (.string p)],0,false⟩),(1000001,some ⟨0,[.sl 1000002 0 0 (p.size+1)],0,false⟩),(1000002,some ⟨0,rowB (p.size+1) (skF p F p.size),1,false⟩)] (.tup []):=by
 obtain ⟨_,rfl,h⟩:=like1_h p hp F; exact h
set_option maxRecDepth 100000 in
set_option maxHeartbeats 4000000 in
theorem likeE_p (s:ByteArray) (hs:FitS s) (p:ByteArray) (hp:FitS p):PRet Tryz.prog 106 [.v (.string s),.v (.string p)] (fun q=>q=.v (.bool (likeS s p))):=by
 have hs1:s.size≤140737488351232:=hs
 have hp1:p.size≤140737488351232:=hp
 refine ovT [13,15,16,18,27,35,36,45,55,59,64,65,100015,100045,100055] [22] Tryz.func106 rfl rfl ?_
 refine ⟨by omega,?_⟩
 refine OpG.nw (LOp.makeB (len:=p.size+1) 1 Tryz.underlying183 sz4 zr4 by4 rfl rfl (by omega) (by omega) (by omega)) rfl ?_
 refine OpG.lk (LOp.indexB (i:=0) Tryz.underlying183 sz4 rfl rfl (by omega) (by omega) rfl) ?_
 refine OpG.wr (LOp.storeB sz4 rfl rfl rfl (by omega)) rfl ?_
 refine OpG.lk (LOp.mkFn0 rfl) ?_
 refine OpG.mk _ _ _ 3 (LOp.callVH [(1000000,0),(1000001,2),(1000002,1)] (by kernel_rfl) (like1_c p hp1 (fun k=>if k=0 then true else false)) rfl rfl rfl rfl rfl ⟨rfl,rfl,ren_row,trivial⟩ ⟨⟨rfl,.inl rfl⟩,⟨rfl,.inl rfl⟩,ok_row,trivial⟩ ⟨rfl,rfl,rowB_in _,trivial⟩ rfl rfl rfl rfl (del3 rfl rfl rfl rfl rfl) rfl) rfl rfl ?_
 refine LpG.on (fun k0:Nat=>(⟨fL [(0,.v (.string s)),(3,.ptr 0 0 0),(5,.ptr 2 0 0),(6,.clo 142 [.ptr 0 0 0,.ptr 2 0 0]),(20,.v (.int .i64 ((s.size:Nat):Int))),(21,.v (.int .i64 ((k0:Nat):Int)))],hLz [(0,⟨0,[.v (.string p)],0,false⟩),(1,⟨0,rowB (p.size+1) (reachS s p k0),1,false⟩),(2,⟨0,[.sl 1 0 0 (p.size+1)],0,false⟩)],3⟩:St)) (fun k0=>(s.size - k0)) (fun k0=>(k0≤s.size)) 0 (cO (.cons rfl rfl (.cons rfl rfl (.cons rfl rfl (.cons rfl rfl (.cons rfl rfl (.cons rfl rfl .nil)))))) (.cons rfl rfl rfl (.cons (by exact bB (fun i hi=>(sk_end (by omega)).trans (init_reach i))) rfl (rowB_low _) (.cons rfl rfl rfl .nil)))) (Nat.zero_le _) ?_
 rintro k0 hinv
 have hgr_k0:s.size≤140737488355328:=Nat.le_trans hs (by decide)
 have hle_k0:=hinv
 refine cB (fun hc22=>?_) (fun hc22=>?_)
 ·have hlt22:k0 < s.size:=Int.ofNat_lt.1 (of_decide_eq_true hc22)
  refine ⟨by omega,?_⟩
  refine OpG.nw (LOp.makeB (len:=p.size+1) 3 Tryz.underlying183 sz4 zr4 by4 rfl rfl (by omega) (by omega) (by omega)) rfl ?_
  refine LpG.on (fun k2:Nat=>(⟨fL [(0,.v (.string s)),(3,.ptr 0 0 0),(5,.ptr 2 0 0),(6,.clo 142 [.ptr 0 0 0,.ptr 2 0 0]),(7,.v (.int .i64 ((k0:Nat):Int))),(8,.sl 3 0 0 (p.size+1)),(20,.v (.int .i64 ((s.size:Nat):Int))),(21,.v (.int .i64 ((k0:Nat):Int))),(29,.v (.int .i64 ((p.size:Nat):Int))),(30,.v (.int .i64 ((k2:Nat):Int)))],hLz [(0,⟨0,[.v (.string p)],0,false⟩),(1,⟨0,rowB (p.size+1) (reachS s p k0),1,false⟩),(2,⟨0,[.sl 1 0 0 (p.size+1)],0,false⟩),(3,⟨0,rowB (p.size+1) (nxF s p k0 (reachS s p k0) k2),1,false⟩)],4⟩:St)) (fun k2=>(p.size - k2)) (fun k2=>(k2≤p.size)) 0 (cO (.cons rfl rfl (.cons rfl rfl (.cons rfl rfl (.cons rfl rfl (.cons rfl rfl (.cons rfl rfl (.cons rfl rfl (.cons rfl rfl (.cons rfl rfl (.cons rfl rfl .nil)))))))))) (.cons rfl rfl rfl (.cons rfl rfl (rowB_low _) (.cons rfl rfl rfl (.cons (by exact bB (fun i _=>nxF_0)) rfl (rowB_low _) .nil))))) (Nat.zero_le _) ?_
  rintro k2 hinv
  have hgr_k2:p.size≤140737488355328:=Nat.le_trans hp (by decide)
  have hle_k2:=hinv
  refine cB (fun hc31=>?_) (fun hc31=>?_)
  ·have hlt31:k2 < p.size:=Int.ofNat_lt.1 (of_decide_eq_true hc31)
   refine OpG.lk (LOp.indexB (i:=k2) Tryz.underlying183 sz4 rfl rfl (by omega) (by omega) rfl) ?_
   refine OpG.lk (LOp.loadB row4 rfl rfl (by omega)) ?_
   refine cB (fun hc37=>?_) (fun hc37=>?_)
   ·have hnr:reachS s p k0 k2=false:=by simpa using hc37
    refine ⟨by omega,?_⟩
    refine ⟨(k2+1),by omega,(cO (.cons rfl rfl (.cons rfl rfl (.cons rfl rfl (.cons rfl rfl (.cons rfl rfl (.cons rfl rfl (.cons rfl rfl (.cons rfl rfl (.cons rfl rfl (.cons rfl rfl .nil)))))))))) (.cons rfl rfl rfl (.cons rfl rfl (rowB_low _) (.cons rfl rfl rfl (.cons (by exact bB (fun i _=>nx_nF hnr)) rfl (rowB_low _) .nil))))),?_⟩
    omega
   have hre:reachS s p k0 k2=true:=by simpa using hc37
   refine ⟨(by assumption),?_⟩
   refine cB (fun hc41=>?_) (fun hc41=>?_)
   ·have hcc:(bAt p k2).toNat=37:=by have h:=hc41; simp at h; omega
    refine OpG.lk (LOp.indexB (i:=k2) Tryz.underlying183 sz4 rfl rfl (by omega) (by omega) rfl) ?_
    refine OpG.wr (LOp.storeB sz4 rfl rfl rfl (by omega)) rfl ?_
    refine ⟨by omega,?_⟩
    refine ⟨(k2+1),by omega,(cO (.cons rfl rfl (.cons rfl rfl (.cons rfl rfl (.cons rfl rfl (.cons rfl rfl (.cons rfl rfl (.cons rfl rfl (.cons rfl rfl (.cons rfl rfl (.cons rfl rfl .nil)))))))))) (.cons rfl rfl rfl (.cons rfl rfl (rowB_low _) (.cons rfl rfl rfl (.cons (by exact bB (fun i _=>nx_hit hcc hre)) rfl (rowB_low _) .nil))))),?_⟩
    omega
   have hcc:¬ (bAt p k2).toNat=37:=by have h:=hc41; simp at h; omega
   refine cB (fun hc46=>?_) (fun hc46=>?_)
   ·have h95:(bAt p k2).toNat=95:=by have h:=hc46; simp at h; omega
    refine cB (fun hc46=>?_) (fun hc46=>?_)
    ·have h95:(bAt p k2).toNat=95:=by have h:=hc46; simp at h; omega
     refine ⟨by omega,?_⟩
     refine OpG.lk (LOp.indexB (i:=k2+1) Tryz.underlying183 sz4 rfl rfl (by omega) (by omega) rfl) ?_
     refine OpG.wr (LOp.storeB sz4 rfl rfl rfl (by omega)) rfl ?_
     refine ⟨by omega,?_⟩
     refine ⟨(k2+1),by omega,(cO (.cons rfl rfl (.cons rfl rfl (.cons rfl rfl (.cons rfl rfl (.cons rfl rfl (.cons rfl rfl (.cons rfl rfl (.cons rfl rfl (.cons rfl rfl (.cons rfl rfl .nil)))))))))) (.cons rfl rfl rfl (.cons rfl rfl (rowB_low _) (.cons rfl rfl rfl (.cons (by exact bB (fun i _=>nx_adv hcc hre (by first | exact .inl h95 | exact .inr hms))) rfl (rowB_low _) .nil))))),?_⟩
     omega
    have hms:¬ (bAt p k2).toNat=(bAt s k0).toNat:=by have h:=hc46; simp at h; omega
    try have h96:¬ (bAt p k2).toNat=95:=by have h:=hc46; simp at h; omega
    refine ⟨by omega,?_⟩
    refine ⟨(k2+1),by omega,(cO (.cons rfl rfl (.cons rfl rfl (.cons rfl rfl (.cons rfl rfl (.cons rfl rfl (.cons rfl rfl (.cons rfl rfl (.cons rfl rfl (.cons rfl rfl (.cons rfl rfl .nil)))))))))) (.cons rfl rfl rfl (.cons rfl rfl (rowB_low _) (.cons rfl rfl rfl (.cons (by (exfalso; omega)) rfl (rowB_low _) .nil))))),?_⟩
    omega
   have h95:¬ (bAt p k2).toNat=95:=by have h:=hc46; simp at h; omega
   try have h96:¬ (bAt p k2).toNat=95:=by have h:=hc46; simp at h; omega
   refine ⟨(by assumption),?_⟩
   refine cB (fun hc46=>?_) (fun hc46=>?_)
   ·have hms:(bAt p k2).toNat=(bAt s k0).toNat:=by have h:=hc46; simp at h; omega
    refine ⟨by omega,?_⟩
    refine OpG.lk (LOp.indexB (i:=k2+1) Tryz.underlying183 sz4 rfl rfl (by omega) (by omega) rfl) ?_
    refine OpG.wr (LOp.storeB sz4 rfl rfl rfl (by omega)) rfl ?_
    refine ⟨by omega,?_⟩
    refine ⟨(k2+1),by omega,(cO (.cons rfl rfl (.cons rfl rfl (.cons rfl rfl (.cons rfl rfl (.cons rfl rfl (.cons rfl rfl (.cons rfl rfl (.cons rfl rfl (.cons rfl rfl (.cons rfl rfl .nil)))))))))) (.cons rfl rfl rfl (.cons rfl rfl (rowB_low _) (.cons rfl rfl rfl (.cons (by exact bB (fun i _=>nx_adv hcc hre (by first | exact .inl h95 | exact .inr hms))) rfl (rowB_low _) .nil))))),?_⟩
    omega
   have hms:¬ (bAt p k2).toNat=(bAt s k0).toNat:=by have h:=hc46; simp at h; omega
   try have h96:¬ (bAt p k2).toNat=95:=by have h:=hc46; simp at h; omega
   refine ⟨by omega,?_⟩
   refine ⟨(k2+1),by omega,(cO (.cons rfl rfl (.cons rfl rfl (.cons rfl rfl (.cons rfl rfl (.cons rfl rfl (.cons rfl rfl (.cons rfl rfl (.cons rfl rfl (.cons rfl rfl (.cons rfl rfl .nil)))))))))) (.cons rfl rfl rfl (.cons rfl rfl (rowB_low _) (.cons rfl rfl rfl (.cons (by exact bB (fun i _=>nx_nM hcc h95 hms)) rfl (rowB_low _) .nil))))),?_⟩
   omega
  have hge31:¬ k2 < p.size:=fun h=>of_decide_eq_false hc31 (Int.ofNat_lt.2 h)
  have e:k2=p.size:=by omega
  subst e
  refine OpG.mk _ _ _ 4 (LOp.callVH [(1000000,0),(1000001,2),(1000002,3)] (by kernel_rfl) (like1_c p hp1 (nxF s p k0 (reachS s p k0) p.size)) rfl rfl rfl rfl rfl ⟨rfl,rfl,ren_row,trivial⟩ ⟨⟨rfl,.inl rfl⟩,⟨rfl,.inl rfl⟩,ok_row,trivial⟩ ⟨rfl,rfl,rowB_in _,trivial⟩ rfl rfl rfl rfl (del3 rfl rfl rfl rfl rfl) rfl) rfl rfl ?_
  refine RegG.via (fun _ h=>AWP.swap 1 3 (fl:=[(0,.v (.string s)),(3,.ptr 0 0 0),(5,.ptr 2 0 0),(6,.clo 142 [.ptr 0 0 0,.ptr 2 0 0]),(20,.v (.int .i64 ((s.size:Nat):Int))),(21,.v (.int .i64 ((k0:Nat):Int)))]) (hl:=[(0,⟨0,[.v (.string p)],0,false⟩),(2,⟨0,[.sl 3 0 0 (p.size+1)],0,false⟩),(3,⟨0,rowB (p.size+1) (reachS s p (k0+1)),1,false⟩)]) (u:=4) (cO (.cons rfl rfl (.cons rfl rfl (.cons rfl rfl (.cons rfl rfl (.cons rfl rfl (.cons rfl rfl .nil)))))) (.cons rfl rfl rfl (.cons rfl rfl rfl (.cons (bB (fun i hi=>(sk_end (by omega)).trans (next_reach i (by omega)))) rfl (rowB_low _) .nil)))) ⟨rfl,rfl,rfl,rfl,rfl,rfl,trivial⟩ ⟨rfl,rfl,rowB_in _,trivial⟩ (by decide) (by decide) (by decide) (fl':=[(0,.v (.string s)),(3,.ptr 0 0 0),(5,.ptr 2 0 0),(6,.clo 142 [.ptr 0 0 0,.ptr 2 0 0]),(20,.v (.int .i64 ((s.size:Nat):Int))),(21,.v (.int .i64 ((k0:Nat):Int)))]) (hl':=[(0,⟨0,[.v (.string p)],0,false⟩),(2,⟨0,[.sl 1 0 0 (p.size+1)],0,false⟩),(1,⟨0,rowB (p.size+1) (reachS s p (k0+1)),1,false⟩)]) rfl (by simp only [List.map,Blk.ren,rowB_ren]; rfl) h) ?_
  refine RegG.go ?_
  refine ⟨by omega,?_⟩
  refine ⟨(k0+1),by omega,(cO (.cons rfl rfl (.cons rfl rfl (.cons rfl rfl (.cons rfl rfl (.cons rfl rfl (.cons rfl rfl .nil)))))) (.cons rfl rfl rfl (.cons (by rfl) rfl (rowB_low _) (.cons rfl rfl rfl .nil)))),?_⟩
  omega
 have hge22:¬ k0 < s.size:=fun h=>of_decide_eq_false hc22 (Int.ofNat_lt.2 h)
 refine OpG.lk (LOp.indexB (i:=p.size) Tryz.underlying183 sz4 rfl rfl (by omega) (by omega) rfl) ?_
 refine OpG.lk (LOp.loadB row4 rfl rfl (by omega)) ?_
 refine rV Tryz.results106 rfl ?_
 have e:k0=s.size:=by omega
 subst e; exact vb_eq reach_end
end Go.Proofs.YtbhhmbchdponjaaGreatDoor
namespace Go.Proofs.YtbhhmbchdponjaaGreatDoor
set_option linter.unusedVariables false
set_option linter.unusedSimpArgs false
open Go.RowKit
theorem if_res7 {a b:Bool} {w:World}:(if a=false then Result.ok false w else Result.ok b w)=Result.ok (a&&b) w:=by cases a <;> rfl
set_option maxRecDepth 100000 in
theorem eqV_run (k1 i1 k2 i2:Int) (t1 t2:ByteArray) (w:World):(Op.equalIn 10000 74 (.agg #[.int .i64 k1,.int .i64 i1,.string t1]) (.agg #[.int .i64 k2,.int .i64 i2,.string t2])).run Tryz.prog w=.ok (k1==k2&&(i1==i2&&t1.toList==t2.toList)) w:=by
 rw [run_equalIn_agg w 9999 74 _ _ (show Tryz.prog.underlying 74=some (.struct (Tryz.prog.fieldsOf 74)) by kernel_rfl) (by kernel_rfl)]
 simp only [Program.fieldsOf,Tryz.underlying74]
 simp [Op.eqFields,part,run_equalIn_int _ 9998 3 _ _ _ _ Tryz.underlying3,run_equalIn_int _ 9998 2 _ _ _ _ Tryz.underlying2,run_equalIn_string _ 9998 9 _ _ Tryz.underlying9,if_res7]
theorem egV:Tryz.prog.eqGuardType Tryz.prog.depth 74=false:=by kernel_rfl
section
variable {τ:Nat→AV} {η:Heap} {d:Option Tmp} {ty:TypeId} {pos:String} {af:Array Edge} {g:Option (Nat×Bool)}
theorem LOp.eqVal {t':Nat} {x y:Operand} {k1 i1 k2 i2:Int} {t1 t2:ByteArray} (hx:aev τ x=.agg [.v (.int .i64 k1),.v (.int .i64 i1),.v (.string t1)]) (hy:aev τ y=.agg [.v (.int .i64 k2),.v (.int .i64 i2),.v (.string t2)]) :
 LOp Tryz.prog ⟨d,.binOp .eql 74 x y t',ty,pos,af,g⟩ τ η [] [] (.v (.bool (k1==k2&&(i1==i2&&t1.toList==t2.toList)))) :=
 .look [] fun C a _ hq _=>by
  have e1:=hq x (by simp [Op.operands])
  have e2:=hq y (by simp [Op.operands])
  rw [hx] at e1
  rw [hy] at e2
  have f1:=toVE_ok (y:=.agg #[.int .i64 k1,.int .i64 i1,.string t1]) e1 rfl
  have f2:=toVE_ok (y:=.agg #[.int .i64 k2,.int .i64 i2,.string t2]) e2 rfl
  refine ⟨_,?_,VR.v C _⟩
  simp only [execOp,f1,f2,Sem.run_bind,run_eqGuard_agg C.w .eql 74 x y _ _ egV,Result.andThen_ok,run_eql_struct,eqV_run,Sem.run_pure]
end
def prnB (s:ByteArray):Bool:=allN s.size (prnP s)
def emptyB (s:ByteArray):Bool:=s.toList==(⟨#[]⟩:ByteArray).toList
def valB (v:GVal):Bool:=if v.kind_=0 then (v.int_==0&&emptyB v.text_) else if v.kind_=1 then emptyB v.text_ else if v.kind_=2 then (v.int_==0&&prnB v.text_&&decide ((v.text_.size:Int)≤16)) else false
theorem valB_of {v:GVal} (h:valB v=true):(v.kind_=0∧v.int_=0)∨v.kind_=1∨(v.kind_=2∧v.int_=0∧v.text_.size≤16):=by
 unfold valB at h
 split at h
 ·simp at h; exact .inl ⟨by assumption,h.1⟩
 split at h
 ·exact .inr (.inl (by assumption))
 split at h
 ·simp at h; exact .inr (.inr ⟨by assumption,h.1.1,by omega⟩)
 cases h
def fitB (v:GVal) (x:PVar):Bool:=if valB v=true then (if v.kind_=0 then x.nl else if v.kind_=1 then (x.t==1&&decide (v.int_≥x.lo)&&decide (v.int_≤x.hi)) else (x.t==2&&decide ((v.text_.size:Int)≤x.mx))) else false
structure KE where
 k:Nat
 e:Int
theorem nb {b:Bool} (h:(!b)=false):b=true:=by cases b <;> simp_all
structure CFit (c:PCl):Prop where
 nul:c.nul.length≤140737488355328
 nn:c.nn.length≤140737488355328
 aux:c.aux.length≤140737488355328
 ints:c.ints.length≤140737488355328
 tests:c.tests.length≤140737488355328
 same:c.same.length≤140737488355328
 diff:c.diff.length≤140737488355328
 auxc:∀ a∈c.aux,a.of_.cs.length≤140737488355328
 intc:∀ a∈c.ints,a.l.cs.length≤140737488355328
 tes:∀ a∈c.tests,FitS a.s
theorem few_mk {c:PCl} (h:(c.nul.length:Int)+c.nn.length+c.aux.length+c.ints.length+c.tests.length+c.same.length+c.diff.length≤80) (h1:∀ a∈c.aux,(a.of_.cs.length:Int)≤400) (h2:∀ a∈c.ints,(a.l.cs.length:Int)≤400) (h3:∀ a∈c.tests,(a.s.size:Int)≤40):c.Ok :=
 ⟨by omega,by omega,by omega,by omega,by omega,by omega,by omega,fun a ha=>by have:=h1 a ha; omega,fun a ha=>by have:=h2 a ha; omega,fun a ha=>by have:=h3 a ha; omega⟩
theorem all_of {α:Type} {l:List α} {P:α→Prop} {k:Nat} (hk:¬ k < l.length) (h:∀ j (hl:j < l.length),j < k→P l[j]):∀ a∈l,P a:=fun a ha=>by
 obtain ⟨j,hj,rfl⟩:=List.getElem_of_mem ha; exact h j hj (by omega)
theorem few_nx {c:PCl} {s:KE} {q:Prop} (h:0≤s.e∧q∧s.e≤80+140737488355328 * s.k∧∀ j (hl:j < c.aux.length),j < s.k→(c.aux[j].of_.cs.length:Int)≤s.e) {hk:s.k < c.aux.length} (hn:c.aux[s.k].of_.cs.length≤140737488355328):0≤s.e+((c.aux[s.k].of_.cs.length:Nat):Int)∧q∧s.e+((c.aux[s.k].of_.cs.length:Nat):Int)≤80+140737488355328 * ((s.k+1:Nat):Int)∧∀ j (hl:j < c.aux.length),j < s.k+1→(c.aux[j].of_.cs.length:Int)≤s.e+((c.aux[s.k].of_.cs.length:Nat):Int):=by
 obtain ⟨h1,h2,h3,h4⟩:=h
 refine ⟨by omega,h2,by omega,fun j hl hj=>?_⟩
 rcases Nat.lt_succ_iff_lt_or_eq.1 hj with hj | rfl
 ·have:=h4 j hl hj; omega
 omega
theorem few_nx2 {c:PCl} {s:KE} {e:Int} (h0:0≤e) (h:e≤s.e∧s.e≤e+140737488355328 * s.k∧∀ j (hl:j < c.ints.length),j < s.k→(c.ints[j].l.cs.length:Int)≤s.e) {hk:s.k < c.ints.length} (hn:c.ints[s.k].l.cs.length≤140737488355328):e≤s.e+((c.ints[s.k].l.cs.length:Nat):Int)∧s.e+((c.ints[s.k].l.cs.length:Nat):Int)≤e+140737488355328 * ((s.k+1:Nat):Int)∧∀ j (hl:j < c.ints.length),j < s.k+1→(c.ints[j].l.cs.length:Int)≤s.e+((c.ints[s.k].l.cs.length:Nat):Int):=by
 obtain ⟨h1,h3,h4⟩:=h
 refine ⟨by omega,by omega,fun j hl hj=>?_⟩
 rcases Nat.lt_succ_iff_lt_or_eq.1 hj with hj | rfl
 ·have:=h4 j hl hj; omega
 omega
set_option maxRecDepth 100000 in
set_option maxHeartbeats 4000000 in
theorem printable04_p (s:ByteArray) (hs:FitS s):PRet Tryz.prog 129 [.v (.string s)] (fun r=>r=.v (.bool (prnB s))):=by
 refine ovT [] [] Tryz.func129 rfl rfl (LpG.on (fun k0:Nat=>(⟨fL [(0,.v (.string s)),(3,.v (.int .i64 ((k0:Nat):Int)))],hLz [],0⟩:St)) (fun k0=>(s.size - k0)) (fun k0=>(k0≤s.size∧∀ j (hl:j < s.size),j < k0→prnP s j=true)) 0 (cO (.cons rfl rfl (.cons rfl rfl .nil)) .nil) ⟨Nat.zero_le _,fun j _ h=>absurd h (Nat.not_lt_zero j)⟩ ?_)
 rintro k0 hinv
 have hgr_k0:s.size≤140737488355328:=Nat.le_trans hs (by decide)
 obtain ⟨hle_k0,hj_k0⟩:=hinv
 refine cL (fun hlt7=>?_) (fun hge7=>?_)
 ·refine ⟨(by assumption),cB (fun hg14=>?_) (fun hg14=>?_)⟩
  ·refine cT (rV Tryz.results129 rfl ?_)
   (refine vb_eq (Eq.symm (allN_hit hlt7 ?_)); simp only [prnP]; simp_all)
  refine ⟨(by assumption),cB (fun hc19=>?_) (fun hc19=>?_)⟩
  ·refine rV Tryz.results129 rfl ?_
   (refine vb_eq (Eq.symm (allN_hit hlt7 ?_)); simp only [prnP]; simp_all)
  refine ⟨by omega,⟨(k0+1),by omega,(cO (.cons rfl rfl (.cons rfl rfl .nil)) .nil),?_⟩⟩
  refine ⟨by omega,fun j hl h=>?_⟩
  rcases Nat.lt_succ_iff_lt_or_eq.1 h with h | rfl
  ·exact hj_k0 j hl h
  simp only [prnP]; simp_all
 exact rV Tryz.results129 rfl (vb_eq (Eq.symm (allN_end hle_k0 hge7 (fun j h=>hj_k0 j (by omega) h))))
set_option maxRecDepth 100000 in
set_option maxHeartbeats 4000000 in
theorem valid04x_p (v:GVal) (hv:FitVal v):PRet Tryz.prog 97 [.agg (gvA v)] (fun r=>r=.v (.bool (valB v))):=by
 refine ovT [] [] Tryz.func97 rfl rfl ?_
 refine cB (fun hc5=>?_) (fun hc5=>?_)
 ·have hq5:(v.kind_:Int)=(0:Int):=by simpa using hc5
  refine cB (fun hg10=>?_) (fun hg10=>?_)
  ·have hq10:(v.int_:Int)=(0:Int):=by simpa using hg10
   refine rV Tryz.results97 rfl ?_
   refine vb_eq ?_
   unfold valB emptyB
   simp_all; done
  have hq10:¬ ((v.int_:Int)=(0:Int)):=by simpa using hg10
  refine rV Tryz.results97 rfl ?_
  refine vb_eq ?_
  unfold valB emptyB
  simp_all; done
 have hq5:¬ ((v.kind_:Int)=(0:Int)):=by simpa using hc5
 refine cB (fun hc15=>?_) (fun hc15=>?_)
 ·have hq15:(v.kind_:Int)=(1:Int):=by simpa using hc15
  refine rV Tryz.results97 rfl ?_
  refine vb_eq ?_
  unfold valB emptyB
  simp_all; done
 have hq15:¬ ((v.kind_:Int)=(1:Int)):=by simpa using hc15
 refine cB (fun hc20=>?_) (fun hc20=>?_)
 ·have hq20:(v.kind_:Int)=(2:Int):=by simpa using hc20
  refine cB (fun hg25=>?_) (fun hg25=>?_)
  ·have hq25:(v.int_:Int)=(0:Int):=by simpa using hg25
   refine ArgG.mk (printable04_p v.text_ hv.text_) rfl ?_
   rintro _ rfl
   refine cB (fun hg30=>?_) (fun hg30=>?_)
   ·refine rV Tryz.results97 rfl ?_
    refine vb_eq ?_
    unfold valB emptyB
    simp_all; done
   refine rV Tryz.results97 rfl ?_
   refine vb_eq ?_
   unfold valB emptyB
   simp_all; done
  have hq25:¬ ((v.int_:Int)=(0:Int)):=by simpa using hg25
  refine cF (rV Tryz.results97 rfl ?_)
  refine vb_eq ?_
  unfold valB emptyB
  simp_all; done
 have hq20:¬ ((v.kind_:Int)=(2:Int)):=by simpa using hc20
 refine rV Tryz.results97 rfl ?_
 refine vb_eq ?_
 unfold valB emptyB
 simp_all; done
set_option maxRecDepth 100000 in
set_option maxHeartbeats 4000000 in
theorem fits04_p (v:GVal) (hv:FitVal v) (x:PVar):PRet Tryz.prog 59 [.agg (gvA v),.agg (vA x)] (fun r=>r=.v (.bool (fitB v x))):=by
 refine ovT [] [] Tryz.func59 rfl rfl ?_
 refine ArgG.mk (valid04x_p v hv) rfl ?_
 rintro _ rfl
 refine cB (fun hc7=>?_) (fun hc7=>?_)
 ·refine rV Tryz.results59 rfl ?_
  refine vb_eq ?_
  unfold fitB
  (simp_all; done)
 refine cB (fun hc10=>?_) (fun hc10=>?_)
 ·have hq10:(v.kind_:Int)=(0:Int):=by simpa using hc10
  refine rV Tryz.results59 rfl ?_
  refine vb_eq ?_
  unfold fitB
  (simp_all; done)
 have hq10:¬ ((v.kind_:Int)=(0:Int)):=by simpa using hc10
 refine cB (fun hc14=>?_) (fun hc14=>?_)
 ·have hq14:(v.kind_:Int)=(1:Int):=by simpa using hc14
  refine cB (fun hg19=>?_) (fun hg19=>?_)
  ·have hq19:(x.t:Int)=(1:Int):=by simpa using hg19
   refine cB (fun hg26=>?_) (fun hg26=>?_)
   ·have hq26:(v.int_:Int)≥(x.lo:Int):=of_decide_eq_true hg26
    refine rV Tryz.results59 rfl ?_
    refine vb_eq ?_
    unfold fitB
    (simp_all; done)
   have hq26:¬ ((v.int_:Int)≥(x.lo:Int)):=of_decide_eq_false hg26
   refine rV Tryz.results59 rfl ?_
   refine vb_eq ?_
   unfold fitB
   (simp_all; omega)
  have hq19:¬ ((x.t:Int)=(1:Int)):=by simpa using hg19
  refine cF (rV Tryz.results59 rfl ?_)
  refine vb_eq ?_
  unfold fitB
  (simp_all; done)
 have hq14:¬ ((v.kind_:Int)=(1:Int)):=by simpa using hc14
 refine cB (fun hg36=>?_) (fun hg36=>?_)
 ·have hq36:(x.t:Int)=(2:Int):=by simpa using hg36
  refine rV Tryz.results59 rfl ?_
  refine vb_eq ?_
  unfold fitB
  (simp_all; done)
 have hq36:¬ ((x.t:Int)=(2:Int)):=by simpa using hg36
 refine rV Tryz.results59 rfl ?_
 refine vb_eq ?_
 unfold fitB
 (simp_all; done)
set_option maxRecDepth 100000 in
set_option maxHeartbeats 4000000 in
theorem printableV_p (s:ByteArray) (hs:FitS s):PRet Tryz.prog 141 [.v (.string s)] (fun r=>r=.v (.bool (prnB s&&decide ((s.size:Int)≤16)))):=by
 refine ovT [] [] Tryz.func141 rfl rfl (LpG.on (fun k0:Nat=>(⟨fL [(0,.v (.string s)),(5,.v (.int .i64 ((s.size:Nat):Int))),(6,.v (.int .i64 ((k0:Nat):Int)))],hLz [],0⟩:St)) (fun k0=>(s.size - k0)) (fun k0=>(k0≤s.size∧∀ j (hl:j < s.size),j < k0→prnP s j=true)) 0 (cO (.cons rfl rfl (.cons rfl rfl (.cons rfl rfl .nil))) .nil) ⟨Nat.zero_le _,fun j _ h=>absurd h (Nat.not_lt_zero j)⟩ ?_)
 rintro k0 hinv
 have hgr_k0:s.size≤140737488355328:=Nat.le_trans hs (by decide)
 obtain ⟨hle_k0,hj_k0⟩:=hinv
 refine cL (fun hlt7=>?_) (fun hge7=>?_)
 ·refine ⟨(by assumption),cB (fun hg13=>?_) (fun hg13=>?_)⟩
  ·refine cT (rV Tryz.results141 rfl ?_)
   (refine vb_eq (Eq.symm ?_); rw [show prnB s=false from allN_hit hlt7 (by simp only [prnP]; simp_all)]; rfl)
  refine ⟨(by assumption),cB (fun hc18=>?_) (fun hc18=>?_)⟩
  ·refine rV Tryz.results141 rfl ?_
   (refine vb_eq (Eq.symm ?_); rw [show prnB s=false from allN_hit hlt7 (by simp only [prnP]; simp_all)]; rfl)
  refine ⟨by omega,⟨(k0+1),by omega,(cO (.cons rfl rfl (.cons rfl rfl (.cons rfl rfl .nil))) .nil),?_⟩⟩
  refine ⟨by omega,fun j hl h=>?_⟩
  rcases Nat.lt_succ_iff_lt_or_eq.1 h with h | rfl
  ·exact hj_k0 j hl h
  simp only [prnP]; simp_all
 refine rV Tryz.results141 rfl ?_
 (refine vb_eq ?_; rw [show prnB s=true from allN_end hle_k0 hge7 (fun j h=>hj_k0 j (by omega) h)]; simp; done)
set_option maxRecDepth 100000 in
set_option maxHeartbeats 4000000 in
theorem validV_p (v:GVal) (hv:FitVal v):PRet Tryz.prog 104 [.agg (gvA v)] (fun r=>r=.v (.bool (valB v))):=by
 refine ovT [] [] Tryz.func104 rfl rfl ?_
 refine cB (fun hc5=>?_) (fun hc5=>?_)
 ·have hq5:(v.kind_:Int)=(0:Int):=by simpa using hc5
  refine OpG.lk (LOp.eqVal rfl rfl) ?_
  refine rV Tryz.results104 rfl ?_
  refine vb_eq ?_
  unfold valB emptyB
  (simp_all; done)
 have hq5:¬ ((v.kind_:Int)=(0:Int)):=by simpa using hc5
 refine cB (fun hc10=>?_) (fun hc10=>?_)
 ·have hq10:(v.kind_:Int)=(1:Int):=by simpa using hc10
  refine rV Tryz.results104 rfl ?_
  refine vb_eq ?_
  unfold valB emptyB
  (simp_all; done)
 have hq10:¬ ((v.kind_:Int)=(1:Int)):=by simpa using hc10
 refine cB (fun hc15=>?_) (fun hc15=>?_)
 ·have hq15:(v.kind_:Int)=(2:Int):=by simpa using hc15
  refine cB (fun hg20=>?_) (fun hg20=>?_)
  ·have hq20:(v.int_:Int)=(0:Int):=by simpa using hg20
   refine ArgG.mk (printableV_p v.text_ hv.text_) rfl ?_
   rintro _ rfl
   refine rV Tryz.results104 rfl ?_
   refine vb_eq ?_
   unfold valB emptyB
   (simp_all; done)
  have hq20:¬ ((v.int_:Int)=(0:Int)):=by simpa using hg20
  refine rV Tryz.results104 rfl ?_
  refine vb_eq ?_
  unfold valB emptyB
  (simp_all; done)
 have hq15:¬ ((v.kind_:Int)=(2:Int)):=by simpa using hc15
 refine rV Tryz.results104 rfl ?_
 refine vb_eq ?_
 unfold valB emptyB
 (simp_all; done)
set_option maxRecDepth 100000 in
set_option maxHeartbeats 4000000 in
theorem fitsV_p (v:GVal) (hv:FitVal v) (x:PVar):PRet Tryz.prog 71 [.agg (gvA v),.agg (vA x)] (fun r=>r=.v (.bool (fitB v x))):=by
 refine ovT [] [] Tryz.func71 rfl rfl ?_
 refine ArgG.mk (validV_p v hv) rfl ?_
 rintro _ rfl
 refine cB (fun hc7=>?_) (fun hc7=>?_)
 ·refine rV Tryz.results71 rfl ?_
  refine vb_eq ?_
  unfold fitB
  (simp_all; done)
 refine cB (fun hc10=>?_) (fun hc10=>?_)
 ·have hq10:(v.kind_:Int)=(0:Int):=by simpa using hc10
  refine rV Tryz.results71 rfl ?_
  refine vb_eq ?_
  unfold fitB
  (simp_all; done)
 have hq10:¬ ((v.kind_:Int)=(0:Int)):=by simpa using hc10
 refine cB (fun hc14=>?_) (fun hc14=>?_)
 ·have hq14:(v.kind_:Int)=(1:Int):=by simpa using hc14
  refine cB (fun hg19=>?_) (fun hg19=>?_)
  ·have hq19:(x.t:Int)=(1:Int):=by simpa using hg19
   refine cB (fun hg26=>?_) (fun hg26=>?_)
   ·have hq26:(v.int_:Int)≥(x.lo:Int):=of_decide_eq_true hg26
    refine rV Tryz.results71 rfl ?_
    refine vb_eq ?_
    unfold fitB
    (simp_all; done)
   have hq26:¬ ((v.int_:Int)≥(x.lo:Int)):=of_decide_eq_false hg26
   refine rV Tryz.results71 rfl ?_
   refine vb_eq ?_
   unfold fitB
   (simp_all; omega)
  have hq19:¬ ((x.t:Int)=(1:Int)):=by simpa using hg19
  refine cF (rV Tryz.results71 rfl ?_)
  refine vb_eq ?_
  unfold fitB
  (simp_all; done)
 have hq14:¬ ((v.kind_:Int)=(1:Int)):=by simpa using hc14
 refine cB (fun hg36=>?_) (fun hg36=>?_)
 ·have hq36:(x.t:Int)=(2:Int):=by simpa using hg36
  refine rV Tryz.results71 rfl ?_
  refine vb_eq ?_
  unfold fitB
  (simp_all; done)
 have hq36:¬ ((x.t:Int)=(2:Int)):=by simpa using hg36
 refine rV Tryz.results71 rfl ?_
 refine vb_eq ?_
 unfold fitB
 (simp_all; done)
set_option maxRecDepth 100000 in
set_option maxHeartbeats 4000000 in
theorem right26_p (l:List PVar) (hl:FitL l (fun y=>True)):PRet Tryz.prog 29 [.tree 5 (l.map vA)] (fun r=>∃ b:Bool,r=.v (.bool b)∧(b=true→l.length≤8)):=by
 refine ovT [] [] Tryz.func29 rfl rfl ?_
 refine LpG.on (fun k0:Nat=>(⟨fL [(0,.tree 5 (l.map vA)),(3,.v (.int .i64 ((k0:Nat):Int)))],hLz [],0⟩:St)) (fun k0=>(l.length - k0)) (fun k0=>(k0≤l.length)) 0 (cO (.cons rfl rfl (.cons rfl rfl .nil)) .nil) (Nat.zero_le _) ?_
 rintro k0 hinv
 have hgr_k0:l.length≤140737488355328:=hl.1
 have hle_k0:=hinv
 refine LenG.of (cB (fun hc10=>?_) (fun hc10=>?_))
 ·have hlt10:k0 < l.length:=Int.ofNat_lt.1 (of_decide_eq_true hc10)
  refine IdxG.of (by assumption) (cB (fun hg20=>?_) (fun hg20=>?_))
  ·have hq20:(l[k0].t:Int)=(1:Int):=by simpa using hg20
   refine cB (fun hg25=>?_) (fun hg25=>?_)
   ·have hq25:(l[k0].lo:Int)≥((-2147483648):Int):=of_decide_eq_true hg25
    refine cB (fun hg32=>?_) (fun hg32=>?_)
    ·have hq32:(l[k0].lo:Int)≤(l[k0].hi:Int):=of_decide_eq_true hg32
     refine cB (fun hg40=>?_) (fun hg40=>?_)
     ·have hq40:(l[k0].t:Int)=(2:Int):=by simpa using hg40
      refine cB (fun hg45=>?_) (fun hg45=>?_)
      ·have hq45:(l[k0].mx:Int)≥(0:Int):=of_decide_eq_true hg45
       refine cB (fun hg52=>?_) (fun hg52=>?_)
       ·refine cB (fun hc55=>?_) (fun hc55=>?_)
        ·exact rV Tryz.results29 rfl bF
        refine ⟨by omega,?_⟩
        refine ⟨(k0+1),by omega,(cO (.cons rfl rfl (.cons rfl rfl .nil)) .nil),?_⟩
        omega
       refine cF ⟨by omega,⟨(k0+1),by omega,(cO (.cons rfl rfl (.cons rfl rfl .nil)) .nil),?_⟩⟩
       omega
      have hq45:¬ ((l[k0].mx:Int)≥(0:Int)):=of_decide_eq_false hg45
      refine cB (fun hg52=>?_) (fun hg52=>?_)
      ·exact cT (rV Tryz.results29 rfl bF)
      refine cF ⟨by omega,⟨(k0+1),by omega,(cO (.cons rfl rfl (.cons rfl rfl .nil)) .nil),?_⟩⟩
      omega
     have hq40:¬ ((l[k0].t:Int)=(2:Int)):=by simpa using hg40
     refine cF (cB (fun hg52=>?_) (fun hg52=>?_))
     ·exact cT (rV Tryz.results29 rfl bF)
     refine cF ⟨by omega,⟨(k0+1),by omega,(cO (.cons rfl rfl (.cons rfl rfl .nil)) .nil),?_⟩⟩
     omega
    have hq32:¬ ((l[k0].lo:Int)≤(l[k0].hi:Int)):=of_decide_eq_false hg32
    refine cB (fun hg40=>?_) (fun hg40=>?_)
    ·have hq40:(l[k0].t:Int)=(2:Int):=by simpa using hg40
     refine cB (fun hg45=>?_) (fun hg45=>?_)
     ·have hq45:(l[k0].mx:Int)≥(0:Int):=of_decide_eq_true hg45
      refine cT (cB (fun hc55=>?_) (fun hc55=>?_))
      ·exact rV Tryz.results29 rfl bF
      refine ⟨by omega,?_⟩
      refine ⟨(k0+1),by omega,(cO (.cons rfl rfl (.cons rfl rfl .nil)) .nil),?_⟩
      omega
     have hq45:¬ ((l[k0].mx:Int)≥(0:Int)):=of_decide_eq_false hg45
     refine cT (cT ?_)
     exact rV Tryz.results29 rfl bF
    have hq40:¬ ((l[k0].t:Int)=(2:Int)):=by simpa using hg40
    refine cF (cT ?_)
    exact cT (rV Tryz.results29 rfl bF)
   have hq25:¬ ((l[k0].lo:Int)≥((-2147483648):Int)):=of_decide_eq_false hg25
   refine cF (cB (fun hg40=>?_) (fun hg40=>?_))
   ·have hq40:(l[k0].t:Int)=(2:Int):=by simpa using hg40
    refine cB (fun hg45=>?_) (fun hg45=>?_)
    ·have hq45:(l[k0].mx:Int)≥(0:Int):=of_decide_eq_true hg45
     refine cT (cB (fun hc55=>?_) (fun hc55=>?_))
     ·exact rV Tryz.results29 rfl bF
     refine ⟨by omega,?_⟩
     refine ⟨(k0+1),by omega,(cO (.cons rfl rfl (.cons rfl rfl .nil)) .nil),?_⟩
     omega
    have hq45:¬ ((l[k0].mx:Int)≥(0:Int)):=of_decide_eq_false hg45
    refine cT (cT ?_)
    exact rV Tryz.results29 rfl bF
   have hq40:¬ ((l[k0].t:Int)=(2:Int)):=by simpa using hg40
   refine cF (cT ?_)
   exact cT (rV Tryz.results29 rfl bF)
  have hq20:¬ ((l[k0].t:Int)=(1:Int)):=by simpa using hg20
  refine cF (cF ?_)
  refine cB (fun hg40=>?_) (fun hg40=>?_)
  ·have hq40:(l[k0].t:Int)=(2:Int):=by simpa using hg40
   refine cB (fun hg45=>?_) (fun hg45=>?_)
   ·have hq45:(l[k0].mx:Int)≥(0:Int):=of_decide_eq_true hg45
    refine cT (cB (fun hc55=>?_) (fun hc55=>?_))
    ·exact rV Tryz.results29 rfl bF
    refine ⟨by omega,?_⟩
    refine ⟨(k0+1),by omega,(cO (.cons rfl rfl (.cons rfl rfl .nil)) .nil),?_⟩
    omega
   have hq45:¬ ((l[k0].mx:Int)≥(0:Int)):=of_decide_eq_false hg45
   refine cT (cT ?_)
   exact rV Tryz.results29 rfl bF
  have hq40:¬ ((l[k0].t:Int)=(2:Int)):=by simpa using hg40
  refine cF (cT ?_)
  exact cT (rV Tryz.results29 rfl bF)
 have hge10:¬ k0 < l.length:=fun h=>of_decide_eq_false hc10 (Int.ofNat_lt.2 h)
 exact LenG.of (rV Tryz.results29 rfl ⟨_,rfl,fun h=>by have h:=of_decide_eq_true h; omega⟩)
set_option maxRecDepth 100000 in
set_option maxHeartbeats 4000000 in
theorem few26_p (c:PCl) (hc:CFit c):PRet Tryz.prog 30 [.agg (clA c)] (fun r=>∃ b:Bool,r=.v (.bool b)∧(b=true→c.Ok)):=by
 have h1:=hc.nul
 have h2:=hc.nn
 have h3:=hc.aux
 have h4:=hc.ints
 have h5:=hc.tests
 have h6:=hc.same
 have h7:=hc.diff
 refine ovT [] [] Tryz.func30 rfl rfl (LenG.of ?_)
 refine LenG.of ⟨by omega,LenG.of ?_⟩
 refine ⟨by omega,LenG.of ?_⟩
 refine ⟨by omega,LenG.of ?_⟩
 refine ⟨by omega,LenG.of ?_⟩
 refine ⟨by omega,LenG.of ?_⟩
 refine ⟨by omega,cD (fun hq35=>?_) (fun hq35=>?_)⟩
 ·exact rV Tryz.results30 rfl bF
 refine LpG.on (fun k0:KE=>(⟨fL [(1,.ptr 0 0 0),(3,.v (.int .i64 k0.e)),(4,.v (.int .i64 ((k0.k:Nat):Int)))],hLz [(0,⟨0,clA c,0,false⟩)],1⟩:St)) (fun k0=>(c.aux.length - k0.k)) (fun k0=>(k0.k≤c.aux.length∧(0≤k0.e∧((c.nul.length:Int)+c.nn.length+c.aux.length+c.ints.length+c.tests.length+c.same.length+c.diff.length)≤80∧k0.e≤80+140737488355328 * k0.k∧∀ j (hl:j < c.aux.length),j < k0.k→(c.aux[j].of_.cs.length:Int)≤k0.e))) (⟨0,((c.nul.length:Int)+c.nn.length+c.aux.length+c.ints.length+c.tests.length+c.same.length+c.diff.length)⟩:KE) (cO (.cons rfl rfl (.cons rfl rfl (.cons rfl rfl .nil))) (.cons rfl rfl rfl .nil)) ⟨Nat.zero_le _,⟨by show (0:Int)≤((c.nul.length:Int)+c.nn.length+c.aux.length+c.ints.length+c.tests.length+c.same.length+c.diff.length); omega,by omega,by show ((c.nul.length:Int)+c.nn.length+c.aux.length+c.ints.length+c.tests.length+c.same.length+c.diff.length)≤(80:Int)+140737488355328 * ((0:Nat):Int); omega,fun j _ h=>absurd h (Nat.not_lt_zero j)⟩⟩ ?_
 rintro k0 hinv
 obtain ⟨hle_k0,hi_k0⟩:=hinv
 refine LenG.of (cL (fun hlt40=>?_) (fun hge40=>?_))
 ·have hac:=hc.auxc _ (List.getElem_mem hlt40)
  refine IdxG.of (by assumption) (LenG.of ?_)
  refine ⟨by omega,⟨by omega,?_⟩⟩
  refine ⟨(⟨k0.k+1,(k0.e+(((c.aux[k0.k].of_.cs.length:Nat)):Int))⟩:KE),(by show c.aux.length - (k0.k+1) < c.aux.length - k0.k; omega),(cO (.cons rfl rfl (.cons rfl rfl (.cons rfl rfl .nil))) (.cons rfl rfl rfl .nil)),⟨by show k0.k+1≤_; omega,?_⟩⟩
  exact few_nx hi_k0 hac
 refine LpG.on (fun k2:KE=>(⟨fL [(1,.ptr 0 0 0),(3,.v (.int .i64 k2.e)),(5,.v (.int .i64 ((k2.k:Nat):Int)))],hLz [(0,⟨0,clA c,0,false⟩)],1⟩:St)) (fun k2=>(c.ints.length - k2.k)) (fun k2=>(k2.k≤c.ints.length∧(k0.e≤k2.e∧k2.e≤k0.e+140737488355328 * k2.k∧∀ j (hl:j < c.ints.length),j < k2.k→(c.ints[j].l.cs.length:Int)≤k2.e))) (⟨0,k0.e⟩:KE) (cO (.cons rfl rfl (.cons rfl rfl (.cons rfl rfl .nil))) (.cons rfl rfl rfl .nil)) ⟨Nat.zero_le _,⟨Int.le_refl _,by show k0.e≤k0.e+140737488355328 * ((0:Nat):Int); omega,fun j _ h=>absurd h (Nat.not_lt_zero j)⟩⟩ ?_
 rintro k2 hinv
 obtain ⟨hle_k2,hi_k2⟩:=hinv
 refine LenG.of (cL (fun hlt57=>?_) (fun hge57=>?_))
 ·have hac:=hc.intc _ (List.getElem_mem hlt57)
  refine IdxG.of (by assumption) (LenG.of ?_)
  refine ⟨by omega,⟨by omega,?_⟩⟩
  refine ⟨(⟨k2.k+1,(k2.e+(((c.ints[k2.k].l.cs.length:Nat)):Int))⟩:KE),(by show c.ints.length - (k2.k+1) < c.ints.length - k2.k; omega),(cO (.cons rfl rfl (.cons rfl rfl (.cons rfl rfl .nil))) (.cons rfl rfl rfl .nil)),⟨by show k2.k+1≤_; omega,?_⟩⟩
  exact few_nx2 hi_k0.1 hi_k2 hac
 refine LpG.on (fun k4:Nat=>(⟨fL [(1,.ptr 0 0 0),(3,.v (.int .i64 k2.e)),(6,.v (.int .i64 ((k4:Nat):Int)))],hLz [(0,⟨0,clA c,0,false⟩)],1⟩:St)) (fun k4=>(c.tests.length - k4)) (fun k4=>(k4≤c.tests.length∧∀ j (hl:j < c.tests.length),j < k4→(c.tests[j].s.size:Int)≤40)) 0 (cO (.cons rfl rfl (.cons rfl rfl (.cons rfl rfl .nil))) (.cons rfl rfl rfl .nil)) ⟨Nat.zero_le _,fun j _ h=>absurd h (Nat.not_lt_zero j)⟩ ?_
 rintro k4 hinv
 obtain ⟨hle_k4,hj_k4⟩:=hinv
 refine LenG.of (cL (fun hlt74=>?_) (fun hge74=>?_))
 ·refine IdxG.of (by assumption) (cD (fun hq84=>?_) (fun hq84=>?_))
  ·exact rV Tryz.results30 rfl bF
  refine ⟨by omega,⟨(k4+1),by omega,(cO (.cons rfl rfl (.cons rfl rfl (.cons rfl rfl .nil))) (.cons rfl rfl rfl .nil)),?_⟩⟩
  refine ⟨by omega,fun j hl h=>?_⟩
  rcases Nat.lt_succ_iff_lt_or_eq.1 h with h | rfl
  ·exact hj_k4 j hl h
  omega
 exact rV Tryz.results30 rfl ⟨_,rfl,fun h=>few_mk hi_k0.2.1 (fun a ha=>by have h8:=of_decide_eq_true h; have h9:=all_of (P:=fun a:PAux=>(a.of_.cs.length:Int)≤k0.e) hge40 hi_k0.2.2.2 a ha; have:=hi_k2.1; omega) (fun a ha=>by have h8:=of_decide_eq_true h; have h9:=all_of (P:=fun a:PCon=>(a.l.cs.length:Int)≤k2.e) hge57 hi_k2.2.2 a ha; omega) (all_of (P:=fun a:PTest=>(a.s.size:Int)≤40) (by assumption) hj_k4)⟩
set_option maxRecDepth 100000 in
set_option maxHeartbeats 4000000 in
theorem case26_p (l:List PVar) (hl:FitL l (fun y=>True)) (c:PCl) (hc:CFit c):PRet Tryz.prog 13 [.tree 5 (l.map vA),.agg (clA c)] (fun r=>∃ b:Bool,r=.v (.bool b)∧(b=true→l.length≤8∧c.Ok∧clB c l=true)):=by
 refine ovT [] [] Tryz.func13 rfl rfl (ArgG.mk (right26_p l hl) rfl ?_)
 rintro _ ⟨b0,rfl,hb0⟩
 refine cB (fun hg7=>?_) (fun hg7=>?_)
 ·refine ArgG.mk (few26_p c hc) rfl ?_
  rintro _ ⟨b1,rfl,hb1⟩
  refine cB (fun hg11=>?_) (fun hg11=>?_)
  ·refine ArgG.mk (PRet.of_call (cl_p c l (hb1 (by assumption)) (by have:=hb0 (by assumption); omega))) rfl ?_
   rintro _ rfl
   exact rV Tryz.results13 rfl ⟨_,rfl,fun h=>⟨hb0 (by assumption),hb1 (by assumption),h⟩⟩
  exact rV Tryz.results13 rfl bF
 exact cF (rV Tryz.results13 rfl bF)
end Go.Proofs.YtbhhmbchdponjaaGreatDoor
