/- Texts of the claim. -/
import Derived.KernelRfl
import Derived.IntWalk
import Derived.Test.YtfelpgeolclnbaaGreatDoorProg
import Derived.Test.YtfelpgeolclnbaaGreatDoorE3
namespace Go.Proofs.YtfelpgeolclnbaaGreatDoor
set_option linter.unusedVariables false
set_option linter.unusedSimpArgs false
open Go.RowKit
section
variable {P:Program} {τ:Nat→AV} {η:Heap} {d:Option Tmp} {ty:TypeId} {pos:String} {af:Array Edge} {g:Option (Nat×Bool)}
theorem LOp.subOne {t t':TypeId} {x y:Operand} {k k':Nat} (hx:aev τ x=.v (.int .i64 ((k:Nat):Int))) (hy:aev τ y=.v (.int .i64 1)) (hk:k=k'+1) (hb:k < 1000000) :
  LOp P ⟨d,.binOp .sub t x y t',ty,pos,af,g⟩ τ η [] [] (.v (.int .i64 ((k':Nat):Int))):=by
 have:=LOp.subI (P:=P) (τ:=τ) (η:=η) (d:=d) (ty:=ty) (pos:=pos) (af:=af) (g:=g) (t:=t) (t':=t') hx hy (by omega) (by omega)
 rwa [show ((k:Nat):Int) - 1=((k':Nat):Int) by omega] at this
theorem LOp.indexI {α:Type} {t e n:Nat} {x i:Operand} {f:α→List AV} {l:List α} {v:Int} {j:Nat} (he:P.underlying t=some (.slice e)) (hs:sizeInfo P e=some n) (hx:aev τ x=.tree n (l.map f)) (hi:aev τ i=.v (.int .i64 v)) (hv:v=((j:Nat):Int)) (hj:j < l.length) :
  LOp P ⟨d,.indexAddr t x i,ty,pos,af,g⟩ τ η [] [] (.tp (f l[j]) 0):=by
 subst hv
 exact lI he hs hx hi hj
theorem LOp.indexArrT {t len e n j o:Nat} {x i:Operand} {cs:List AV} {k:IntKind} (hu:P.underlying t=some (.array len e)) (hs:sizeInfo P e=some n) (hx:aev τ x=.tp cs o) (hi:aev τ i=.v (.int k (Int.ofNat j))) (hj:Nat.blt j len=true) :
  LOp P ⟨d,.indexAddr t x i,ty,pos,af,g⟩ τ η [] [] (.tp cs (o+j * n)) :=
 indexArrE_ok (u:=0) (r:=⟨[],[],.tp cs (o+j * n),0⟩) (by unfold indexArrE; rw [hu]; simp only [hs,hi,hx,hj,cond_true])
theorem LOp.lenStr {t:Nat} {x:Operand} {s:ByteArray} {ats:Array TypeId} (ha:ats[0]? = some t) (hu:P.underlying t=some .string) (hx:aev τ x=.v (.string s)) :
  LOp P ⟨d,.call { callee:=.builtin .len,args:=#[x],argTypes:=ats },ty,pos,af,g⟩ τ η [] [] (.v (.int .i64 ((s.size:Nat):Int))) :=
 .look [] fun C a hg hxs _=>by
  have h1:=hxs x (by simp [Op.operands,Call.operands])
  rw [hx] at h1
  have e1:=h1.v_inv
  refine ⟨_,?_,VR.v C _⟩
  simp [execOp,e1,resolve,invoke,builtin,Builtin.len_,ha,run_underlying hu,goInt]
/-- The byte at a place. -/
def bAt (s:ByteArray) (k:Nat):UInt8:=s.data.getD k 0
theorem bAt_some {s:ByteArray} {k:Nat} (h:k < s.size):s[k]? = some (bAt s k):=by
 have h1:k < s.data.size:=h
 rw [getElem?_pos s k h]
 unfold bAt
 simp [Array.getD,h1]
 rw [dif_pos h]
 rfl
theorem LOp.indexStr {t k:Nat} {x i:Operand} {s:ByteArray} (hu:P.underlying t=some .string) (hx:aev τ x=.v (.string s)) (hi:aev τ i=.v (.int .i64 ((k:Nat):Int))) (hk:k < s.size) :
  LOp P ⟨d,.index t x i,ty,pos,af,g⟩ τ η [] [] (.v (.int .u8 (((bAt s k).toNat:Nat):Int))) :=
 .look [] fun C a hg hxs _=>by
  have h1:=hxs x (by simp [Op.operands])
  have h2:=hxs i (by simp [Op.operands])
  rw [hx] at h1
  rw [hi] at h2
  have e1:=h1.v_inv
  have e2:=h2.v_inv
  refine ⟨_,?_,VR.v C _⟩
  simp only [execOp,e1,e2,Instr.index,asIntOf,Sem.run_bind,Sem.run_pure,Result.andThen_ok,run_underlying hu]
  have h0:(0:Int)≤((k:Nat):Int):=Int.natCast_nonneg k
  simp only [h0,if_true,Int.toNat_natCast,bAt_some hk,Sem.run_pure,Result.andThen_ok]
end
theorem vb_eq {b c:Bool} (h:b=c):AV.v (.bool b)=AV.v (.bool c):=by rw [h]
theorem vi_eq {b c:Int} (h:b=c):AV.v (.int .i64 b)=AV.v (.int .i64 c):=by rw [h]
def allN (n:Nat) (p:Nat→Bool):Bool:=(List.range n).all p
theorem allN_hit {n k:Nat} {p:Nat→Bool} (h:k < n) (hp:p k=false):allN n p=false:=by
 unfold allN
 rw [List.all_eq_false]
 exact ⟨k,List.mem_range.2 h,by simp [hp]⟩
theorem allN_end {n k:Nat} {p:Nat→Bool} (h:k≤n) (h':¬ k < n) (hp:∀ j,j < k→p j=true):allN n p=true:=by
 unfold allN
 rw [List.all_eq_true]
 exact fun j hj=>hp j (by have:=List.mem_range.1 hj; omega)
theorem allN_iff {n:Nat} {p:Nat→Bool}:allN n p=true↔∀ j,j < n→p j=true:=by
 unfold allN
 rw [List.all_eq_true]
 exact ⟨fun h j hj=>h j (List.mem_range.2 hj),fun h j hj=>h j (List.mem_range.1 hj)⟩
def iA (n:Int):List AV:=[.v (.int .i64 n)]
abbrev isA (l:List Int):AV:=.tree 1 (l.map iA)
theorem getD_at {α:Type} {l:List α} {k:Nat} {d:α} (h:k < l.length):l.getD k d=l[k]:=by simp [List.getD,h]
theorem getD_none {α:Type} {l:List α} {k:Nat} {d:α} (h:¬ k < l.length):l.getD k d=d:=by simp [List.getD,List.getElem?_eq_none (Nat.le_of_not_lt h)]
/-- Does a list hold a number? -/
def hasP (l:List Int) (v:Int) (j:Nat):Bool:=!(l.getD j 0==v)
def hasB (l:List Int) (v:Int):Bool:=!allN l.length (hasP l v)
/-- Does it ascend, from 0 to n - 1? -/
def ascP (l:List Int) (n:Int) (j:Nat):Bool:=!(decide (l.getD j 0 < 0)||decide (l.getD j 0≥n)||(decide (0 < j)&&decide (l.getD (j - 1) 0≥l.getD j 0)))
def ascB (l:List Int) (n:Int):Bool:=allN l.length (ascP l n)
theorem mixed:Tryz.prog.follows .mixedOrders=true:=by kernel_rfl
theorem row3:rowOf Tryz.prog 3=some none:=by kernel_rfl
theorem sz3:sizeInfo Tryz.prog 3=some 1:=by kernel_rfl
set_option maxRecDepth 100000 in
set_option maxHeartbeats 4000000 in
theorem has_p (l:List Int) (v:Int) (hl:l.length≤1000):PCall Tryz.prog 70 [isA l,.v (.int .i64 v)] (.v (.bool (hasB l v))):=by
 refine pB Tryz.func70 rfl Tryz.ntmps70 (Nat.le_of_ble_eq_true rfl) ?_
 refine wS (wR ?_)
 refine oL (lA (a:=.v _) rfl) rfl rfl ?_
 refine oN (aN (wS (wS (wR ?_))))
 refine oL (lA (a:=.v _) rfl) rfl rfl ?_
 refine oN (aN (wB ?_))
 refine wL (fun n s=>∃ k:Nat,n=(l.length - k)∧s=⟨fL [(0,isA l),(1,.v (.int .i64 v)),(5,.v (.int .i64 ((k:Nat):Int)))],hLz [],0⟩∧(k≤l.length∧∀ j,j < k→hasP l v j=true)) (n:=(l.length - 0)) (s1:=⟨fL [(0,isA l),(1,.v (.int .i64 v)),(5,.v (.int .i64 ((0:Nat):Int)))],hLz [],0⟩) (cO (.cons rfl rfl (.cons rfl rfl (.cons rfl rfl .nil))) .nil) ⟨0,rfl,rfl,⟨Nat.zero_le _,fun j h=>absurd h (Nat.not_lt_zero j)⟩⟩ ?_
 rintro n s ⟨k,rfl,rfl,hinv⟩
 obtain ⟨hk,hj⟩:=hinv
 refine wS (wS (wR ?_))
 refine oL (lM (a:=.v _) rfl) rfl rfl ?_
 refine oL (lM (a:=.tree _ _) rfl) rfl rfl ?_
 refine oL (lT rfl Tryz.underlying70 rfl) rfl rfl ?_
 refine oL (lP rfl (fun _ _=>nofun) (fun _=>rfl)) rfl rfl ?_
 refine oN (aN ?_)
 refine wC rfl (fun hc9=>?_) (fun hc9=>?_)
 ·skip
  have hlt:k < l.length:=Int.ofNat_lt.1 (of_decide_eq_true hc9)
  refine wK (aN (wS (wB (wS (wR ?_)))))
  refine oL (lM (a:=.tree _ _) rfl) rfl rfl ?_
  refine oL (lM (a:=.v _) rfl) rfl rfl ?_
  refine oL (lI Tryz.underlying70 sz3 rfl rfl (by first | assumption | omega)) rfl rfl ?_
  refine oL (lE row3 rfl rfl) rfl rfl ?_
  refine oL (lM (a:=.v _) rfl) rfl rfl ?_
  refine oL (lP rfl (fun _ _=>nofun) (fun _=>rfl)) rfl rfl ?_
  refine oN (aN ?_)
  refine wC rfl (fun hc17=>?_) (fun hc17=>?_)
  ·skip
   refine wS (wR ?_)
   refine oL (lA (a:=.v _) rfl) rfl rfl ?_
   refine oN (aN ?_)
   refine wT (bR (aR (aR (bR (aR (?_))))))
   refine ⟨.inr rfl,oV Tryz.results70 rfl rfl ?_⟩
   refine vb_eq ?_
   unfold hasB
   rw [allN_hit hlt (by simp only [hasP,getD_at hlt]; simp_all)]
   rfl
  ·skip
   refine wK (bN (aN (wR ?_)))
   refine oL (lM (a:=.v _) rfl) rfl rfl ?_
   refine oL (lJ rfl rfl (by omega) (by omega)) rfl rfl ?_
   refine oL (lA (a:=.v _) rfl) rfl rfl ?_
   refine oN (aN ?_)
   refine ⟨(l.length - (k+1)),⟨fL [(0,isA l),(1,.v (.int .i64 v)),(5,.v (.int .i64 (((k+1):Nat):Int)))],hLz [],0⟩,by omega,(cO (.cons rfl rfl (.cons rfl rfl (.cons rfl rfl .nil))) .nil),(k+1),rfl,rfl,?_⟩
   refine ⟨by omega,fun j h=>?_⟩
   rcases Nat.lt_succ_iff_lt_or_eq.1 h with h | rfl
   ·exact hj j h
   ·simp only [hasP,getD_at hlt]; simp_all
 ·skip
  have hge:¬ k < l.length:=fun h=>of_decide_eq_false hc9 (Int.ofNat_lt.2 h)
  refine AWP.exit (aE (aE (bE ?_)))
  refine aN (wS (wR ?_))
  refine oL (lA (a:=.v _) rfl) rfl rfl ?_
  refine oN (aN ?_)
  refine wT (?_)
  refine ⟨.inr rfl,oV Tryz.results70 rfl rfl ?_⟩
  refine vb_eq ?_
  unfold hasB
  rw [allN_end hk hge hj]
  rfl
set_option maxRecDepth 100000 in
set_option maxHeartbeats 4000000 in
theorem asc_p (l:List Int) (v:Int) (hl:l.length≤1000):PCall Tryz.prog 37 [isA l,.v (.int .i64 v)] (.v (.bool (ascB l v))):=by
 refine pB Tryz.func37 rfl Tryz.ntmps37 (Nat.le_of_ble_eq_true rfl) ?_
 refine wS (wR ?_)
 refine oL (lA (a:=.v _) rfl) rfl rfl ?_
 refine oN (aN (wS (wS (wR ?_))))
 refine oL (lA (a:=.v _) rfl) rfl rfl ?_
 refine oN (aN (wB ?_))
 refine wL (fun n s=>∃ k:Nat,n=(l.length - k)∧s=⟨fL [(0,isA l),(1,.v (.int .i64 v)),(5,.v (.int .i64 ((k:Nat):Int)))],hLz [],0⟩∧(k≤l.length∧∀ j,j < k→ascP l v j=true)) (n:=(l.length - 0)) (s1:=⟨fL [(0,isA l),(1,.v (.int .i64 v)),(5,.v (.int .i64 ((0:Nat):Int)))],hLz [],0⟩) (cO (.cons rfl rfl (.cons rfl rfl (.cons rfl rfl .nil))) .nil) ⟨0,rfl,rfl,⟨Nat.zero_le _,fun j h=>absurd h (Nat.not_lt_zero j)⟩⟩ ?_
 rintro n s ⟨k,rfl,rfl,hinv⟩
 obtain ⟨hk,hj⟩:=hinv
 refine wS (wS (wR ?_))
 refine oL (lM (a:=.v _) rfl) rfl rfl ?_
 refine oL (lM (a:=.tree _ _) rfl) rfl rfl ?_
 refine oL (lT rfl Tryz.underlying70 rfl) rfl rfl ?_
 refine oL (lP rfl (fun _ _=>nofun) (fun _=>rfl)) rfl rfl ?_
 refine oN (aN ?_)
 refine wC rfl (fun hc9=>?_) (fun hc9=>?_)
 ·skip
  have hlt:k < l.length:=Int.ofNat_lt.1 (of_decide_eq_true hc9)
  refine wK (aN (wS (wB (wS (AWP.regD mixed ?_)))))
  refine qL (lM (a:=.tree _ _) rfl) rfl rfl ?_
  refine qL (lM (a:=.v _) rfl) rfl rfl ?_
  refine qL (lI Tryz.underlying70 sz3 rfl rfl (by first | assumption | omega)) rfl rfl ?_
  refine qL (lE row3 rfl rfl) rfl rfl ?_
  refine qL (lP rfl (fun _ _=>nofun) (fun _=>rfl)) rfl rfl ?_
  refine qL (lM (a:=.v _) rfl) rfl rfl ?_
  refine SeqC.splitB 17 rfl (fun hg17=>?_) (fun hg17=>?_)
  ·skip
   refine qS rfl rfl ?_
   refine qS rfl rfl ?_
   refine qS rfl rfl ?_
   refine qS rfl rfl ?_
   refine qS rfl rfl ?_
   refine qS rfl rfl ?_
   refine qL (LOp.pkT (a:=.v _) rfl (by first | rfl | assumption) rfl) rfl rfl ?_
   refine qL (lM (a:=.v _) rfl) rfl rfl ?_
   refine qS rfl rfl ?_
   refine qS rfl rfl ?_
   refine qS rfl rfl ?_
   refine qS rfl rfl ?_
   refine qS rfl rfl ?_
   refine qS rfl rfl ?_
   refine qS rfl rfl ?_
   refine qS rfl rfl ?_
   refine qS rfl rfl ?_
   refine qS rfl rfl ?_
   refine qS rfl rfl ?_
   refine qS rfl rfl ?_
   refine qS rfl rfl ?_
   refine qS rfl rfl ?_
   refine qL (LOp.pkT (a:=.v _) rfl (by first | rfl | assumption) rfl) rfl rfl ?_
   refine SeqC.nil ⟨by kernel_rfl,?_⟩
   refine aN ?_
   refine AWP.condT rfl ?_
   refine wS (wR ?_)
   refine oL (lA (a:=.v _) rfl) rfl rfl ?_
   refine oN (aN ?_)
   refine wT (bR (aR (aR (bR (aR (?_))))))
   refine ⟨.inr rfl,oV Tryz.results37 rfl rfl ?_⟩
   (refine vb_eq (Eq.symm (allN_hit hlt ?_)); (first | simp only [ascP,getD_at hlt,ek1] | simp only [ascP,getD_at hlt]); simp_all)
  ·skip
   refine qL (lM (a:=.tree _ _) rfl) rfl rfl ?_
   refine qL (lM (a:=.v _) rfl) rfl rfl ?_
   refine qL (lI Tryz.underlying70 sz3 rfl rfl (by first | assumption | omega)) rfl rfl ?_
   refine qL (lE row3 rfl rfl) rfl rfl ?_
   refine qL (lM (a:=.v _) rfl) rfl rfl ?_
   refine qL (lP rfl (fun _ _=>nofun) (fun _=>rfl)) rfl rfl ?_
   refine qL (lK rfl rfl rfl) rfl rfl ?_
   refine qL (lM (a:=.v _) rfl) rfl rfl ?_
   refine SeqC.splitB 25 rfl (fun hg25=>?_) (fun hg25=>?_)
   ·skip
    refine qS rfl rfl ?_
    refine qS rfl rfl ?_
    refine qS rfl rfl ?_
    refine qS rfl rfl ?_
    refine qS rfl rfl ?_
    refine qS rfl rfl ?_
    refine qS rfl rfl ?_
    refine qS rfl rfl ?_
    refine qS rfl rfl ?_
    refine qS rfl rfl ?_
    refine qS rfl rfl ?_
    refine qS rfl rfl ?_
    refine qS rfl rfl ?_
    refine qS rfl rfl ?_
    refine qL (LOp.pkT (a:=.v _) rfl (by first | rfl | assumption) rfl) rfl rfl ?_
    refine SeqC.nil ⟨by kernel_rfl,?_⟩
    refine aN ?_
    refine AWP.condT rfl ?_
    refine wS (wR ?_)
    refine oL (lA (a:=.v _) rfl) rfl rfl ?_
    refine oN (aN ?_)
    refine wT (bR (aR (aR (bR (aR (?_))))))
    refine ⟨.inr rfl,oV Tryz.results37 rfl rfl ?_⟩
    (refine vb_eq (Eq.symm (allN_hit hlt ?_)); (first | simp only [ascP,getD_at hlt,ek1] | simp only [ascP,getD_at hlt]); simp_all)
   ·skip
    refine qL (lM (a:=.v _) rfl) rfl rfl ?_
    refine qL (lP rfl (fun _ _=>nofun) (fun _=>rfl)) rfl rfl ?_
    refine qL (lM (a:=.v _) rfl) rfl rfl ?_
    refine SeqC.splitB 28 rfl (fun hg28=>?_) (fun hg28=>?_)
    ·skip
     obtain ⟨k',hk'⟩:∃ k',k=k'+1:=⟨k - 1,by simp at hg28; omega⟩
     have ek1:l.getD (k - 1) 0=l[k']'(by omega):=by rw [show k - 1=k' by omega]; exact getD_at (by omega)
     refine qL (lM (a:=.tree _ _) rfl) rfl rfl ?_
     refine qL (lM (a:=.v _) rfl) rfl rfl ?_
     refine qL (LOp.subOne rfl rfl hk' (by omega)) rfl rfl ?_
     refine qL (lI Tryz.underlying70 sz3 rfl rfl (by first | assumption | omega)) rfl rfl ?_
     refine qL (lE row3 rfl rfl) rfl rfl ?_
     refine qL (lM (a:=.tree _ _) rfl) rfl rfl ?_
     refine qL (lM (a:=.v _) rfl) rfl rfl ?_
     refine qL (lI Tryz.underlying70 sz3 rfl rfl (by first | assumption | omega)) rfl rfl ?_
     refine qL (lE row3 rfl rfl) rfl rfl ?_
     refine qL (lP rfl (fun _ _=>nofun) (fun _=>rfl)) rfl rfl ?_
     refine qL (lK rfl rfl rfl) rfl rfl ?_
     refine qL (lK rfl rfl rfl) rfl rfl ?_
     refine SeqC.nil ⟨by kernel_rfl,?_⟩
     refine aN ?_
     refine wC rfl (fun hc40=>?_) (fun hc40=>?_)
     ·skip
      refine wS (wR ?_)
      refine oL (lA (a:=.v _) rfl) rfl rfl ?_
      refine oN (aN ?_)
      refine wT (bR (aR (aR (bR (aR (?_))))))
      refine ⟨.inr rfl,oV Tryz.results37 rfl rfl ?_⟩
      (refine vb_eq (Eq.symm (allN_hit hlt ?_)); (first | simp only [ascP,getD_at hlt,ek1] | simp only [ascP,getD_at hlt]); simp_all)
     ·skip
      refine wK (bN (aN (wR ?_)))
      refine oL (lM (a:=.v _) rfl) rfl rfl ?_
      refine oL (lJ rfl rfl (by omega) (by omega)) rfl rfl ?_
      refine oL (lA (a:=.v _) rfl) rfl rfl ?_
      refine oN (aN ?_)
      refine ⟨(l.length - (k+1)),⟨fL [(0,isA l),(1,.v (.int .i64 v)),(5,.v (.int .i64 (((k+1):Nat):Int)))],hLz [],0⟩,by omega,(cO (.cons rfl rfl (.cons rfl rfl (.cons rfl rfl .nil))) .nil),(k+1),rfl,rfl,?_⟩
      refine ⟨by omega,fun j h=>?_⟩
      rcases Nat.lt_succ_iff_lt_or_eq.1 h with h | rfl
      ·exact hj j h
      ·(first | simp only [ascP,getD_at hlt,ek1] | simp only [ascP,getD_at hlt]); simp_all
    ·skip
     refine qS rfl rfl ?_
     refine qS rfl rfl ?_
     refine qS rfl rfl ?_
     refine qS rfl rfl ?_
     refine qS rfl rfl ?_
     refine qS rfl rfl ?_
     refine qS rfl rfl ?_
     refine qS rfl rfl ?_
     refine qS rfl rfl ?_
     refine qS rfl rfl ?_
     refine qL (LOp.pkF (a:=.v _) rfl (by first | rfl | assumption) rfl) rfl rfl ?_
     refine qL (lK rfl rfl rfl) rfl rfl ?_
     refine SeqC.nil ⟨by kernel_rfl,?_⟩
     refine aN ?_
     refine AWP.condF rfl ?_
     refine wK (bN (aN (wR ?_)))
     refine oL (lM (a:=.v _) rfl) rfl rfl ?_
     refine oL (lJ rfl rfl (by omega) (by omega)) rfl rfl ?_
     refine oL (lA (a:=.v _) rfl) rfl rfl ?_
     refine oN (aN ?_)
     refine ⟨(l.length - (k+1)),⟨fL [(0,isA l),(1,.v (.int .i64 v)),(5,.v (.int .i64 (((k+1):Nat):Int)))],hLz [],0⟩,by omega,(cO (.cons rfl rfl (.cons rfl rfl (.cons rfl rfl .nil))) .nil),(k+1),rfl,rfl,?_⟩
     refine ⟨by omega,fun j h=>?_⟩
     rcases Nat.lt_succ_iff_lt_or_eq.1 h with h | rfl
     ·exact hj j h
     ·(first | simp only [ascP,getD_at hlt,ek1] | simp only [ascP,getD_at hlt]); simp_all
 ·skip
  have hge:¬ k < l.length:=fun h=>of_decide_eq_false hc9 (Int.ofNat_lt.2 h)
  refine AWP.exit (aE (aE (bE ?_)))
  refine aN (wS (wR ?_))
  refine oL (lA (a:=.v _) rfl) rfl rfl ?_
  refine oN (aN ?_)
  refine wT (?_)
  refine ⟨.inr rfl,oV Tryz.results37 rfl rfl ?_⟩
  exact vb_eq (Eq.symm (allN_end hk hge hj))
end Go.Proofs.YtfelpgeolclnbaaGreatDoor
namespace Go.Proofs.YtfelpgeolclnbaaGreatDoor
set_option linter.unusedVariables false
set_option linter.unusedSimpArgs false
open Go.RowKit
structure PVar where
 (t lo hi mx:Int) (nl:Bool)
structure PCoef where
 (v n:Int)
structure PLin where
 (k:Int) (cs:List PCoef)
structure PAux where
 (of_:PLin) (by_ tx:Int)
structure PCon where
 (l:PLin) (eq:Bool)
structure PTest where
 (v kd:Int) (ng:Bool) (s:ByteArray)
structure PCl where
 (nul nn:List Int) (aux:List PAux) (ints:List PCon) (tests:List PTest) (same diff:List (Int×Int))
structure PPred where
 (tab cols:Int) (vars:List PVar) (cls:List PCl)
instance:Inhabited PVar:=⟨⟨0,0,0,0,false⟩⟩
instance:Inhabited PCoef:=⟨⟨0,0⟩⟩
instance:Inhabited PAux:=⟨⟨⟨0,[]⟩,0,0⟩⟩
instance:Inhabited PCon:=⟨⟨⟨0,[]⟩,false⟩⟩
instance:Inhabited PTest:=⟨⟨0,0,false,⟨#[]⟩⟩⟩
instance:Inhabited PCl:=⟨⟨[],[],[],[],[],[],[]⟩⟩
abbrev vA (x:PVar):List AV:=[.v (.int .i64 x.t),.v (.int .i64 x.lo),.v (.int .i64 x.hi),.v (.int .i64 x.mx),.v (.bool x.nl)]
abbrev cfA (x:PCoef):List AV:=[.v (.int .i64 x.v),.v (.int .i64 x.n)]
abbrev csA (l:List PCoef):AV:=.tree 2 (l.map cfA)
abbrev liA (x:PLin):List AV:=[.v (.int .i64 x.k),csA x.cs]
abbrev axA (x:PAux):List AV:=[.v (.int .i64 x.of_.k),csA x.of_.cs,.v (.int .i64 x.by_),.v (.int .i64 x.tx)]
abbrev cnA (x:PCon):List AV:=[.v (.int .i64 x.l.k),csA x.l.cs,.v (.bool x.eq)]
abbrev teA (x:PTest):List AV:=[.v (.int .i64 x.v),.v (.int .i64 x.kd),.v (.bool x.ng),.v (.string x.s)]
abbrev paA (x:Int×Int):List AV:=[.v (.int .i64 x.1),.v (.int .i64 x.2)]
abbrev vsA (l:List PVar):AV:=.tree 5 (l.map vA)
abbrev psA (l:List (Int×Int)):AV:=.tree 2 (l.map paA)
abbrev clA (c:PCl):List AV:=[isA c.nul,isA c.nn,.tree 4 (c.aux.map axA),.tree 3 (c.ints.map cnA),.tree 4 (c.tests.map teA),psA c.same,psA c.diff]
abbrev prA (p:PPred):List AV:=[.v (.int .i64 p.tab),.v (.int .i64 p.cols),vsA p.vars,.tree 7 (p.cls.map clA)]
def absI (n:Int):Int:=if n < 0 then -n else n
def wiB (n lo hi:Int):Bool:=decide (n≥lo)&&decide (n≤hi)
/-- Is a variable valid? -/
def varB (x:PVar):Bool:=if x.t=1 then decide (x.lo≥-2147483648)&&decide (x.lo≤x.hi)&&decide (x.hi≤2147483647)&&x.mx==0
 else x.t==2&&decide (x.mx≥0)&&decide (x.mx≤16)&&x.lo==0&&x.hi==0
def domP (l:List PVar) (j:Nat):Bool:=varB (l.getD j default)
def domB (l:List PVar):Bool:=allN l.length (domP l)&&decide ((l.length:Int)≤64)
/-- Is a variable a text that is not NULL? -/
def txtB (v:Int) (nn:List Int) (l:List PVar):Bool:=decide (v≥0)&&decide (v < l.length)&&(l.getD v.toNat default).t==2&&hasB nn v
def prnP (s:ByteArray) (j:Nat):Bool:=!(decide (((bAt s j).toNat:Int) < 32)||decide (((bAt s j).toNat:Int) > 126))
/-- Is a test valid? -/
def tesB (x:PTest):Bool:=allN x.s.size (prnP x.s)&&(decide (x.kd≥0)&&decide (x.kd≤3)&&decide ((x.s.size:Int)≤16))
def paiP (p:List (Int×Int)) (nn:List Int) (l:List PVar) (j:Nat):Bool:=txtB (p.getD j default).1 nn l&&txtB (p.getD j default).2 nn l&&decide ((p.getD j default).1 < (p.getD j default).2)
def paiB (p:List (Int×Int)) (nn:List Int) (l:List PVar):Bool:=allN p.length (paiP p nn l)
theorem bod36:bodied Tryz.prog 36=true:=by kernel_rfl
theorem fi80_0:fieldInfo Tryz.prog 80 0=some (0,1):=by kernel_rfl
theorem fi80_1:fieldInfo Tryz.prog 80 1=some (1,1):=by kernel_rfl
theorem fi80_2:fieldInfo Tryz.prog 80 2=some (2,1):=by kernel_rfl
theorem fi80_3:fieldInfo Tryz.prog 80 3=some (3,1):=by kernel_rfl
theorem row2:rowOf Tryz.prog 2=some none:=by kernel_rfl
theorem row80:rowOf Tryz.prog 80=some (some 5):=by kernel_rfl
theorem sz80:sizeInfo Tryz.prog 80=some 5:=by kernel_rfl
set_option maxRecDepth 100000 in
set_option maxHeartbeats 4000000 in
theorem abs_p (v:Int) (hv:v≠-9223372036854775808) (h1:-9223372036854775808≤v) (h2:v≤9223372036854775807):PCall Tryz.prog 71 [.v (.int .i64 v)] (.v (.int .i64 (absI v))):=by
 refine pB Tryz.func71 rfl Tryz.ntmps71 (Nat.le_of_ble_eq_true rfl) ?_
 refine wS (wR ?_)
 refine oL (lA (a:=.v _) rfl) rfl rfl ?_
 refine oN (aN (wS (wS (wR ?_))))
 refine oL (lM (a:=.v _) rfl) rfl rfl ?_
 refine oL (lP rfl (fun _ _=>nofun) (fun _=>rfl)) rfl rfl ?_
 refine oN (aN ?_)
 refine wC rfl (fun hc4=>?_) (fun hc4=>?_)
 ·skip
  refine wS (wR ?_)
  refine oL (lM (a:=.v _) rfl) rfl rfl ?_
  refine oL (lP rfl (fun _ _=>nofun) (fun _=>rfl)) rfl rfl ?_
  refine oL (lA (a:=.v _) rfl) rfl rfl ?_
  refine oN (aN ?_)
  refine wT (aR (?_))
  refine ⟨.inr rfl,oV Tryz.results71 rfl rfl ?_⟩
  refine vi_eq ?_; rw [Go.IntWalk.i64_in _ (by omega)]; unfold absI; rw [if_pos (of_decide_eq_true hc4)]; omega
 ·skip
  refine wK (aN (wS (wR ?_)))
  refine oL (lM (a:=.v _) rfl) rfl rfl ?_
  refine oL (lA (a:=.v _) rfl) rfl rfl ?_
  refine oN (aN ?_)
  refine wT (?_)
  refine ⟨.inr rfl,oV Tryz.results71 rfl rfl ?_⟩
  refine vi_eq ?_; unfold absI; rw [if_neg (of_decide_eq_false hc4)]
set_option maxRecDepth 100000 in
set_option maxHeartbeats 4000000 in
theorem wi_p (v lo hi:Int):PCall Tryz.prog 40 [.v (.int .i64 v),.v (.int .i64 lo),.v (.int .i64 hi)] (.v (.bool (wiB v lo hi))):=by
 refine pB Tryz.func40 rfl Tryz.ntmps40 (Nat.le_of_ble_eq_true rfl) ?_
 refine wS (wR ?_)
 refine oL (lA (a:=.v _) rfl) rfl rfl ?_
 refine oN (aN (wS (wR ?_)))
 refine oL (lM (a:=.v _) rfl) rfl rfl ?_
 refine oL (lM (a:=.v _) rfl) rfl rfl ?_
 refine oL (lP rfl (fun _ _=>nofun) (fun _=>rfl)) rfl rfl ?_
 refine oL (lM (a:=.v _) rfl) rfl rfl ?_
 refine oB 10 rfl (fun hg10=>?_) (fun hg10=>?_)
 ·skip
  refine oL (lM (a:=.v _) rfl) rfl rfl ?_
  refine oL (lM (a:=.v _) rfl) rfl rfl ?_
  refine oL (lP rfl (fun _ _=>nofun) (fun _=>rfl)) rfl rfl ?_
  refine oL (lK rfl rfl rfl) rfl rfl ?_
  refine oL (lA (a:=.v _) rfl) rfl rfl ?_
  refine oN (aN ?_)
  refine wT (?_)
  refine ⟨.inr rfl,oV Tryz.results40 rfl rfl ?_⟩
  refine vb_eq ?_; simp_all [wiB]; try (intros; omega)
 ·skip
  refine oS rfl rfl ?_
  refine oS rfl rfl ?_
  refine oS rfl rfl ?_
  refine oL (LOp.pkF (a:=.v _) rfl (by first | rfl | assumption) rfl) rfl rfl ?_
  refine oL (lA (a:=.v _) rfl) rfl rfl ?_
  refine oN (aN ?_)
  refine wT (?_)
  refine ⟨.inr rfl,oV Tryz.results40 rfl rfl ?_⟩
  refine vb_eq ?_; simp_all [wiB]; try (intros; omega)
set_option maxRecDepth 100000 in
set_option maxHeartbeats 4000000 in
theorem var_p (x:PVar):PCall Tryz.prog 36 [.agg (vA x)] (.v (.bool (varB x))):=by
 refine pB Tryz.func36 rfl Tryz.ntmps36 (Nat.le_of_ble_eq_true rfl) ?_
 refine wS (wR ?_)
 refine oW (LOp.bx rfl) rfl rfl 1 rfl ?_
 refine oL (lA (a:=.v _) rfl) rfl rfl ?_
 refine oN (aN (wS (wS (wR ?_))))
 refine oL (lF fi80_0 rfl rfl rfl rfl rfl) rfl rfl ?_
 refine oL (lD row3 rfl rfl rfl rfl rfl) rfl rfl ?_
 refine oL (lP rfl (fun _ _=>nofun) (fun _=>rfl)) rfl rfl ?_
 refine oN (aN ?_)
 refine wC rfl (fun hc5=>?_) (fun hc5=>?_)
 ·skip
  refine wS (wR ?_)
  refine oL (lF fi80_1 rfl rfl rfl rfl rfl) rfl rfl ?_
  refine oL (lD row2 rfl rfl rfl rfl rfl) rfl rfl ?_
  refine oL (lP rfl (fun _ _=>nofun) (fun _=>rfl)) rfl rfl ?_
  refine oL (lM (a:=.v _) rfl) rfl rfl ?_
  refine oB 9 rfl (fun hg9=>?_) (fun hg9=>?_)
  ·skip
   refine oL (lF fi80_1 rfl rfl rfl rfl rfl) rfl rfl ?_
   refine oL (lD row2 rfl rfl rfl rfl rfl) rfl rfl ?_
   refine oL (lF fi80_2 rfl rfl rfl rfl rfl) rfl rfl ?_
   refine oL (lD row2 rfl rfl rfl rfl rfl) rfl rfl ?_
   refine oL (lP rfl (fun _ _=>nofun) (fun _=>rfl)) rfl rfl ?_
   refine oL (lK rfl rfl rfl) rfl rfl ?_
   refine oL (lM (a:=.v _) rfl) rfl rfl ?_
   refine oB 16 rfl (fun hg16=>?_) (fun hg16=>?_)
   ·skip
    refine oL (lF fi80_2 rfl rfl rfl rfl rfl) rfl rfl ?_
    refine oL (lD row2 rfl rfl rfl rfl rfl) rfl rfl ?_
    refine oL (lP rfl (fun _ _=>nofun) (fun _=>rfl)) rfl rfl ?_
    refine oL (lK rfl rfl rfl) rfl rfl ?_
    refine oL (lM (a:=.v _) rfl) rfl rfl ?_
    refine oB 21 rfl (fun hg21=>?_) (fun hg21=>?_)
    ·skip
     refine oL (lF fi80_3 rfl rfl rfl rfl rfl) rfl rfl ?_
     refine oL (lD row3 rfl rfl rfl rfl rfl) rfl rfl ?_
     refine oL (lP rfl (fun _ _=>nofun) (fun _=>rfl)) rfl rfl ?_
     refine oL (lK rfl rfl rfl) rfl rfl ?_
     refine oL (lA (a:=.v _) rfl) rfl rfl ?_
     refine oN (aN ?_)
     refine wT (aR (?_))
     refine ⟨.inr rfl,oV Tryz.results36 rfl rfl ?_⟩
     refine vb_eq ?_; unfold varB; simp_all; try (intros; omega)
    ·skip
     refine oS rfl rfl ?_
     refine oS rfl rfl ?_
     refine oS rfl rfl ?_
     refine oL (LOp.pkF (a:=.v _) rfl (by first | rfl | assumption) rfl) rfl rfl ?_
     refine oL (lA (a:=.v _) rfl) rfl rfl ?_
     refine oN (aN ?_)
     refine wT (aR (?_))
     refine ⟨.inr rfl,oV Tryz.results36 rfl rfl ?_⟩
     refine vb_eq ?_; unfold varB; simp_all; try (intros; omega)
   ·skip
    refine oS rfl rfl ?_
    refine oS rfl rfl ?_
    refine oS rfl rfl ?_
    refine oL (LOp.pkF (a:=.v _) rfl (by first | rfl | assumption) rfl) rfl rfl ?_
    refine oL (lM (a:=.v _) rfl) rfl rfl ?_
    refine oS rfl rfl ?_
    refine oS rfl rfl ?_
    refine oS rfl rfl ?_
    refine oL (LOp.pkF (a:=.v _) rfl (by first | rfl | assumption) rfl) rfl rfl ?_
    refine oL (lA (a:=.v _) rfl) rfl rfl ?_
    refine oN (aN ?_)
    refine wT (aR (?_))
    refine ⟨.inr rfl,oV Tryz.results36 rfl rfl ?_⟩
    refine vb_eq ?_; unfold varB; simp_all; try (intros; omega)
  ·skip
   refine oS rfl rfl ?_
   refine oS rfl rfl ?_
   refine oS rfl rfl ?_
   refine oS rfl rfl ?_
   refine oS rfl rfl ?_
   refine oL (LOp.pkF (a:=.v _) rfl (by first | rfl | assumption) rfl) rfl rfl ?_
   refine oL (lM (a:=.v _) rfl) rfl rfl ?_
   refine oS rfl rfl ?_
   refine oS rfl rfl ?_
   refine oS rfl rfl ?_
   refine oL (LOp.pkF (a:=.v _) rfl (by first | rfl | assumption) rfl) rfl rfl ?_
   refine oL (lM (a:=.v _) rfl) rfl rfl ?_
   refine oS rfl rfl ?_
   refine oS rfl rfl ?_
   refine oS rfl rfl ?_
   refine oL (LOp.pkF (a:=.v _) rfl (by first | rfl | assumption) rfl) rfl rfl ?_
   refine oL (lA (a:=.v _) rfl) rfl rfl ?_
   refine oN (aN ?_)
   refine wT (aR (?_))
   refine ⟨.inr rfl,oV Tryz.results36 rfl rfl ?_⟩
   refine vb_eq ?_; unfold varB; simp_all; try (intros; omega)
 ·skip
  refine wK (aN (wS (wR ?_)))
  refine oL (lF fi80_0 rfl rfl rfl rfl rfl) rfl rfl ?_
  refine oL (lD row3 rfl rfl rfl rfl rfl) rfl rfl ?_
  refine oL (lP rfl (fun _ _=>nofun) (fun _=>rfl)) rfl rfl ?_
  refine oL (lM (a:=.v _) rfl) rfl rfl ?_
  refine oB 29 rfl (fun hg29=>?_) (fun hg29=>?_)
  ·skip
   refine oL (lF fi80_3 rfl rfl rfl rfl rfl) rfl rfl ?_
   refine oL (lD row3 rfl rfl rfl rfl rfl) rfl rfl ?_
   refine oL (lP rfl (fun _ _=>nofun) (fun _=>rfl)) rfl rfl ?_
   refine oL (lK rfl rfl rfl) rfl rfl ?_
   refine oL (lM (a:=.v _) rfl) rfl rfl ?_
   refine oB 34 rfl (fun hg34=>?_) (fun hg34=>?_)
   ·skip
    refine oL (lF fi80_3 rfl rfl rfl rfl rfl) rfl rfl ?_
    refine oL (lD row3 rfl rfl rfl rfl rfl) rfl rfl ?_
    refine oL (lP rfl (fun _ _=>nofun) (fun _=>rfl)) rfl rfl ?_
    refine oL (lK rfl rfl rfl) rfl rfl ?_
    refine oL (lM (a:=.v _) rfl) rfl rfl ?_
    refine oB 39 rfl (fun hg39=>?_) (fun hg39=>?_)
    ·skip
     refine oL (lF fi80_1 rfl rfl rfl rfl rfl) rfl rfl ?_
     refine oL (lD row2 rfl rfl rfl rfl rfl) rfl rfl ?_
     refine oL (lP rfl (fun _ _=>nofun) (fun _=>rfl)) rfl rfl ?_
     refine oL (lK rfl rfl rfl) rfl rfl ?_
     refine oL (lM (a:=.v _) rfl) rfl rfl ?_
     refine oB 44 rfl (fun hg44=>?_) (fun hg44=>?_)
     ·skip
      refine oL (lF fi80_2 rfl rfl rfl rfl rfl) rfl rfl ?_
      refine oL (lD row2 rfl rfl rfl rfl rfl) rfl rfl ?_
      refine oL (lP rfl (fun _ _=>nofun) (fun _=>rfl)) rfl rfl ?_
      refine oL (lK rfl rfl rfl) rfl rfl ?_
      refine oL (lA (a:=.v _) rfl) rfl rfl ?_
      refine oN (aN ?_)
      refine wT (?_)
      refine ⟨.inr rfl,oV Tryz.results36 rfl rfl ?_⟩
      refine vb_eq ?_; unfold varB; simp_all; try (intros; omega)
     ·skip
      refine oS rfl rfl ?_
      refine oS rfl rfl ?_
      refine oS rfl rfl ?_
      refine oL (LOp.pkF (a:=.v _) rfl (by first | rfl | assumption) rfl) rfl rfl ?_
      refine oL (lA (a:=.v _) rfl) rfl rfl ?_
      refine oN (aN ?_)
      refine wT (?_)
      refine ⟨.inr rfl,oV Tryz.results36 rfl rfl ?_⟩
      refine vb_eq ?_; unfold varB; simp_all; try (intros; omega)
    ·skip
     refine oS rfl rfl ?_
     refine oS rfl rfl ?_
     refine oS rfl rfl ?_
     refine oL (LOp.pkF (a:=.v _) rfl (by first | rfl | assumption) rfl) rfl rfl ?_
     refine oL (lM (a:=.v _) rfl) rfl rfl ?_
     refine oS rfl rfl ?_
     refine oS rfl rfl ?_
     refine oS rfl rfl ?_
     refine oL (LOp.pkF (a:=.v _) rfl (by first | rfl | assumption) rfl) rfl rfl ?_
     refine oL (lA (a:=.v _) rfl) rfl rfl ?_
     refine oN (aN ?_)
     refine wT (?_)
     refine ⟨.inr rfl,oV Tryz.results36 rfl rfl ?_⟩
     refine vb_eq ?_; unfold varB; simp_all; try (intros; omega)
   ·skip
    refine oS rfl rfl ?_
    refine oS rfl rfl ?_
    refine oS rfl rfl ?_
    refine oL (LOp.pkF (a:=.v _) rfl (by first | rfl | assumption) rfl) rfl rfl ?_
    refine oL (lM (a:=.v _) rfl) rfl rfl ?_
    refine oS rfl rfl ?_
    refine oS rfl rfl ?_
    refine oS rfl rfl ?_
    refine oL (LOp.pkF (a:=.v _) rfl (by first | rfl | assumption) rfl) rfl rfl ?_
    refine oL (lM (a:=.v _) rfl) rfl rfl ?_
    refine oS rfl rfl ?_
    refine oS rfl rfl ?_
    refine oS rfl rfl ?_
    refine oL (LOp.pkF (a:=.v _) rfl (by first | rfl | assumption) rfl) rfl rfl ?_
    refine oL (lA (a:=.v _) rfl) rfl rfl ?_
    refine oN (aN ?_)
    refine wT (?_)
    refine ⟨.inr rfl,oV Tryz.results36 rfl rfl ?_⟩
    refine vb_eq ?_; unfold varB; simp_all; try (intros; omega)
  ·skip
   refine oS rfl rfl ?_
   refine oS rfl rfl ?_
   refine oS rfl rfl ?_
   refine oL (LOp.pkF (a:=.v _) rfl (by first | rfl | assumption) rfl) rfl rfl ?_
   refine oL (lM (a:=.v _) rfl) rfl rfl ?_
   refine oS rfl rfl ?_
   refine oS rfl rfl ?_
   refine oS rfl rfl ?_
   refine oL (LOp.pkF (a:=.v _) rfl (by first | rfl | assumption) rfl) rfl rfl ?_
   refine oL (lM (a:=.v _) rfl) rfl rfl ?_
   refine oS rfl rfl ?_
   refine oS rfl rfl ?_
   refine oS rfl rfl ?_
   refine oL (LOp.pkF (a:=.v _) rfl (by first | rfl | assumption) rfl) rfl rfl ?_
   refine oL (lM (a:=.v _) rfl) rfl rfl ?_
   refine oS rfl rfl ?_
   refine oS rfl rfl ?_
   refine oS rfl rfl ?_
   refine oL (LOp.pkF (a:=.v _) rfl (by first | rfl | assumption) rfl) rfl rfl ?_
   refine oL (lA (a:=.v _) rfl) rfl rfl ?_
   refine oN (aN ?_)
   refine wT (?_)
   refine ⟨.inr rfl,oV Tryz.results36 rfl rfl ?_⟩
   refine vb_eq ?_; unfold varB; simp_all; try (intros; omega)
set_option maxRecDepth 100000 in
set_option maxHeartbeats 4000000 in
theorem dom_p (l:List PVar) (hl:l.length≤1000):PCall Tryz.prog 22 [vsA l] (.v (.bool (domB l))):=by
 refine pB Tryz.func22 rfl Tryz.ntmps22 (Nat.le_of_ble_eq_true rfl) ?_
 refine wS (wR ?_)
 refine oL (lA (a:=.v _) rfl) rfl rfl ?_
 refine oN (aN (wS (wS (wR ?_))))
 refine oL (lA (a:=.v _) rfl) rfl rfl ?_
 refine oN (aN (wB ?_))
 refine wL (fun n s=>∃ k:Nat,n=(l.length - k)∧s=⟨fL [(0,vsA l),(3,.v (.int .i64 ((k:Nat):Int)))],hLz [],0⟩∧(k≤l.length∧∀ j,j < k→domP l j=true)) (n:=(l.length - 0)) (s1:=⟨fL [(0,vsA l),(3,.v (.int .i64 ((0:Nat):Int)))],hLz [],0⟩) (cO (.cons rfl rfl (.cons rfl rfl .nil)) .nil) ⟨0,rfl,rfl,⟨Nat.zero_le _,fun j h=>absurd h (Nat.not_lt_zero j)⟩⟩ ?_
 rintro n s ⟨k,rfl,rfl,hinv⟩
 obtain ⟨hk,hj⟩:=hinv
 refine wS (wS (wR ?_))
 refine oL (lM (a:=.v _) rfl) rfl rfl ?_
 refine oL (lM (a:=.tree _ _) rfl) rfl rfl ?_
 refine oL (lT rfl Tryz.underlying34 rfl) rfl rfl ?_
 refine oL (lP rfl (fun _ _=>nofun) (fun _=>rfl)) rfl rfl ?_
 refine oN (aN ?_)
 refine wC rfl (fun hc7=>?_) (fun hc7=>?_)
 ·skip
  have hlt:k < l.length:=Int.ofNat_lt.1 (of_decide_eq_true hc7)
  refine wK (aN (wS (wB (wS (wR ?_)))))
  refine oL (lM (a:=.tree _ _) rfl) rfl rfl ?_
  refine oL (lM (a:=.v _) rfl) rfl rfl ?_
  refine oL (lI Tryz.underlying34 sz80 rfl rfl (by first | assumption | omega)) rfl rfl ?_
  refine oL (LOp.ldTN row80 rfl rfl) rfl rfl ?_
  refine oL (LOp.call bod36 rfl (var_p l[k])) rfl rfl ?_
  refine oL (lP rfl (fun _ _=>nofun) (fun _=>rfl)) rfl rfl ?_
  refine oN (aN ?_)
  refine wC rfl (fun hc15=>?_) (fun hc15=>?_)
  ·skip
   refine wS (wR ?_)
   refine oL (lA (a:=.v _) rfl) rfl rfl ?_
   refine oN (aN ?_)
   refine wT (bR (aR (aR (bR (aR (?_))))))
   refine ⟨.inr rfl,oV Tryz.results22 rfl rfl ?_⟩
   refine vb_eq ?_; unfold domB; rw [allN_hit hlt (by simp only [domP,getD_at hlt]; simp_all)]; rfl
  ·skip
   refine wK (bN (aN (wR ?_)))
   refine oL (lM (a:=.v _) rfl) rfl rfl ?_
   refine oL (lJ rfl rfl (by omega) (by omega)) rfl rfl ?_
   refine oL (lA (a:=.v _) rfl) rfl rfl ?_
   refine oN (aN ?_)
   refine ⟨(l.length - (k+1)),⟨fL [(0,vsA l),(3,.v (.int .i64 (((k+1):Nat):Int)))],hLz [],0⟩,by omega,(cO (.cons rfl rfl (.cons rfl rfl .nil)) .nil),(k+1),rfl,rfl,?_⟩
   refine ⟨by omega,fun j h=>?_⟩
   rcases Nat.lt_succ_iff_lt_or_eq.1 h with h | rfl
   ·exact hj j h
   ·simp only [domP,getD_at hlt]; simp_all
 ·skip
  have hge:¬ k < l.length:=fun h=>of_decide_eq_false hc7 (Int.ofNat_lt.2 h)
  refine AWP.exit (aE (aE (bE ?_)))
  refine aN (wS (wR ?_))
  refine oL (lM (a:=.tree _ _) rfl) rfl rfl ?_
  refine oL (lT rfl Tryz.underlying34 rfl) rfl rfl ?_
  refine oL (lP rfl (fun _ _=>nofun) (fun _=>rfl)) rfl rfl ?_
  refine oL (lA (a:=.v _) rfl) rfl rfl ?_
  refine oN (aN ?_)
  refine wT (?_)
  refine ⟨.inr rfl,oV Tryz.results22 rfl rfl ?_⟩
  refine vb_eq ?_; unfold domB; rw [allN_end hk hge hj]; rfl
end Go.Proofs.YtfelpgeolclnbaaGreatDoor
namespace Go.Proofs.YtfelpgeolclnbaaGreatDoor
set_option linter.unusedVariables false
set_option linter.unusedSimpArgs false
open Go.RowKit
theorem bod70:bodied Tryz.prog 70=true:=by kernel_rfl
theorem bod38:bodied Tryz.prog 38=true:=by kernel_rfl
theorem fi76_1:fieldInfo Tryz.prog 76 1=some (1,1):=by kernel_rfl
theorem fi109_1:fieldInfo Tryz.prog 109 1=some (1,1):=by kernel_rfl
theorem fi109_3:fieldInfo Tryz.prog 109 3=some (3,1):=by kernel_rfl
theorem row70:rowOf Tryz.prog 70=some none:=by kernel_rfl
theorem row76:rowOf Tryz.prog 76=some (some 7):=by kernel_rfl
theorem row9:rowOf Tryz.prog 9=some none:=by kernel_rfl
theorem sz128:sizeInfo Tryz.prog 128=some 2:=by kernel_rfl
set_option maxRecDepth 100000 in
set_option maxHeartbeats 4000000 in
theorem txt_p (v:Int) (c:PCl) (l:List PVar) (hn:c.nn.length≤1000) (hl:l.length≤1000):PCall Tryz.prog 38 [.v (.int .i64 v),.agg (clA c),vsA l] (.v (.bool (txtB v c.nn l))):=by
 refine pB Tryz.func38 rfl Tryz.ntmps38 (Nat.le_of_ble_eq_true rfl) ?_
 refine wS (wR ?_)
 refine oW (LOp.bx rfl) rfl rfl 1 rfl ?_
 refine oL (lA (a:=.v _) rfl) rfl rfl ?_
 refine oN (aN (wS (wR ?_)))
 refine oL (lM (a:=.v _) rfl) rfl rfl ?_
 refine oL (lP rfl (fun _ _=>nofun) (fun _=>rfl)) rfl rfl ?_
 refine oL (lM (a:=.v _) rfl) rfl rfl ?_
 refine oB 9 rfl (fun hg9=>?_) (fun hg9=>?_)
 ·skip
  refine oL (lM (a:=.v _) rfl) rfl rfl ?_
  refine oL (lM (a:=.tree _ _) rfl) rfl rfl ?_
  refine oL (lT rfl Tryz.underlying34 rfl) rfl rfl ?_
  refine oL (lP rfl (fun _ _=>nofun) (fun _=>rfl)) rfl rfl ?_
  refine oL (lK rfl rfl rfl) rfl rfl ?_
  refine oL (lM (a:=.v _) rfl) rfl rfl ?_
  refine oB 15 rfl (fun hg15=>?_) (fun hg15=>?_)
  ·skip
   have h0:0≤v:=by simpa using hg9
   have h1:v < l.length:=by simpa using hg15
   obtain ⟨j,hj⟩:=Int.eq_ofNat_of_zero_le h0
   have hjl:j < l.length:=by omega
   have ev:l.getD v.toNat default=l[j]:=by rw [hj]; simp [List.getD,hjl]
   refine oL (lM (a:=.tree _ _) rfl) rfl rfl ?_
   refine oL (lM (a:=.v _) rfl) rfl rfl ?_
   refine oL (LOp.indexI Tryz.underlying34 sz80 rfl rfl hj hjl) rfl rfl ?_
   refine oL (LOp.fieldAddrT fi80_0 rfl rfl) rfl rfl ?_
   refine oL (lE row3 rfl rfl) rfl rfl ?_
   refine oL (lP rfl (fun _ _=>nofun) (fun _=>rfl)) rfl rfl ?_
   refine oL (lK rfl rfl rfl) rfl rfl ?_
   refine oL (lM (a:=.v _) rfl) rfl rfl ?_
   refine oB 23 rfl (fun hg23=>?_) (fun hg23=>?_)
   ·skip
    refine oL (lF fi76_1 rfl rfl rfl rfl rfl) rfl rfl ?_
    refine oL (lD row70 rfl rfl rfl rfl rfl) rfl rfl ?_
    refine oL (lM (a:=.v _) rfl) rfl rfl ?_
    refine oL (LOp.call bod70 rfl (has_p c.nn v hn)) rfl rfl ?_
    refine oL (lK rfl rfl rfl) rfl rfl ?_
    refine oL (lA (a:=.v _) rfl) rfl rfl ?_
    refine oN (aN ?_)
    refine wT (?_)
    refine ⟨.inr rfl,oV Tryz.results38 rfl rfl ?_⟩
    refine vb_eq ?_; first | (simp only [txtB,ev]; simp_all; done) | (simp only [txtB]; simp_all; done) | (simp only [txtB]; simp_all; intros; omega)
   ·skip
    refine oS rfl rfl ?_
    refine oS rfl rfl ?_
    refine oS rfl rfl ?_
    refine oS rfl rfl ?_
    refine oL (LOp.pkF (a:=.v _) rfl (by first | rfl | assumption) rfl) rfl rfl ?_
    refine oL (lA (a:=.v _) rfl) rfl rfl ?_
    refine oN (aN ?_)
    refine wT (?_)
    refine ⟨.inr rfl,oV Tryz.results38 rfl rfl ?_⟩
    refine vb_eq ?_; first | (simp only [txtB,ev]; simp_all; done) | (simp only [txtB]; simp_all; done) | (simp only [txtB]; simp_all; intros; omega)
  ·skip
   refine oS rfl rfl ?_
   refine oS rfl rfl ?_
   refine oS rfl rfl ?_
   refine oS rfl rfl ?_
   refine oS rfl rfl ?_
   refine oS rfl rfl ?_
   refine oL (LOp.pkF (a:=.v _) rfl (by first | rfl | assumption) rfl) rfl rfl ?_
   refine oL (lM (a:=.v _) rfl) rfl rfl ?_
   refine oS rfl rfl ?_
   refine oS rfl rfl ?_
   refine oS rfl rfl ?_
   refine oS rfl rfl ?_
   refine oL (LOp.pkF (a:=.v _) rfl (by first | rfl | assumption) rfl) rfl rfl ?_
   refine oL (lA (a:=.v _) rfl) rfl rfl ?_
   refine oN (aN ?_)
   refine wT (?_)
   refine ⟨.inr rfl,oV Tryz.results38 rfl rfl ?_⟩
   refine vb_eq ?_; first | (simp only [txtB,ev]; simp_all; done) | (simp only [txtB]; simp_all; done) | (simp only [txtB]; simp_all; intros; omega)
 ·skip
  refine oS rfl rfl ?_
  refine oS rfl rfl ?_
  refine oS rfl rfl ?_
  refine oS rfl rfl ?_
  refine oL (LOp.pkF (a:=.v _) rfl (by first | rfl | assumption) rfl) rfl rfl ?_
  refine oL (lM (a:=.v _) rfl) rfl rfl ?_
  refine oS rfl rfl ?_
  refine oS rfl rfl ?_
  refine oS rfl rfl ?_
  refine oS rfl rfl ?_
  refine oS rfl rfl ?_
  refine oS rfl rfl ?_
  refine oL (LOp.pkF (a:=.v _) rfl (by first | rfl | assumption) rfl) rfl rfl ?_
  refine oL (lM (a:=.v _) rfl) rfl rfl ?_
  refine oS rfl rfl ?_
  refine oS rfl rfl ?_
  refine oS rfl rfl ?_
  refine oS rfl rfl ?_
  refine oL (LOp.pkF (a:=.v _) rfl (by first | rfl | assumption) rfl) rfl rfl ?_
  refine oL (lA (a:=.v _) rfl) rfl rfl ?_
  refine oN (aN ?_)
  refine wT (?_)
  refine ⟨.inr rfl,oV Tryz.results38 rfl rfl ?_⟩
  refine vb_eq ?_; first | (simp only [txtB,ev]; simp_all; done) | (simp only [txtB]; simp_all; done) | (simp only [txtB]; simp_all; intros; omega)
set_option maxRecDepth 100000 in
set_option maxHeartbeats 4000000 in
theorem tes_p (x:PTest) (hl:x.s.size≤1000):PCall Tryz.prog 41 [.agg (teA x)] (.v (.bool (tesB x))):=by
 refine pB Tryz.func41 rfl Tryz.ntmps41 (Nat.le_of_ble_eq_true rfl) ?_
 refine wS (wR ?_)
 refine oW (LOp.bx rfl) rfl rfl 1 rfl ?_
 refine oL (lA (a:=.v _) rfl) rfl rfl ?_
 refine oN (aN (wS (wS (wR ?_))))
 refine oL (lA (a:=.v _) rfl) rfl rfl ?_
 refine oN (aN (wB ?_))
 refine wL (fun n s=>∃ k:Nat,n=(x.s.size - k)∧s=⟨fL [(1,.ptr 0 0 0),(3,.v (.int .i64 ((k:Nat):Int)))],hLz [(0,⟨0,teA x,0,false⟩)],1⟩∧(k≤x.s.size∧∀ j,j < k→prnP x.s j=true)) (n:=(x.s.size - 0)) (s1:=⟨fL [(1,.ptr 0 0 0),(3,.v (.int .i64 ((0:Nat):Int)))],hLz [(0,⟨0,teA x,0,false⟩)],1⟩) (cO (.cons rfl rfl (.cons rfl rfl .nil)) (.cons rfl rfl rfl .nil)) ⟨0,rfl,rfl,⟨Nat.zero_le _,fun j h=>absurd h (Nat.not_lt_zero j)⟩⟩ ?_
 rintro n s ⟨k,rfl,rfl,hinv⟩
 obtain ⟨hk,hj⟩:=hinv
 refine wS (wS (wR ?_))
 refine oL (lM (a:=.v _) rfl) rfl rfl ?_
 refine oL (lF fi109_3 rfl rfl rfl rfl rfl) rfl rfl ?_
 refine oL (lD row9 rfl rfl rfl rfl rfl) rfl rfl ?_
 refine oL (LOp.lenStr rfl Tryz.underlying9 rfl) rfl rfl ?_
 refine oL (lP rfl (fun _ _=>nofun) (fun _=>rfl)) rfl rfl ?_
 refine oN (aN ?_)
 refine wC rfl (fun hc8=>?_) (fun hc8=>?_)
 ·skip
  have hlt:k < x.s.size:=Int.ofNat_lt.1 (of_decide_eq_true hc8)
  refine wK (aN (wS (wB (wS (wR ?_)))))
  refine oL (lF fi109_3 rfl rfl rfl rfl rfl) rfl rfl ?_
  refine oL (lD row9 rfl rfl rfl rfl rfl) rfl rfl ?_
  refine oL (lM (a:=.v _) rfl) rfl rfl ?_
  refine oL (LOp.indexStr Tryz.underlying9 rfl rfl (by first | assumption | omega)) rfl rfl ?_
  refine oL (lP rfl (fun _ _=>nofun) (fun _=>rfl)) rfl rfl ?_
  refine oL (lM (a:=.v _) rfl) rfl rfl ?_
  refine oB 16 rfl (fun hg16=>?_) (fun hg16=>?_)
  ·skip
   refine oS rfl rfl ?_
   refine oS rfl rfl ?_
   refine oS rfl rfl ?_
   refine oS rfl rfl ?_
   refine oS rfl rfl ?_
   refine oL (LOp.pkT (a:=.v _) rfl (by first | rfl | assumption) rfl) rfl rfl ?_
   refine oN (aN ?_)
   refine AWP.condT rfl ?_
   refine wS (wR ?_)
   refine oL (lA (a:=.v _) rfl) rfl rfl ?_
   refine oN (aN ?_)
   refine wT (bR (aR (aR (bR (aR (?_))))))
   refine ⟨.inr rfl,oV Tryz.results41 rfl rfl ?_⟩
   (refine vb_eq ?_; unfold tesB; rw [allN_hit hlt (by simp only [prnP]; simp_all)]; rfl)
  ·skip
   refine oL (lF fi109_3 rfl rfl rfl rfl rfl) rfl rfl ?_
   refine oL (lD row9 rfl rfl rfl rfl rfl) rfl rfl ?_
   refine oL (lM (a:=.v _) rfl) rfl rfl ?_
   refine oL (LOp.indexStr Tryz.underlying9 rfl rfl (by first | assumption | omega)) rfl rfl ?_
   refine oL (lP rfl (fun _ _=>nofun) (fun _=>rfl)) rfl rfl ?_
   refine oL (lK rfl rfl rfl) rfl rfl ?_
   refine oN (aN ?_)
   refine wC rfl (fun hc22=>?_) (fun hc22=>?_)
   ·skip
    refine wS (wR ?_)
    refine oL (lA (a:=.v _) rfl) rfl rfl ?_
    refine oN (aN ?_)
    refine wT (bR (aR (aR (bR (aR (?_))))))
    refine ⟨.inr rfl,oV Tryz.results41 rfl rfl ?_⟩
    (refine vb_eq ?_; unfold tesB; rw [allN_hit hlt (by simp only [prnP]; simp_all)]; rfl)
   ·skip
    refine wK (bN (aN (wR ?_)))
    refine oL (lM (a:=.v _) rfl) rfl rfl ?_
    refine oL (lJ rfl rfl (by omega) (by omega)) rfl rfl ?_
    refine oL (lA (a:=.v _) rfl) rfl rfl ?_
    refine oN (aN ?_)
    refine ⟨(x.s.size - (k+1)),⟨fL [(1,.ptr 0 0 0),(3,.v (.int .i64 (((k+1):Nat):Int)))],hLz [(0,⟨0,teA x,0,false⟩)],1⟩,by omega,(cO (.cons rfl rfl (.cons rfl rfl .nil)) (.cons rfl rfl rfl .nil)),(k+1),rfl,rfl,?_⟩
    refine ⟨by omega,fun j h=>?_⟩
    rcases Nat.lt_succ_iff_lt_or_eq.1 h with h | rfl
    ·exact hj j h
    ·simp only [prnP]; simp_all
 ·skip
  have hge:¬ k < x.s.size:=fun h=>of_decide_eq_false hc8 (Int.ofNat_lt.2 h)
  refine AWP.exit (aE (aE (bE ?_)))
  refine aN (wS (wR ?_))
  refine oL (lF fi109_1 rfl rfl rfl rfl rfl) rfl rfl ?_
  refine oL (lD row3 rfl rfl rfl rfl rfl) rfl rfl ?_
  refine oL (lP rfl (fun _ _=>nofun) (fun _=>rfl)) rfl rfl ?_
  refine oL (lM (a:=.v _) rfl) rfl rfl ?_
  refine oB 26 rfl (fun hg26=>?_) (fun hg26=>?_)
  ·skip
   refine oL (lF fi109_1 rfl rfl rfl rfl rfl) rfl rfl ?_
   refine oL (lD row3 rfl rfl rfl rfl rfl) rfl rfl ?_
   refine oL (lP rfl (fun _ _=>nofun) (fun _=>rfl)) rfl rfl ?_
   refine oL (lK rfl rfl rfl) rfl rfl ?_
   refine oL (lM (a:=.v _) rfl) rfl rfl ?_
   refine oB 31 rfl (fun hg31=>?_) (fun hg31=>?_)
   ·skip
    refine oL (lF fi109_3 rfl rfl rfl rfl rfl) rfl rfl ?_
    refine oL (lD row9 rfl rfl rfl rfl rfl) rfl rfl ?_
    refine oL (LOp.lenStr rfl Tryz.underlying9 rfl) rfl rfl ?_
    refine oL (lP rfl (fun _ _=>nofun) (fun _=>rfl)) rfl rfl ?_
    refine oL (lK rfl rfl rfl) rfl rfl ?_
    refine oL (lA (a:=.v _) rfl) rfl rfl ?_
    refine oN (aN ?_)
    refine wT (?_)
    refine ⟨.inr rfl,oV Tryz.results41 rfl rfl ?_⟩
    (refine vb_eq ?_; unfold tesB; rw [allN_end hk hge hj]; simp_all; done)
   ·skip
    refine oS rfl rfl ?_
    refine oS rfl rfl ?_
    refine oS rfl rfl ?_
    refine oS rfl rfl ?_
    refine oL (LOp.pkF (a:=.v _) rfl (by first | rfl | assumption) rfl) rfl rfl ?_
    refine oL (lA (a:=.v _) rfl) rfl rfl ?_
    refine oN (aN ?_)
    refine wT (?_)
    refine ⟨.inr rfl,oV Tryz.results41 rfl rfl ?_⟩
    (refine vb_eq ?_; unfold tesB; rw [allN_end hk hge hj]; simp_all; intros; omega)
  ·skip
   refine oS rfl rfl ?_
   refine oS rfl rfl ?_
   refine oS rfl rfl ?_
   refine oL (LOp.pkF (a:=.v _) rfl (by first | rfl | assumption) rfl) rfl rfl ?_
   refine oL (lM (a:=.v _) rfl) rfl rfl ?_
   refine oS rfl rfl ?_
   refine oS rfl rfl ?_
   refine oS rfl rfl ?_
   refine oS rfl rfl ?_
   refine oL (LOp.pkF (a:=.v _) rfl (by first | rfl | assumption) rfl) rfl rfl ?_
   refine oL (lA (a:=.v _) rfl) rfl rfl ?_
   refine oN (aN ?_)
   refine wT (?_)
   refine ⟨.inr rfl,oV Tryz.results41 rfl rfl ?_⟩
   (refine vb_eq ?_; unfold tesB; rw [allN_end hk hge hj]; simp_all; intros; omega)
set_option maxRecDepth 100000 in
set_option maxHeartbeats 4000000 in
theorem pai_p (p:List (Int×Int)) (c:PCl) (l:List PVar) (hp:p.length≤1000) (hn:c.nn.length≤1000) (hl:l.length≤1000):PCall Tryz.prog 42 [psA p,.agg (clA c),vsA l] (.v (.bool (paiB p c.nn l))):=by
 refine pB Tryz.func42 rfl Tryz.ntmps42 (Nat.le_of_ble_eq_true rfl) ?_
 refine wS (wR ?_)
 refine oW (LOp.bx rfl) rfl rfl 1 rfl ?_
 refine oL (lA (a:=.v _) rfl) rfl rfl ?_
 refine oN (aN (wS (wS (wR ?_))))
 refine oL (lA (a:=.v _) rfl) rfl rfl ?_
 refine oN (aN (wB ?_))
 refine wL (fun n s=>∃ k:Nat,n=(p.length - k)∧s=⟨fL [(0,psA p),(2,vsA l),(4,.ptr 0 0 0),(7,.v (.int .i64 ((k:Nat):Int)))],hLz [(0,⟨0,clA c,0,false⟩)],1⟩∧(k≤p.length∧∀ j,j < k→paiP p c.nn l j=true)) (n:=(p.length - 0)) (s1:=⟨fL [(0,psA p),(2,vsA l),(4,.ptr 0 0 0),(7,.v (.int .i64 ((0:Nat):Int)))],hLz [(0,⟨0,clA c,0,false⟩)],1⟩) (cO (.cons rfl rfl (.cons rfl rfl (.cons rfl rfl (.cons rfl rfl .nil)))) (.cons rfl rfl rfl .nil)) ⟨0,rfl,rfl,⟨Nat.zero_le _,fun j h=>absurd h (Nat.not_lt_zero j)⟩⟩ ?_
 rintro n s ⟨k,rfl,rfl,hinv⟩
 obtain ⟨hk,hj⟩:=hinv
 refine wS (wS (wR ?_))
 refine oL (lM (a:=.v _) rfl) rfl rfl ?_
 refine oL (lM (a:=.tree _ _) rfl) rfl rfl ?_
 refine oL (lT rfl Tryz.underlying74 rfl) rfl rfl ?_
 refine oL (lP rfl (fun _ _=>nofun) (fun _=>rfl)) rfl rfl ?_
 refine oN (aN ?_)
 refine wC rfl (fun hc11=>?_) (fun hc11=>?_)
 ·skip
  have hlt:k < p.length:=Int.ofNat_lt.1 (of_decide_eq_true hc11)
  refine wK (aN (wS (wB (wS (AWP.regD mixed ?_)))))
  refine qL (lM (a:=.tree _ _) rfl) rfl rfl ?_
  refine qL (lM (a:=.v _) rfl) rfl rfl ?_
  refine qL (lI Tryz.underlying74 sz128 rfl rfl (by first | assumption | omega)) rfl rfl ?_
  refine qL (LOp.indexArrT Tryz.underlying128 sz3 rfl rfl rfl) rfl rfl ?_
  refine qL (lE row3 rfl rfl) rfl rfl ?_
  refine qL (LOp.ldN row76 rfl rfl rfl rfl rfl) rfl rfl ?_
  refine qL (lM (a:=.tree _ _) rfl) rfl rfl ?_
  refine qL (LOp.call bod38 rfl (txt_p _ c l hn hl)) rfl rfl ?_
  refine qL (lP rfl (fun _ _=>nofun) (fun _=>rfl)) rfl rfl ?_
  refine qL (lM (a:=.v _) rfl) rfl rfl ?_
  refine SeqC.splitB 23 rfl (fun hg23=>?_) (fun hg23=>?_)
  ·skip
   refine qS rfl rfl ?_
   refine qS rfl rfl ?_
   refine qS rfl rfl ?_
   refine qS rfl rfl ?_
   refine qS rfl rfl ?_
   refine qS rfl rfl ?_
   refine qS rfl rfl ?_
   refine qS rfl rfl ?_
   refine qS rfl rfl ?_
   refine qL (LOp.pkT (a:=.v _) rfl (by first | rfl | assumption) rfl) rfl rfl ?_
   refine qL (lM (a:=.v _) rfl) rfl rfl ?_
   refine qS rfl rfl ?_
   refine qS rfl rfl ?_
   refine qS rfl rfl ?_
   refine qS rfl rfl ?_
   refine qS rfl rfl ?_
   refine qS rfl rfl ?_
   refine qS rfl rfl ?_
   refine qS rfl rfl ?_
   refine qS rfl rfl ?_
   refine qS rfl rfl ?_
   refine qS rfl rfl ?_
   refine qL (LOp.pkT (a:=.v _) rfl (by first | rfl | assumption) rfl) rfl rfl ?_
   refine SeqC.nil ⟨by kernel_rfl,?_⟩
   refine aN ?_
   refine AWP.condT rfl ?_
   refine wS (wR ?_)
   refine oL (lA (a:=.v _) rfl) rfl rfl ?_
   refine oN (aN ?_)
   refine wT (bR (aR (aR (bR (aR (?_))))))
   refine ⟨.inr rfl,oV Tryz.results42 rfl rfl ?_⟩
   (refine vb_eq ?_; unfold paiB; rw [allN_hit hlt (by simp only [paiP,getD_at hlt]; simp_all)]; done)
  ·skip
   refine qL (lM (a:=.tree _ _) rfl) rfl rfl ?_
   refine qL (lM (a:=.v _) rfl) rfl rfl ?_
   refine qL (lI Tryz.underlying74 sz128 rfl rfl (by first | assumption | omega)) rfl rfl ?_
   refine qL (LOp.indexArrT Tryz.underlying128 sz3 rfl rfl rfl) rfl rfl ?_
   refine qL (lE row3 rfl rfl) rfl rfl ?_
   refine qL (LOp.ldN row76 rfl rfl rfl rfl rfl) rfl rfl ?_
   refine qL (lM (a:=.tree _ _) rfl) rfl rfl ?_
   refine qL (LOp.call bod38 rfl (txt_p _ c l hn hl)) rfl rfl ?_
   refine qL (lP rfl (fun _ _=>nofun) (fun _=>rfl)) rfl rfl ?_
   refine qL (lK rfl rfl rfl) rfl rfl ?_
   refine qL (lM (a:=.v _) rfl) rfl rfl ?_
   refine SeqC.splitB 34 rfl (fun hg34=>?_) (fun hg34=>?_)
   ·skip
    refine qS rfl rfl ?_
    refine qS rfl rfl ?_
    refine qS rfl rfl ?_
    refine qS rfl rfl ?_
    refine qS rfl rfl ?_
    refine qS rfl rfl ?_
    refine qS rfl rfl ?_
    refine qS rfl rfl ?_
    refine qS rfl rfl ?_
    refine qS rfl rfl ?_
    refine qS rfl rfl ?_
    refine qL (LOp.pkT (a:=.v _) rfl (by first | rfl | assumption) rfl) rfl rfl ?_
    refine SeqC.nil ⟨by kernel_rfl,?_⟩
    refine aN ?_
    refine AWP.condT rfl ?_
    refine wS (wR ?_)
    refine oL (lA (a:=.v _) rfl) rfl rfl ?_
    refine oN (aN ?_)
    refine wT (bR (aR (aR (bR (aR (?_))))))
    refine ⟨.inr rfl,oV Tryz.results42 rfl rfl ?_⟩
    (refine vb_eq ?_; unfold paiB; rw [allN_hit hlt (by simp only [paiP,getD_at hlt]; simp_all)]; done)
   ·skip
    refine qL (lM (a:=.tree _ _) rfl) rfl rfl ?_
    refine qL (lM (a:=.v _) rfl) rfl rfl ?_
    refine qL (lI Tryz.underlying74 sz128 rfl rfl (by first | assumption | omega)) rfl rfl ?_
    refine qL (LOp.indexArrT Tryz.underlying128 sz3 rfl rfl rfl) rfl rfl ?_
    refine qL (lE row3 rfl rfl) rfl rfl ?_
    refine qL (lM (a:=.tree _ _) rfl) rfl rfl ?_
    refine qL (lM (a:=.v _) rfl) rfl rfl ?_
    refine qL (lI Tryz.underlying74 sz128 rfl rfl (by first | assumption | omega)) rfl rfl ?_
    refine qL (LOp.indexArrT Tryz.underlying128 sz3 rfl rfl rfl) rfl rfl ?_
    refine qL (lE row3 rfl rfl) rfl rfl ?_
    refine qL (lP rfl (fun _ _=>nofun) (fun _=>rfl)) rfl rfl ?_
    refine qL (lK rfl rfl rfl) rfl rfl ?_
    refine SeqC.nil ⟨by kernel_rfl,?_⟩
    refine aN ?_
    refine wC rfl (fun hc46=>?_) (fun hc46=>?_)
    ·skip
     refine wS (wR ?_)
     refine oL (lA (a:=.v _) rfl) rfl rfl ?_
     refine oN (aN ?_)
     refine wT (bR (aR (aR (bR (aR (?_))))))
     refine ⟨.inr rfl,oV Tryz.results42 rfl rfl ?_⟩
     (refine vb_eq ?_; unfold paiB; rw [allN_hit hlt (by simp only [paiP,getD_at hlt]; simp_all)]; done)
    ·skip
     refine wK (bN (aN (wR ?_)))
     refine oL (lM (a:=.v _) rfl) rfl rfl ?_
     refine oL (lJ rfl rfl (by omega) (by omega)) rfl rfl ?_
     refine oL (lA (a:=.v _) rfl) rfl rfl ?_
     refine oN (aN ?_)
     refine ⟨(p.length - (k+1)),⟨fL [(0,psA p),(2,vsA l),(4,.ptr 0 0 0),(7,.v (.int .i64 (((k+1):Nat):Int)))],hLz [(0,⟨0,clA c,0,false⟩)],1⟩,by omega,(cO (.cons rfl rfl (.cons rfl rfl (.cons rfl rfl (.cons rfl rfl .nil)))) (.cons rfl rfl rfl .nil)),(k+1),rfl,rfl,?_⟩
     refine ⟨by omega,fun j h=>?_⟩
     rcases Nat.lt_succ_iff_lt_or_eq.1 h with h | rfl
     ·exact hj j h
     ·simp only [paiP,getD_at hlt]; simp_all
 ·skip
  have hge:¬ k < p.length:=fun h=>of_decide_eq_false hc11 (Int.ofNat_lt.2 h)
  refine AWP.exit (aE (aE (bE ?_)))
  refine aN (wS (wR ?_))
  refine oL (lA (a:=.v _) rfl) rfl rfl ?_
  refine oN (aN ?_)
  refine wT (?_)
  refine ⟨.inr rfl,oV Tryz.results42 rfl rfl ?_⟩
  (refine vb_eq ?_; unfold paiB; rw [allN_end hk hge hj])
end Go.Proofs.YtfelpgeolclnbaaGreatDoor
namespace Go.Proofs.YtfelpgeolclnbaaGreatDoor
set_option linter.unusedVariables false
set_option linter.unusedSimpArgs false
open Go.RowKit
section
variable {P:Program} {τ:Nat→AV} {η:Heap} {d:Option Tmp} {ty:TypeId} {pos:String} {af:Array Edge} {g:Option (Nat×Bool)}
theorem LOp.quoI {t t':Nat} {x y:Operand} {m n:Int} (hx:aev τ x=.v (.int .i64 m)) (hy:aev τ y=.v (.int .i64 n)) (h1:0≤m) (h2:m≤9223372036854775807) (h3:1≤n) :
  LOp P ⟨d,.binOp .quo t x y t',ty,pos,af,g⟩ τ η [] [] (.v (.int .i64 (m / n))) :=
 .look [] fun C a _ hxs _=>by
  have e1:=hxs x (by simp [Op.operands])
  have e2:=hxs y (by simp [Op.operands])
  rw [hx] at e1
  rw [hy] at e2
  refine ⟨.int .i64 (m / n),?_,VR.v C _⟩
  rw [← Go.IntWalk.i64_quo m n ⟨h1,h2,h3⟩]
  have h0:¬ (n=0):=by omega
  simp only [execOp,e1.v_inv,e2.v_inv]
  simp [binOp,Op.intArith,Op.intDiv,eqGuard,h0,Sem.run_bind]
theorem LOp.mulI {t t':Nat} {x y:Operand} {m n:Int} (hx:aev τ x=.v (.int .i64 m)) (hy:aev τ y=.v (.int .i64 n)) (h1:-9223372036854775808≤m * n) (h2:m * n≤9223372036854775807) :
  LOp P ⟨d,.binOp .mul t x y t',ty,pos,af,g⟩ τ η [] [] (.v (.int .i64 (m * n))) :=
 .look [] fun C a _ hxs _=>by
  have e1:=hxs x (by simp [Op.operands])
  have e2:=hxs y (by simp [Op.operands])
  rw [hx] at e1
  rw [hy] at e2
  refine ⟨.int .i64 (m * n),?_,VR.v C _⟩
  rw [← Go.IntWalk.i64_in (m * n) ⟨h1,h2⟩]
  simp only [execOp,e1.v_inv,e2.v_inv]
  rfl
end
/-- The bound of a variable. -/
def fB (f:PLin) (l:List PVar) (bs:List Int) (j:Nat):Int:=if (f.cs.getD j default).v≥l.length then bs.getD ((f.cs.getD j default).v - l.length).toNat 0 else 2147483648
def fS (f:PLin) (l:List PVar) (bs:List Int):Nat→Int
 | 0=>absI f.k
 | j+1=>fS f l bs j+absI (f.cs.getD j default).n * fB f l bs j
def fBad (f:PLin) (l:List PVar) (bs:List Int) (j:Nat):Bool :=
 decide ((f.cs.getD j default).v < 0)||decide ((f.cs.getD j default).v≥(l.length:Int)+bs.length)||(decide (0 < j)&&decide ((f.cs.getD (j - 1) default).v≥(f.cs.getD j default).v))||(f.cs.getD j default).n==0||!wiB (f.cs.getD j default).n (-1048576) 1048576
def fTy (f:PLin) (nn:List Int) (l:List PVar) (j:Nat):Bool:=decide ((f.cs.getD j default).v < l.length)&&(!((l.getD (f.cs.getD j default).v.toNat default).t==1)||!hasB nn (f.cs.getD j default).v)
def fOk (f:PLin) (nn:List Int) (l:List PVar) (bs:List Int) (j:Nat):Bool :=
 !fBad f l bs j&&!fTy f nn l j&&decide (fB f l bs j≤1152921504606846977 / absI (f.cs.getD j default).n)&&decide (fS f l bs (j+1)≤1152921504606846977)
/-- The bound of a linear form, or -1. -/
def fV (f:PLin) (nn:List Int) (l:List PVar) (bs:List Int):Int:=if wiB f.k (-1099511627777) 1099511627777&&allN f.cs.length (fOk f nn l bs) then fS f l bs f.cs.length else -1
theorem absI_nn (v:Int):0≤absI v:=by unfold absI; split <;> omega
theorem fB_nn {f:PLin} {l:List PVar} {bs:List Int} (hbs:∀ b∈bs,0≤b∧b≤4611686018427387904) (j:Nat):0≤fB f l bs j:=by
 unfold fB
 split
 ·by_cases h:((f.cs.getD j default).v - l.length).toNat < bs.length
  ·rw [getD_at h]; exact (hbs _ (List.getElem_mem _)).1
  ·rw [getD_none h]; exact Int.le_refl 0
 ·omega
theorem fS_rng {f:PLin} {nn:List Int} {l:List PVar} {bs:List Int} (hw:wiB f.k (-1099511627777) 1099511627777=true) (hbs:∀ b∈bs,0≤b∧b≤4611686018427387904) {k:Nat} (hj:∀ j,j < k→fOk f nn l bs j=true):∀ i,i≤k→0≤fS f l bs i∧fS f l bs i≤1152921504606846977
 | 0,_=>by
  have h1:=absI_nn f.k
  simp only [wiB,Bool.and_eq_true,decide_eq_true_eq] at hw
  refine ⟨h1,?_⟩
  show absI f.k≤_
  unfold absI
  split <;> omega
 | i+1,h=>by
  have ih:=fS_rng hw hbs hj i (by omega)
  have h1:=hj i (by omega)
  simp only [fOk,Bool.and_eq_true,decide_eq_true_eq] at h1
  refine ⟨?_,h1.2⟩
  have h2:=Int.mul_nonneg (absI_nn (f.cs.getD i default).n) (fB_nn (f:=f) (l:=l) hbs i)
  show 0≤fS f l bs i+absI (f.cs.getD i default).n * fB f l bs i
  omega
theorem fV_k {f:PLin} {nn:List Int} {l:List PVar} {bs:List Int} (h:wiB f.k (-1099511627777) 1099511627777=false):-1=fV f nn l bs:=by unfold fV; rw [h]; rfl
theorem fV_hit {f:PLin} {nn:List Int} {l:List PVar} {bs:List Int} {k:Nat} (hlt:k < f.cs.length) (h:fOk f nn l bs k=false):-1=fV f nn l bs:=by unfold fV; rw [allN_hit hlt h]; simp
theorem fV_end {f:PLin} {nn:List Int} {l:List PVar} {bs:List Int} {k:Nat} (h0:wiB f.k (-1099511627777) 1099511627777=true) (hk:k≤f.cs.length) (hge:¬ k < f.cs.length) (hj:∀ j,j < k→fOk f nn l bs j=true):fS f l bs k=fV f nn l bs:=by
 unfold fV; rw [allN_end hk hge hj,h0]
 have:k=f.cs.length:=by omega
 subst this; rfl
theorem bod71:bodied Tryz.prog 71=true:=by kernel_rfl
theorem bod40:bodied Tryz.prog 40=true:=by kernel_rfl
theorem fi95_0:fieldInfo Tryz.prog 95 0=some (0,1):=by kernel_rfl
theorem fi95_1:fieldInfo Tryz.prog 95 1=some (1,1):=by kernel_rfl
theorem fi98_0:fieldInfo Tryz.prog 98 0=some (0,1):=by kernel_rfl
theorem fi98_1:fieldInfo Tryz.prog 98 1=some (1,1):=by kernel_rfl
theorem row95:rowOf Tryz.prog 95=some (some 2):=by kernel_rfl
theorem row96:rowOf Tryz.prog 96=some none:=by kernel_rfl
theorem sz95:sizeInfo Tryz.prog 95=some 2:=by kernel_rfl
theorem sz2:sizeInfo Tryz.prog 2=some 1:=by kernel_rfl
theorem zr95:zeroOf Tryz.prog 95=some (.agg #[.int .i64 0,.int .i64 0]):=by kernel_rfl
set_option maxRecDepth 100000 in
set_option maxHeartbeats 4000000 in
theorem form_p (f:PLin) (c:PCl) (l:List PVar) (bs:List Int) (hf:f.cs.length≤1000) (hn:c.nn.length≤1000) (hl:l.length≤1000) (hb:bs.length≤1000) (hbs:∀ b∈bs,0≤b∧b≤4611686018427387904):PCall Tryz.prog 39 [.agg (liA f),.agg (clA c),vsA l,isA bs] (.v (.int .i64 (fV f c.nn l bs))):=by
 refine pB Tryz.func39 rfl Tryz.ntmps39 (Nat.le_of_ble_eq_true rfl) ?_
 refine wS (wR ?_)
 refine oW (LOp.bx rfl) rfl rfl 1 rfl ?_
 refine oW (LOp.bx rfl) rfl rfl 2 rfl ?_
 refine oL (lA (a:=.v _) rfl) rfl rfl ?_
 refine oN (aN (wS (wS (wR ?_))))
 refine oL (lF fi98_0 rfl rfl rfl rfl rfl) rfl rfl ?_
 refine oL (lD row2 rfl rfl rfl rfl rfl) rfl rfl ?_
 refine oL (LOp.call bod40 rfl (wi_p f.k (-1099511627777) 1099511627777)) rfl rfl ?_
 refine oL (lP rfl (fun _ _=>nofun) (fun _=>rfl)) rfl rfl ?_
 refine oN (aN ?_)
 refine wC rfl (fun hc16=>?_) (fun hc16=>?_)
 ·skip
  refine wS (wR ?_)
  refine oL (lA (a:=.v _) rfl) rfl rfl ?_
  refine oN (aN ?_)
  refine wT (aR (?_))
  refine ⟨.inr rfl,oV Tryz.results39 rfl rfl ?_⟩
  exact vi_eq (fV_k (by simpa using hc16))
 ·skip
  have hw:wiB f.k (-1099511627777) 1099511627777=true:=by simpa using hc16
  have hk0:f.k≠-9223372036854775808∧-9223372036854775808≤f.k∧f.k≤9223372036854775807:=by simp [wiB] at hw; omega
  refine wK (aN (wS (wR ?_)))
  refine oL (lF fi98_0 rfl rfl rfl rfl rfl) rfl rfl ?_
  refine oL (lD row2 rfl rfl rfl rfl rfl) rfl rfl ?_
  refine oL (LOp.call bod71 rfl (abs_p f.k hk0.1 hk0.2.1 hk0.2.2)) rfl rfl ?_
  refine oL (lA (a:=.v _) rfl) rfl rfl ?_
  refine oN (aN (wS (wS (wR ?_))))
  refine oL (lA (a:=.v _) rfl) rfl rfl ?_
  refine oN (aN (wB ?_))
  refine wL (fun n s=>∃ k:Nat,n=(f.cs.length - k)∧s=⟨fL [(2,vsA l),(3,isA bs),(4,.ptr 0 0 0),(5,.ptr 1 0 0),(9,.v (.int .i64 (fS f l bs k))),(10,.v (.int .i64 ((k:Nat):Int)))],hLz [(0,⟨0,liA f,0,false⟩),(1,⟨0,clA c,0,false⟩)],2⟩∧(k≤f.cs.length∧∀ j,j < k→fOk f c.nn l bs j=true)) (n:=(f.cs.length - 0)) (s1:=⟨fL [(2,vsA l),(3,isA bs),(4,.ptr 0 0 0),(5,.ptr 1 0 0),(9,.v (.int .i64 (fS f l bs 0))),(10,.v (.int .i64 ((0:Nat):Int)))],hLz [(0,⟨0,liA f,0,false⟩),(1,⟨0,clA c,0,false⟩)],2⟩) (cO (.cons rfl rfl (.cons rfl rfl (.cons rfl rfl (.cons rfl rfl (.cons (by first | rfl | exact vi_eq (by rw [hs,hfb])) rfl (.cons rfl rfl .nil)))))) (.cons rfl rfl rfl (.cons rfl rfl rfl .nil))) ⟨0,rfl,rfl,⟨Nat.zero_le _,fun j h=>absurd h (Nat.not_lt_zero j)⟩⟩ ?_
  rintro n s ⟨k,rfl,rfl,hinv⟩
  obtain ⟨hk,hj⟩:=hinv
  have hsum:∀ i,i≤k→0≤fS f l bs i∧fS f l bs i≤1152921504606846977:=fS_rng hw hbs hj
  refine wS (wS (wR ?_))
  refine oL (lM (a:=.v _) rfl) rfl rfl ?_
  refine oL (lF fi98_1 rfl rfl rfl rfl rfl) rfl rfl ?_
  refine oL (lD row96 rfl rfl rfl rfl rfl) rfl rfl ?_
  refine oL (lT rfl Tryz.underlying96 rfl) rfl rfl ?_
  refine oL (lP rfl (fun _ _=>nofun) (fun _=>rfl)) rfl rfl ?_
  refine oN (aN ?_)
  refine wC rfl (fun hc24=>?_) (fun hc24=>?_)
  ·skip
   have hlt:k < f.cs.length:=Int.ofNat_lt.1 (of_decide_eq_true hc24)
   have ex:f.cs.getD k default=f.cs[k]:=getD_at hlt
   refine wK (aN (wS (wB (wS (wR ?_)))))
   refine oL (lF fi98_1 rfl rfl rfl rfl rfl) rfl rfl ?_
   refine oL (lD row96 rfl rfl rfl rfl rfl) rfl rfl ?_
   refine oL (lM (a:=.v _) rfl) rfl rfl ?_
   refine oL (lI Tryz.underlying96 sz95 rfl rfl (by first | assumption | omega)) rfl rfl ?_
   refine oL (LOp.ldTN row95 rfl rfl) rfl rfl ?_
   refine oW (LOp.al zr95 rfl) rfl rfl 3 rfl ?_
   refine AOps.wr (LOp.st sz95 rfl rfl rfl rfl rfl rfl rfl rfl) rfl rfl rfl ?_
   refine oN (aN (wS (wS (AWP.regD mixed ?_))))
   refine qL (lF fi95_0 rfl rfl rfl rfl rfl) rfl rfl ?_
   refine qL (lD row3 rfl rfl rfl rfl rfl) rfl rfl ?_
   refine qL (lP rfl (fun _ _=>nofun) (fun _=>rfl)) rfl rfl ?_
   refine qL (lM (a:=.v _) rfl) rfl rfl ?_
   refine SeqC.splitB 35 rfl (fun hg35=>?_) (fun hg35=>?_)
   ·skip
    refine qS rfl rfl ?_
    refine qS rfl rfl ?_
    refine qS rfl rfl ?_
    refine qS rfl rfl ?_
    refine qS rfl rfl ?_
    refine qS rfl rfl ?_
    refine qS rfl rfl ?_
    refine qS rfl rfl ?_
    refine qL (LOp.pkT (a:=.v _) rfl (by first | rfl | assumption) rfl) rfl rfl ?_
    refine qL (lM (a:=.v _) rfl) rfl rfl ?_
    refine qS rfl rfl ?_
    refine qS rfl rfl ?_
    refine qS rfl rfl ?_
    refine qS rfl rfl ?_
    refine qS rfl rfl ?_
    refine qS rfl rfl ?_
    refine qS rfl rfl ?_
    refine qS rfl rfl ?_
    refine qS rfl rfl ?_
    refine qS rfl rfl ?_
    refine qS rfl rfl ?_
    refine qS rfl rfl ?_
    refine qS rfl rfl ?_
    refine qS rfl rfl ?_
    refine qL (LOp.pkT (a:=.v _) rfl (by first | rfl | assumption) rfl) rfl rfl ?_
    refine qL (lM (a:=.v _) rfl) rfl rfl ?_
    refine qS rfl rfl ?_
    refine qS rfl rfl ?_
    refine qS rfl rfl ?_
    refine qL (LOp.pkT (a:=.v _) rfl (by first | rfl | assumption) rfl) rfl rfl ?_
    refine qL (lM (a:=.v _) rfl) rfl rfl ?_
    refine qS rfl rfl ?_
    refine qS rfl rfl ?_
    refine qS rfl rfl ?_
    refine qS rfl rfl ?_
    refine qL (LOp.pkT (a:=.v _) rfl (by first | rfl | assumption) rfl) rfl rfl ?_
    refine SeqC.nil ⟨by kernel_rfl,?_⟩
    refine aN ?_
    refine AWP.condT rfl ?_
    refine wS (wR ?_)
    refine oL (lA (a:=.v _) rfl) rfl rfl ?_
    refine oN (aN ?_)
    refine wT (aR (bR (aR (aR (bR (aR (?_)))))))
    refine ⟨.inr rfl,oV Tryz.results39 rfl rfl ?_⟩
    ((have hbad:fBad f l bs k=true:=by (first | (simp only [fBad,ex,ek1]; simp_all; done) | (simp only [fBad,ex]; simp_all; done))); exact vi_eq (fV_hit hlt (by simp [fOk,hbad])))
   ·skip
    refine qL (lF fi95_0 rfl rfl rfl rfl rfl) rfl rfl ?_
    refine qL (lD row3 rfl rfl rfl rfl rfl) rfl rfl ?_
    refine qL (lM (a:=.tree _ _) rfl) rfl rfl ?_
    refine qL (lT rfl Tryz.underlying34 rfl) rfl rfl ?_
    refine qL (lM (a:=.tree _ _) rfl) rfl rfl ?_
    refine qL (lT rfl Tryz.underlying46 rfl) rfl rfl ?_
    refine qL (lJ rfl rfl (by omega) (by omega)) rfl rfl ?_
    refine qL (lP rfl (fun _ _=>nofun) (fun _=>rfl)) rfl rfl ?_
    refine qL (lK rfl rfl rfl) rfl rfl ?_
    refine qL (lM (a:=.v _) rfl) rfl rfl ?_
    refine SeqC.splitB 45 rfl (fun hg45=>?_) (fun hg45=>?_)
    ·skip
     refine qS rfl rfl ?_
     refine qS rfl rfl ?_
     refine qS rfl rfl ?_
     refine qS rfl rfl ?_
     refine qS rfl rfl ?_
     refine qS rfl rfl ?_
     refine qS rfl rfl ?_
     refine qS rfl rfl ?_
     refine qS rfl rfl ?_
     refine qS rfl rfl ?_
     refine qS rfl rfl ?_
     refine qS rfl rfl ?_
     refine qS rfl rfl ?_
     refine qS rfl rfl ?_
     refine qL (LOp.pkT (a:=.v _) rfl (by first | rfl | assumption) rfl) rfl rfl ?_
     refine qL (lM (a:=.v _) rfl) rfl rfl ?_
     refine qS rfl rfl ?_
     refine qS rfl rfl ?_
     refine qS rfl rfl ?_
     refine qL (LOp.pkT (a:=.v _) rfl (by first | rfl | assumption) rfl) rfl rfl ?_
     refine qL (lM (a:=.v _) rfl) rfl rfl ?_
     refine qS rfl rfl ?_
     refine qS rfl rfl ?_
     refine qS rfl rfl ?_
     refine qS rfl rfl ?_
     refine qL (LOp.pkT (a:=.v _) rfl (by first | rfl | assumption) rfl) rfl rfl ?_
     refine SeqC.nil ⟨by kernel_rfl,?_⟩
     refine aN ?_
     refine AWP.condT rfl ?_
     refine wS (wR ?_)
     refine oL (lA (a:=.v _) rfl) rfl rfl ?_
     refine oN (aN ?_)
     refine wT (aR (bR (aR (aR (bR (aR (?_)))))))
     refine ⟨.inr rfl,oV Tryz.results39 rfl rfl ?_⟩
     ((have hbad:fBad f l bs k=true:=by (first | (simp only [fBad,ex,ek1]; simp_all; done) | (simp only [fBad,ex]; simp_all; done))); exact vi_eq (fV_hit hlt (by simp [fOk,hbad])))
    ·skip
     refine qL (lM (a:=.v _) rfl) rfl rfl ?_
     refine qL (lP rfl (fun _ _=>nofun) (fun _=>rfl)) rfl rfl ?_
     refine qL (lM (a:=.v _) rfl) rfl rfl ?_
     refine SeqC.splitB 48 rfl (fun hg48=>?_) (fun hg48=>?_)
     ·skip
      obtain ⟨k',hk'⟩:∃ k',k=k'+1:=⟨k - 1,by simp at hg48; omega⟩
      have ek1:f.cs.getD (k - 1) default=f.cs[k']'(by omega):=by rw [show k - 1=k' by omega]; exact getD_at (by omega)
      refine qL (lF fi98_1 rfl rfl rfl rfl rfl) rfl rfl ?_
      refine qL (lD row96 rfl rfl rfl rfl rfl) rfl rfl ?_
      refine qL (lM (a:=.v _) rfl) rfl rfl ?_
      refine qL (LOp.subOne rfl rfl hk' (by omega)) rfl rfl ?_
      refine qL (lI Tryz.underlying96 sz95 rfl rfl (by first | assumption | omega)) rfl rfl ?_
      refine qL (LOp.fieldAddrT fi95_0 rfl rfl) rfl rfl ?_
      refine qL (lE row3 rfl rfl) rfl rfl ?_
      refine qL (lF fi95_0 rfl rfl rfl rfl rfl) rfl rfl ?_
      refine qL (lD row3 rfl rfl rfl rfl rfl) rfl rfl ?_
      refine qL (lP rfl (fun _ _=>nofun) (fun _=>rfl)) rfl rfl ?_
      refine qL (lK rfl rfl rfl) rfl rfl ?_
      refine qL (lK rfl rfl rfl) rfl rfl ?_
      refine qL (lM (a:=.v _) rfl) rfl rfl ?_
      refine SeqC.splitB 61 rfl (fun hg61=>?_) (fun hg61=>?_)
      ·skip
       refine qS rfl rfl ?_
       refine qS rfl rfl ?_
       refine qS rfl rfl ?_
       refine qL (LOp.pkT (a:=.v _) rfl (by first | rfl | assumption) rfl) rfl rfl ?_
       refine qL (lM (a:=.v _) rfl) rfl rfl ?_
       refine qS rfl rfl ?_
       refine qS rfl rfl ?_
       refine qS rfl rfl ?_
       refine qS rfl rfl ?_
       refine qL (LOp.pkT (a:=.v _) rfl (by first | rfl | assumption) rfl) rfl rfl ?_
       refine SeqC.nil ⟨by kernel_rfl,?_⟩
       refine aN ?_
       refine AWP.condT rfl ?_
       refine wS (wR ?_)
       refine oL (lA (a:=.v _) rfl) rfl rfl ?_
       refine oN (aN ?_)
       refine wT (aR (bR (aR (aR (bR (aR (?_)))))))
       refine ⟨.inr rfl,oV Tryz.results39 rfl rfl ?_⟩
       ((have hbad:fBad f l bs k=true:=by (first | (simp only [fBad,ex,ek1]; simp_all; done) | (simp only [fBad,ex]; simp_all; done))); exact vi_eq (fV_hit hlt (by simp [fOk,hbad])))
      ·skip
       refine qL (lF fi95_1 rfl rfl rfl rfl rfl) rfl rfl ?_
       refine qL (lD row2 rfl rfl rfl rfl rfl) rfl rfl ?_
       refine qL (lP rfl (fun _ _=>nofun) (fun _=>rfl)) rfl rfl ?_
       refine qL (lK rfl rfl rfl) rfl rfl ?_
       refine qL (lM (a:=.v _) rfl) rfl rfl ?_
       refine SeqC.splitB 66 rfl (fun hg66=>?_) (fun hg66=>?_)
       ·skip
        refine qS rfl rfl ?_
        refine qS rfl rfl ?_
        refine qS rfl rfl ?_
        refine qS rfl rfl ?_
        refine qL (LOp.pkT (a:=.v _) rfl (by first | rfl | assumption) rfl) rfl rfl ?_
        refine SeqC.nil ⟨by kernel_rfl,?_⟩
        refine aN ?_
        refine AWP.condT rfl ?_
        refine wS (wR ?_)
        refine oL (lA (a:=.v _) rfl) rfl rfl ?_
        refine oN (aN ?_)
        refine wT (aR (bR (aR (aR (bR (aR (?_)))))))
        refine ⟨.inr rfl,oV Tryz.results39 rfl rfl ?_⟩
        ((have hbad:fBad f l bs k=true:=by (first | (simp only [fBad,ex,ek1]; simp_all; done) | (simp only [fBad,ex]; simp_all; done))); exact vi_eq (fV_hit hlt (by simp [fOk,hbad])))
       ·skip
        refine qL (lF fi95_1 rfl rfl rfl rfl rfl) rfl rfl ?_
        refine qL (lD row2 rfl rfl rfl rfl rfl) rfl rfl ?_
        refine qL (LOp.call bod40 rfl (wi_p f.cs[k].n (-1048576) 1048576)) rfl rfl ?_
        refine qL (lP rfl (fun _ _=>nofun) (fun _=>rfl)) rfl rfl ?_
        refine qL (lK rfl rfl rfl) rfl rfl ?_
        refine SeqC.nil ⟨by kernel_rfl,?_⟩
        refine aN ?_
        refine wC rfl (fun hc71=>?_) (fun hc71=>?_)
        ·skip
         refine wS (wR ?_)
         refine oL (lA (a:=.v _) rfl) rfl rfl ?_
         refine oN (aN ?_)
         refine wT (aR (bR (aR (aR (bR (aR (?_)))))))
         refine ⟨.inr rfl,oV Tryz.results39 rfl rfl ?_⟩
         ((have hbad:fBad f l bs k=true:=by (first | (simp only [fBad,ex,ek1]; simp_all; done) | (simp only [fBad,ex]; simp_all; done))); exact vi_eq (fV_hit hlt (by simp [fOk,hbad])))
        ·skip
         have hbad:fBad f l bs k=false:=by first | (simp only [fBad,ex,ek1]; simp_all; done) | (simp only [fBad,ex]; simp_all; done)
         have hx:0≤f.cs[k].v∧f.cs[k].v < (l.length:Int)+bs.length∧f.cs[k].n≠0∧-1048576≤f.cs[k].n∧f.cs[k].n≤1048576:=by
          simp only [fBad,ex,wiB,Bool.or_eq_false_iff,decide_eq_false_iff_not,beq_eq_false_iff_ne,Bool.not_eq_false',Bool.and_eq_true,decide_eq_true_eq] at hbad
          omega
         have ha:1≤absI f.cs[k].n:=by unfold absI; split <;> omega
         refine wK (aN (wS (wR ?_)))
         refine oL (lA (a:=.v _) rfl) rfl rfl ?_
         refine oN (aN (wS (wS (wR ?_))))
         refine oL (lF fi95_0 rfl rfl rfl rfl rfl) rfl rfl ?_
         refine oL (lD row3 rfl rfl rfl rfl rfl) rfl rfl ?_
         refine oL (lM (a:=.tree _ _) rfl) rfl rfl ?_
         refine oL (lT rfl Tryz.underlying34 rfl) rfl rfl ?_
         refine oL (lP rfl (fun _ _=>nofun) (fun _=>rfl)) rfl rfl ?_
         refine oN (aN ?_)
         refine wC rfl (fun hc76=>?_) (fun hc76=>?_)
         ·skip
          have hge2:f.cs[k].v≥l.length:=of_decide_eq_true hc76
          obtain ⟨j,hjv⟩:=Int.eq_ofNat_of_zero_le (show 0≤f.cs[k].v - l.length by omega)
          have hjl:j < bs.length:=by omega
          have hfb:fB f l bs k=bs[j]:=by unfold fB; rw [ex,if_pos hge2,hjv]; simp [List.getD,hjl]
          have hfbb:0≤fB f l bs k∧fB f l bs k≤4611686018427387904:=by rw [hfb]; exact hbs _ (List.getElem_mem _)
          have hty:fTy f c.nn l k=false:=by unfold fTy; rw [ex]; simp; intro; omega
          refine wR ?_
          refine oL (lM (a:=.tree _ _) rfl) rfl rfl ?_
          refine oL (lF fi95_0 rfl rfl rfl rfl rfl) rfl rfl ?_
          refine oL (lD row3 rfl rfl rfl rfl rfl) rfl rfl ?_
          refine oL (lM (a:=.tree _ _) rfl) rfl rfl ?_
          refine oL (lT rfl Tryz.underlying34 rfl) rfl rfl ?_
          refine oL (LOp.subI rfl rfl (by omega) (by omega)) rfl rfl ?_
          refine oL (LOp.indexI Tryz.underlying46 sz2 rfl rfl hjv hjl) rfl rfl ?_
          refine oL (lE row2 rfl rfl) rfl rfl ?_
          refine oL (lA (a:=.v _) rfl) rfl rfl ?_
          refine oN (aN (wS (wS (wR ?_))))
          refine oL (lM (a:=.v _) rfl) rfl rfl ?_
          refine oL (lF fi95_1 rfl rfl rfl rfl rfl) rfl rfl ?_
          refine oL (lD row2 rfl rfl rfl rfl rfl) rfl rfl ?_
          refine oL (LOp.call bod71 rfl (abs_p f.cs[k].n (by omega) (by omega) (by omega))) rfl rfl ?_
          refine oL (LOp.quoI rfl rfl (by decide) (by decide) ha) rfl rfl ?_
          refine oL (lP rfl (fun _ _=>nofun) (fun _=>rfl)) rfl rfl ?_
          refine oN (aN ?_)
          refine wC rfl (fun hc105=>?_) (fun hc105=>?_)
          ·skip
           refine wS (wR ?_)
           refine oL (lA (a:=.v _) rfl) rfl rfl ?_
           refine oN (aN ?_)
           refine wT (aR (bR (aR (aR (bR (aR (?_)))))))
           refine ⟨.inr rfl,oV Tryz.results39 rfl rfl ?_⟩
           exact vi_eq (fV_hit hlt (by have:=of_decide_eq_true hc105; rw [← hfb] at this; simp only [fOk,ex,Bool.and_eq_false_iff,decide_eq_false_iff_not]; left; right; omega))
          ·skip
           have hq:fB f l bs k≤1152921504606846977 / absI f.cs[k].n:=by rw [hfb]; have:=of_decide_eq_false hc105; omega
           have hq1:0≤absI f.cs[k].n * fB f l bs k∧absI f.cs[k].n * fB f l bs k≤1152921504606846977:=⟨Int.mul_nonneg (absI_nn _) hfbb.1,by have:=Int.mul_le_mul_of_nonneg_left hq (absI_nn f.cs[k].n); have h2:=Int.mul_ediv_self_le (x:=1152921504606846977) (k:=absI f.cs[k].n) (by omega); omega⟩
           have hs:fS f l bs (k+1)=fS f l bs k+absI f.cs[k].n * fB f l bs k:=by show fS f l bs k+absI (f.cs.getD k default).n * fB f l bs k=_; rw [ex]
           have hsk:0≤fS f l bs k∧fS f l bs k≤1152921504606846977:=hsum k (Nat.le_refl _)
           refine wK (aN (wS (wR ?_)))
           refine oL (lM (a:=.v _) rfl) rfl rfl ?_
           refine oL (lF fi95_1 rfl rfl rfl rfl rfl) rfl rfl ?_
           refine oL (lD row2 rfl rfl rfl rfl rfl) rfl rfl ?_
           refine oL (LOp.call bod71 rfl (abs_p f.cs[k].n (by omega) (by omega) (by omega))) rfl rfl ?_
           refine oL (lM (a:=.v _) rfl) rfl rfl ?_
           refine oL (LOp.mulI rfl rfl (by rw [← hfb]; omega) (by rw [← hfb]; omega)) rfl rfl ?_
           refine oL (lJ rfl rfl (by rw [← hfb]; omega) (by rw [← hfb]; omega)) rfl rfl ?_
           refine oL (lA (a:=.v _) rfl) rfl rfl ?_
           refine oN (aN (wS (wR ?_)))
           refine oL (lM (a:=.v _) rfl) rfl rfl ?_
           refine oL (lP rfl (fun _ _=>nofun) (fun _=>rfl)) rfl rfl ?_
           refine oN (aN ?_)
           refine wC rfl (fun hc114=>?_) (fun hc114=>?_)
           ·skip
            refine wS (wR ?_)
            refine oL (lA (a:=.v _) rfl) rfl rfl ?_
            refine oN (aN ?_)
            refine wT (bR (aR (aR (bR (aR (?_))))))
            refine ⟨.inr rfl,oV Tryz.results39 rfl rfl ?_⟩
            exact vi_eq (fV_hit hlt (by have:=of_decide_eq_true hc114; simp only [fOk,hs,Bool.and_eq_false_iff,decide_eq_false_iff_not]; right; rw [hfb]; omega))
           ·skip
            refine wK (bN (aN (wR ?_)))
            refine oL (lM (a:=.v _) rfl) rfl rfl ?_
            refine oL (lJ rfl rfl (by omega) (by omega)) rfl rfl ?_
            refine oL (lA (a:=.v _) rfl) rfl rfl ?_
            refine oN (aN ?_)
            refine ⟨(f.cs.length - (k+1)),⟨fL [(2,vsA l),(3,isA bs),(4,.ptr 0 0 0),(5,.ptr 1 0 0),(9,.v (.int .i64 (fS f l bs (k+1)))),(10,.v (.int .i64 (((k+1):Nat):Int)))],hLz [(0,⟨0,liA f,0,false⟩),(1,⟨0,clA c,0,false⟩)],2⟩,by omega,(cO (.cons rfl rfl (.cons rfl rfl (.cons rfl rfl (.cons rfl rfl (.cons (by first | rfl | exact vi_eq (by rw [hs,hfb])) rfl (.cons rfl rfl .nil)))))) (.cons rfl rfl rfl (.cons rfl rfl rfl .nil))),(k+1),rfl,rfl,?_⟩
            refine ⟨by omega,fun j h=>?_⟩
            rcases Nat.lt_succ_iff_lt_or_eq.1 h with h | rfl
            ·exact hj j h
            ·simp only [fOk,hbad,hty,Bool.not_false,Bool.true_and,Bool.and_eq_true,decide_eq_true_eq]; exact ⟨by rw [ex]; exact hq,by rw [hs,hfb]; have:=of_decide_eq_false hc114; omega⟩
         ·skip
          have hlt2:f.cs[k].v < l.length:=by have:=of_decide_eq_false hc76; omega
          obtain ⟨j,hjv⟩:=Int.eq_ofNat_of_zero_le hx.1
          have hjl:j < l.length:=by omega
          have hfb:fB f l bs k=2147483648:=by unfold fB; rw [ex,if_neg (by omega)]
          have hfbb:0≤fB f l bs k∧fB f l bs k≤4611686018427387904:=by rw [hfb]; decide
          have ev:l.getD f.cs[k].v.toNat default=l[j]:=by rw [hjv]; simp [List.getD,hjl]
          refine wS (wR ?_)
          refine oL (lM (a:=.tree _ _) rfl) rfl rfl ?_
          refine oL (lF fi95_0 rfl rfl rfl rfl rfl) rfl rfl ?_
          refine oL (lD row3 rfl rfl rfl rfl rfl) rfl rfl ?_
          refine oL (LOp.indexI Tryz.underlying34 sz80 rfl rfl hjv hjl) rfl rfl ?_
          refine oL (LOp.fieldAddrT fi80_0 rfl rfl) rfl rfl ?_
          refine oL (lE row3 rfl rfl) rfl rfl ?_
          refine oL (lP rfl (fun _ _=>nofun) (fun _=>rfl)) rfl rfl ?_
          refine oL (lM (a:=.v _) rfl) rfl rfl ?_
          refine oB 92 rfl (fun hg92=>?_) (fun hg92=>?_)
          ·skip
           refine oS rfl rfl ?_
           refine oS rfl rfl ?_
           refine oS rfl rfl ?_
           refine oS rfl rfl ?_
           refine oS rfl rfl ?_
           refine oS rfl rfl ?_
           refine oL (LOp.pkT (a:=.v _) rfl (by first | rfl | assumption) rfl) rfl rfl ?_
           refine oN (aN ?_)
           refine AWP.condT rfl ?_
           refine wS (wR ?_)
           refine oL (lA (a:=.v _) rfl) rfl rfl ?_
           refine oN (aN ?_)
           refine wT (aR (bR (aR (aR (bR (aR (?_)))))))
           refine ⟨.inr rfl,oV Tryz.results39 rfl rfl ?_⟩
           ((have hty:fTy f c.nn l k=true:=by (simp only [fTy,ex,ev]; simp_all; done)); exact vi_eq (fV_hit hlt (by simp [fOk,hty])))
          ·skip
           refine oL (lF fi76_1 rfl rfl rfl rfl rfl) rfl rfl ?_
           refine oL (lD row70 rfl rfl rfl rfl rfl) rfl rfl ?_
           refine oL (lF fi95_0 rfl rfl rfl rfl rfl) rfl rfl ?_
           refine oL (lD row3 rfl rfl rfl rfl rfl) rfl rfl ?_
           refine oL (LOp.call bod70 rfl (has_p c.nn f.cs[k].v hn)) rfl rfl ?_
           refine oL (lP rfl (fun _ _=>nofun) (fun _=>rfl)) rfl rfl ?_
           refine oL (lK rfl rfl rfl) rfl rfl ?_
           refine oN (aN ?_)
           refine wC rfl (fun hc99=>?_) (fun hc99=>?_)
           ·skip
            refine wS (wR ?_)
            refine oL (lA (a:=.v _) rfl) rfl rfl ?_
            refine oN (aN ?_)
            refine wT (aR (bR (aR (aR (bR (aR (?_)))))))
            refine ⟨.inr rfl,oV Tryz.results39 rfl rfl ?_⟩
            ((have hty:fTy f c.nn l k=true:=by (simp only [fTy,ex,ev]; simp_all; done)); exact vi_eq (fV_hit hlt (by simp [fOk,hty])))
           ·skip
            have hty:fTy f c.nn l k=false:=by simp only [fTy,ex,ev]; simp_all
            refine wK (aN (wS (wS (wR ?_))))
            refine oL (lM (a:=.v _) rfl) rfl rfl ?_
            refine oL (lF fi95_1 rfl rfl rfl rfl rfl) rfl rfl ?_
            refine oL (lD row2 rfl rfl rfl rfl rfl) rfl rfl ?_
            refine oL (LOp.call bod71 rfl (abs_p f.cs[k].n (by omega) (by omega) (by omega))) rfl rfl ?_
            refine oL (LOp.quoI rfl rfl (by decide) (by decide) ha) rfl rfl ?_
            refine oL (lP rfl (fun _ _=>nofun) (fun _=>rfl)) rfl rfl ?_
            refine oN (aN ?_)
            refine wC rfl (fun hc105=>?_) (fun hc105=>?_)
            ·skip
             refine wS (wR ?_)
             refine oL (lA (a:=.v _) rfl) rfl rfl ?_
             refine oN (aN ?_)
             refine wT (aR (bR (aR (aR (bR (aR (?_)))))))
             refine ⟨.inr rfl,oV Tryz.results39 rfl rfl ?_⟩
             exact vi_eq (fV_hit hlt (by have:=of_decide_eq_true hc105; rw [← hfb] at this; simp only [fOk,ex,Bool.and_eq_false_iff,decide_eq_false_iff_not]; left; right; omega))
            ·skip
             have hq:fB f l bs k≤1152921504606846977 / absI f.cs[k].n:=by rw [hfb]; have:=of_decide_eq_false hc105; omega
             have hq1:0≤absI f.cs[k].n * fB f l bs k∧absI f.cs[k].n * fB f l bs k≤1152921504606846977:=⟨Int.mul_nonneg (absI_nn _) hfbb.1,by have:=Int.mul_le_mul_of_nonneg_left hq (absI_nn f.cs[k].n); have h2:=Int.mul_ediv_self_le (x:=1152921504606846977) (k:=absI f.cs[k].n) (by omega); omega⟩
             have hs:fS f l bs (k+1)=fS f l bs k+absI f.cs[k].n * fB f l bs k:=by show fS f l bs k+absI (f.cs.getD k default).n * fB f l bs k=_; rw [ex]
             have hsk:0≤fS f l bs k∧fS f l bs k≤1152921504606846977:=hsum k (Nat.le_refl _)
             refine wK (aN (wS (wR ?_)))
             refine oL (lM (a:=.v _) rfl) rfl rfl ?_
             refine oL (lF fi95_1 rfl rfl rfl rfl rfl) rfl rfl ?_
             refine oL (lD row2 rfl rfl rfl rfl rfl) rfl rfl ?_
             refine oL (LOp.call bod71 rfl (abs_p f.cs[k].n (by omega) (by omega) (by omega))) rfl rfl ?_
             refine oL (lM (a:=.v _) rfl) rfl rfl ?_
             refine oL (LOp.mulI rfl rfl (by rw [← hfb]; omega) (by rw [← hfb]; omega)) rfl rfl ?_
             refine oL (lJ rfl rfl (by rw [← hfb]; omega) (by rw [← hfb]; omega)) rfl rfl ?_
             refine oL (lA (a:=.v _) rfl) rfl rfl ?_
             refine oN (aN (wS (wR ?_)))
             refine oL (lM (a:=.v _) rfl) rfl rfl ?_
             refine oL (lP rfl (fun _ _=>nofun) (fun _=>rfl)) rfl rfl ?_
             refine oN (aN ?_)
             refine wC rfl (fun hc114=>?_) (fun hc114=>?_)
             ·skip
              refine wS (wR ?_)
              refine oL (lA (a:=.v _) rfl) rfl rfl ?_
              refine oN (aN ?_)
              refine wT (bR (aR (aR (bR (aR (?_))))))
              refine ⟨.inr rfl,oV Tryz.results39 rfl rfl ?_⟩
              exact vi_eq (fV_hit hlt (by have:=of_decide_eq_true hc114; simp only [fOk,hs,Bool.and_eq_false_iff,decide_eq_false_iff_not]; right; rw [hfb]; omega))
             ·skip
              refine wK (bN (aN (wR ?_)))
              refine oL (lM (a:=.v _) rfl) rfl rfl ?_
              refine oL (lJ rfl rfl (by omega) (by omega)) rfl rfl ?_
              refine oL (lA (a:=.v _) rfl) rfl rfl ?_
              refine oN (aN ?_)
              refine ⟨(f.cs.length - (k+1)),⟨fL [(2,vsA l),(3,isA bs),(4,.ptr 0 0 0),(5,.ptr 1 0 0),(9,.v (.int .i64 (fS f l bs (k+1)))),(10,.v (.int .i64 (((k+1):Nat):Int)))],hLz [(0,⟨0,liA f,0,false⟩),(1,⟨0,clA c,0,false⟩)],2⟩,by omega,(cO (.cons rfl rfl (.cons rfl rfl (.cons rfl rfl (.cons rfl rfl (.cons (by first | rfl | exact vi_eq (by rw [hs,hfb])) rfl (.cons rfl rfl .nil)))))) (.cons rfl rfl rfl (.cons rfl rfl rfl .nil))),(k+1),rfl,rfl,?_⟩
              refine ⟨by omega,fun j h=>?_⟩
              rcases Nat.lt_succ_iff_lt_or_eq.1 h with h | rfl
              ·exact hj j h
              ·simp only [fOk,hbad,hty,Bool.not_false,Bool.true_and,Bool.and_eq_true,decide_eq_true_eq]; exact ⟨by rw [ex]; exact hq,by rw [hs,hfb]; have:=of_decide_eq_false hc114; omega⟩
     ·skip
      refine qS rfl rfl ?_
      refine qS rfl rfl ?_
      refine qS rfl rfl ?_
      refine qS rfl rfl ?_
      refine qS rfl rfl ?_
      refine qS rfl rfl ?_
      refine qS rfl rfl ?_
      refine qS rfl rfl ?_
      refine qS rfl rfl ?_
      refine qS rfl rfl ?_
      refine qL (LOp.pkF (a:=.v _) rfl (by first | rfl | assumption) rfl) rfl rfl ?_
      refine qL (lK rfl rfl rfl) rfl rfl ?_
      refine qL (lM (a:=.v _) rfl) rfl rfl ?_
      refine qL (lF fi95_1 rfl rfl rfl rfl rfl) rfl rfl ?_
      refine qL (lD row2 rfl rfl rfl rfl rfl) rfl rfl ?_
      refine qL (lP rfl (fun _ _=>nofun) (fun _=>rfl)) rfl rfl ?_
      refine qL (lK rfl rfl rfl) rfl rfl ?_
      refine qL (lM (a:=.v _) rfl) rfl rfl ?_
      refine SeqC.splitB 66 rfl (fun hg66=>?_) (fun hg66=>?_)
      ·skip
       refine qS rfl rfl ?_
       refine qS rfl rfl ?_
       refine qS rfl rfl ?_
       refine qS rfl rfl ?_
       refine qL (LOp.pkT (a:=.v _) rfl (by first | rfl | assumption) rfl) rfl rfl ?_
       refine SeqC.nil ⟨by kernel_rfl,?_⟩
       refine aN ?_
       refine AWP.condT rfl ?_
       refine wS (wR ?_)
       refine oL (lA (a:=.v _) rfl) rfl rfl ?_
       refine oN (aN ?_)
       refine wT (aR (bR (aR (aR (bR (aR (?_)))))))
       refine ⟨.inr rfl,oV Tryz.results39 rfl rfl ?_⟩
       ((have hbad:fBad f l bs k=true:=by (first | (simp only [fBad,ex,ek1]; simp_all; done) | (simp only [fBad,ex]; simp_all; done))); exact vi_eq (fV_hit hlt (by simp [fOk,hbad])))
      ·skip
       refine qL (lF fi95_1 rfl rfl rfl rfl rfl) rfl rfl ?_
       refine qL (lD row2 rfl rfl rfl rfl rfl) rfl rfl ?_
       refine qL (LOp.call bod40 rfl (wi_p f.cs[k].n (-1048576) 1048576)) rfl rfl ?_
       refine qL (lP rfl (fun _ _=>nofun) (fun _=>rfl)) rfl rfl ?_
       refine qL (lK rfl rfl rfl) rfl rfl ?_
       refine SeqC.nil ⟨by kernel_rfl,?_⟩
       refine aN ?_
       refine wC rfl (fun hc71=>?_) (fun hc71=>?_)
       ·skip
        refine wS (wR ?_)
        refine oL (lA (a:=.v _) rfl) rfl rfl ?_
        refine oN (aN ?_)
        refine wT (aR (bR (aR (aR (bR (aR (?_)))))))
        refine ⟨.inr rfl,oV Tryz.results39 rfl rfl ?_⟩
        ((have hbad:fBad f l bs k=true:=by (first | (simp only [fBad,ex,ek1]; simp_all; done) | (simp only [fBad,ex]; simp_all; done))); exact vi_eq (fV_hit hlt (by simp [fOk,hbad])))
       ·skip
        have hbad:fBad f l bs k=false:=by first | (simp only [fBad,ex,ek1]; simp_all; done) | (simp only [fBad,ex]; simp_all; done)
        have hx:0≤f.cs[k].v∧f.cs[k].v < (l.length:Int)+bs.length∧f.cs[k].n≠0∧-1048576≤f.cs[k].n∧f.cs[k].n≤1048576:=by
         simp only [fBad,ex,wiB,Bool.or_eq_false_iff,decide_eq_false_iff_not,beq_eq_false_iff_ne,Bool.not_eq_false',Bool.and_eq_true,decide_eq_true_eq] at hbad
         omega
        have ha:1≤absI f.cs[k].n:=by unfold absI; split <;> omega
        refine wK (aN (wS (wR ?_)))
        refine oL (lA (a:=.v _) rfl) rfl rfl ?_
        refine oN (aN (wS (wS (wR ?_))))
        refine oL (lF fi95_0 rfl rfl rfl rfl rfl) rfl rfl ?_
        refine oL (lD row3 rfl rfl rfl rfl rfl) rfl rfl ?_
        refine oL (lM (a:=.tree _ _) rfl) rfl rfl ?_
        refine oL (lT rfl Tryz.underlying34 rfl) rfl rfl ?_
        refine oL (lP rfl (fun _ _=>nofun) (fun _=>rfl)) rfl rfl ?_
        refine oN (aN ?_)
        refine wC rfl (fun hc76=>?_) (fun hc76=>?_)
        ·skip
         have hge2:f.cs[k].v≥l.length:=of_decide_eq_true hc76
         obtain ⟨j,hjv⟩:=Int.eq_ofNat_of_zero_le (show 0≤f.cs[k].v - l.length by omega)
         have hjl:j < bs.length:=by omega
         have hfb:fB f l bs k=bs[j]:=by unfold fB; rw [ex,if_pos hge2,hjv]; simp [List.getD,hjl]
         have hfbb:0≤fB f l bs k∧fB f l bs k≤4611686018427387904:=by rw [hfb]; exact hbs _ (List.getElem_mem _)
         have hty:fTy f c.nn l k=false:=by unfold fTy; rw [ex]; simp; intro; omega
         refine wR ?_
         refine oL (lM (a:=.tree _ _) rfl) rfl rfl ?_
         refine oL (lF fi95_0 rfl rfl rfl rfl rfl) rfl rfl ?_
         refine oL (lD row3 rfl rfl rfl rfl rfl) rfl rfl ?_
         refine oL (lM (a:=.tree _ _) rfl) rfl rfl ?_
         refine oL (lT rfl Tryz.underlying34 rfl) rfl rfl ?_
         refine oL (LOp.subI rfl rfl (by omega) (by omega)) rfl rfl ?_
         refine oL (LOp.indexI Tryz.underlying46 sz2 rfl rfl hjv hjl) rfl rfl ?_
         refine oL (lE row2 rfl rfl) rfl rfl ?_
         refine oL (lA (a:=.v _) rfl) rfl rfl ?_
         refine oN (aN (wS (wS (wR ?_))))
         refine oL (lM (a:=.v _) rfl) rfl rfl ?_
         refine oL (lF fi95_1 rfl rfl rfl rfl rfl) rfl rfl ?_
         refine oL (lD row2 rfl rfl rfl rfl rfl) rfl rfl ?_
         refine oL (LOp.call bod71 rfl (abs_p f.cs[k].n (by omega) (by omega) (by omega))) rfl rfl ?_
         refine oL (LOp.quoI rfl rfl (by decide) (by decide) ha) rfl rfl ?_
         refine oL (lP rfl (fun _ _=>nofun) (fun _=>rfl)) rfl rfl ?_
         refine oN (aN ?_)
         refine wC rfl (fun hc105=>?_) (fun hc105=>?_)
         ·skip
          refine wS (wR ?_)
          refine oL (lA (a:=.v _) rfl) rfl rfl ?_
          refine oN (aN ?_)
          refine wT (aR (bR (aR (aR (bR (aR (?_)))))))
          refine ⟨.inr rfl,oV Tryz.results39 rfl rfl ?_⟩
          exact vi_eq (fV_hit hlt (by have:=of_decide_eq_true hc105; rw [← hfb] at this; simp only [fOk,ex,Bool.and_eq_false_iff,decide_eq_false_iff_not]; left; right; omega))
         ·skip
          have hq:fB f l bs k≤1152921504606846977 / absI f.cs[k].n:=by rw [hfb]; have:=of_decide_eq_false hc105; omega
          have hq1:0≤absI f.cs[k].n * fB f l bs k∧absI f.cs[k].n * fB f l bs k≤1152921504606846977:=⟨Int.mul_nonneg (absI_nn _) hfbb.1,by have:=Int.mul_le_mul_of_nonneg_left hq (absI_nn f.cs[k].n); have h2:=Int.mul_ediv_self_le (x:=1152921504606846977) (k:=absI f.cs[k].n) (by omega); omega⟩
          have hs:fS f l bs (k+1)=fS f l bs k+absI f.cs[k].n * fB f l bs k:=by show fS f l bs k+absI (f.cs.getD k default).n * fB f l bs k=_; rw [ex]
          have hsk:0≤fS f l bs k∧fS f l bs k≤1152921504606846977:=hsum k (Nat.le_refl _)
          refine wK (aN (wS (wR ?_)))
          refine oL (lM (a:=.v _) rfl) rfl rfl ?_
          refine oL (lF fi95_1 rfl rfl rfl rfl rfl) rfl rfl ?_
          refine oL (lD row2 rfl rfl rfl rfl rfl) rfl rfl ?_
          refine oL (LOp.call bod71 rfl (abs_p f.cs[k].n (by omega) (by omega) (by omega))) rfl rfl ?_
          refine oL (lM (a:=.v _) rfl) rfl rfl ?_
          refine oL (LOp.mulI rfl rfl (by rw [← hfb]; omega) (by rw [← hfb]; omega)) rfl rfl ?_
          refine oL (lJ rfl rfl (by rw [← hfb]; omega) (by rw [← hfb]; omega)) rfl rfl ?_
          refine oL (lA (a:=.v _) rfl) rfl rfl ?_
          refine oN (aN (wS (wR ?_)))
          refine oL (lM (a:=.v _) rfl) rfl rfl ?_
          refine oL (lP rfl (fun _ _=>nofun) (fun _=>rfl)) rfl rfl ?_
          refine oN (aN ?_)
          refine wC rfl (fun hc114=>?_) (fun hc114=>?_)
          ·skip
           refine wS (wR ?_)
           refine oL (lA (a:=.v _) rfl) rfl rfl ?_
           refine oN (aN ?_)
           refine wT (bR (aR (aR (bR (aR (?_))))))
           refine ⟨.inr rfl,oV Tryz.results39 rfl rfl ?_⟩
           exact vi_eq (fV_hit hlt (by have:=of_decide_eq_true hc114; simp only [fOk,hs,Bool.and_eq_false_iff,decide_eq_false_iff_not]; right; rw [hfb]; omega))
          ·skip
           refine wK (bN (aN (wR ?_)))
           refine oL (lM (a:=.v _) rfl) rfl rfl ?_
           refine oL (lJ rfl rfl (by omega) (by omega)) rfl rfl ?_
           refine oL (lA (a:=.v _) rfl) rfl rfl ?_
           refine oN (aN ?_)
           refine ⟨(f.cs.length - (k+1)),⟨fL [(2,vsA l),(3,isA bs),(4,.ptr 0 0 0),(5,.ptr 1 0 0),(9,.v (.int .i64 (fS f l bs (k+1)))),(10,.v (.int .i64 (((k+1):Nat):Int)))],hLz [(0,⟨0,liA f,0,false⟩),(1,⟨0,clA c,0,false⟩)],2⟩,by omega,(cO (.cons rfl rfl (.cons rfl rfl (.cons rfl rfl (.cons rfl rfl (.cons (by first | rfl | exact vi_eq (by rw [hs,hfb])) rfl (.cons rfl rfl .nil)))))) (.cons rfl rfl rfl (.cons rfl rfl rfl .nil))),(k+1),rfl,rfl,?_⟩
           refine ⟨by omega,fun j h=>?_⟩
           rcases Nat.lt_succ_iff_lt_or_eq.1 h with h | rfl
           ·exact hj j h
           ·simp only [fOk,hbad,hty,Bool.not_false,Bool.true_and,Bool.and_eq_true,decide_eq_true_eq]; exact ⟨by rw [ex]; exact hq,by rw [hs,hfb]; have:=of_decide_eq_false hc114; omega⟩
        ·skip
         have hlt2:f.cs[k].v < l.length:=by have:=of_decide_eq_false hc76; omega
         obtain ⟨j,hjv⟩:=Int.eq_ofNat_of_zero_le hx.1
         have hjl:j < l.length:=by omega
         have hfb:fB f l bs k=2147483648:=by unfold fB; rw [ex,if_neg (by omega)]
         have hfbb:0≤fB f l bs k∧fB f l bs k≤4611686018427387904:=by rw [hfb]; decide
         have ev:l.getD f.cs[k].v.toNat default=l[j]:=by rw [hjv]; simp [List.getD,hjl]
         refine wS (wR ?_)
         refine oL (lM (a:=.tree _ _) rfl) rfl rfl ?_
         refine oL (lF fi95_0 rfl rfl rfl rfl rfl) rfl rfl ?_
         refine oL (lD row3 rfl rfl rfl rfl rfl) rfl rfl ?_
         refine oL (LOp.indexI Tryz.underlying34 sz80 rfl rfl hjv hjl) rfl rfl ?_
         refine oL (LOp.fieldAddrT fi80_0 rfl rfl) rfl rfl ?_
         refine oL (lE row3 rfl rfl) rfl rfl ?_
         refine oL (lP rfl (fun _ _=>nofun) (fun _=>rfl)) rfl rfl ?_
         refine oL (lM (a:=.v _) rfl) rfl rfl ?_
         refine oB 92 rfl (fun hg92=>?_) (fun hg92=>?_)
         ·skip
          refine oS rfl rfl ?_
          refine oS rfl rfl ?_
          refine oS rfl rfl ?_
          refine oS rfl rfl ?_
          refine oS rfl rfl ?_
          refine oS rfl rfl ?_
          refine oL (LOp.pkT (a:=.v _) rfl (by first | rfl | assumption) rfl) rfl rfl ?_
          refine oN (aN ?_)
          refine AWP.condT rfl ?_
          refine wS (wR ?_)
          refine oL (lA (a:=.v _) rfl) rfl rfl ?_
          refine oN (aN ?_)
          refine wT (aR (bR (aR (aR (bR (aR (?_)))))))
          refine ⟨.inr rfl,oV Tryz.results39 rfl rfl ?_⟩
          ((have hty:fTy f c.nn l k=true:=by (simp only [fTy,ex,ev]; simp_all; done)); exact vi_eq (fV_hit hlt (by simp [fOk,hty])))
         ·skip
          refine oL (lF fi76_1 rfl rfl rfl rfl rfl) rfl rfl ?_
          refine oL (lD row70 rfl rfl rfl rfl rfl) rfl rfl ?_
          refine oL (lF fi95_0 rfl rfl rfl rfl rfl) rfl rfl ?_
          refine oL (lD row3 rfl rfl rfl rfl rfl) rfl rfl ?_
          refine oL (LOp.call bod70 rfl (has_p c.nn f.cs[k].v hn)) rfl rfl ?_
          refine oL (lP rfl (fun _ _=>nofun) (fun _=>rfl)) rfl rfl ?_
          refine oL (lK rfl rfl rfl) rfl rfl ?_
          refine oN (aN ?_)
          refine wC rfl (fun hc99=>?_) (fun hc99=>?_)
          ·skip
           refine wS (wR ?_)
           refine oL (lA (a:=.v _) rfl) rfl rfl ?_
           refine oN (aN ?_)
           refine wT (aR (bR (aR (aR (bR (aR (?_)))))))
           refine ⟨.inr rfl,oV Tryz.results39 rfl rfl ?_⟩
           ((have hty:fTy f c.nn l k=true:=by (simp only [fTy,ex,ev]; simp_all; done)); exact vi_eq (fV_hit hlt (by simp [fOk,hty])))
          ·skip
           have hty:fTy f c.nn l k=false:=by simp only [fTy,ex,ev]; simp_all
           refine wK (aN (wS (wS (wR ?_))))
           refine oL (lM (a:=.v _) rfl) rfl rfl ?_
           refine oL (lF fi95_1 rfl rfl rfl rfl rfl) rfl rfl ?_
           refine oL (lD row2 rfl rfl rfl rfl rfl) rfl rfl ?_
           refine oL (LOp.call bod71 rfl (abs_p f.cs[k].n (by omega) (by omega) (by omega))) rfl rfl ?_
           refine oL (LOp.quoI rfl rfl (by decide) (by decide) ha) rfl rfl ?_
           refine oL (lP rfl (fun _ _=>nofun) (fun _=>rfl)) rfl rfl ?_
           refine oN (aN ?_)
           refine wC rfl (fun hc105=>?_) (fun hc105=>?_)
           ·skip
            refine wS (wR ?_)
            refine oL (lA (a:=.v _) rfl) rfl rfl ?_
            refine oN (aN ?_)
            refine wT (aR (bR (aR (aR (bR (aR (?_)))))))
            refine ⟨.inr rfl,oV Tryz.results39 rfl rfl ?_⟩
            exact vi_eq (fV_hit hlt (by have:=of_decide_eq_true hc105; rw [← hfb] at this; simp only [fOk,ex,Bool.and_eq_false_iff,decide_eq_false_iff_not]; left; right; omega))
           ·skip
            have hq:fB f l bs k≤1152921504606846977 / absI f.cs[k].n:=by rw [hfb]; have:=of_decide_eq_false hc105; omega
            have hq1:0≤absI f.cs[k].n * fB f l bs k∧absI f.cs[k].n * fB f l bs k≤1152921504606846977:=⟨Int.mul_nonneg (absI_nn _) hfbb.1,by have:=Int.mul_le_mul_of_nonneg_left hq (absI_nn f.cs[k].n); have h2:=Int.mul_ediv_self_le (x:=1152921504606846977) (k:=absI f.cs[k].n) (by omega); omega⟩
            have hs:fS f l bs (k+1)=fS f l bs k+absI f.cs[k].n * fB f l bs k:=by show fS f l bs k+absI (f.cs.getD k default).n * fB f l bs k=_; rw [ex]
            have hsk:0≤fS f l bs k∧fS f l bs k≤1152921504606846977:=hsum k (Nat.le_refl _)
            refine wK (aN (wS (wR ?_)))
            refine oL (lM (a:=.v _) rfl) rfl rfl ?_
            refine oL (lF fi95_1 rfl rfl rfl rfl rfl) rfl rfl ?_
            refine oL (lD row2 rfl rfl rfl rfl rfl) rfl rfl ?_
            refine oL (LOp.call bod71 rfl (abs_p f.cs[k].n (by omega) (by omega) (by omega))) rfl rfl ?_
            refine oL (lM (a:=.v _) rfl) rfl rfl ?_
            refine oL (LOp.mulI rfl rfl (by rw [← hfb]; omega) (by rw [← hfb]; omega)) rfl rfl ?_
            refine oL (lJ rfl rfl (by rw [← hfb]; omega) (by rw [← hfb]; omega)) rfl rfl ?_
            refine oL (lA (a:=.v _) rfl) rfl rfl ?_
            refine oN (aN (wS (wR ?_)))
            refine oL (lM (a:=.v _) rfl) rfl rfl ?_
            refine oL (lP rfl (fun _ _=>nofun) (fun _=>rfl)) rfl rfl ?_
            refine oN (aN ?_)
            refine wC rfl (fun hc114=>?_) (fun hc114=>?_)
            ·skip
             refine wS (wR ?_)
             refine oL (lA (a:=.v _) rfl) rfl rfl ?_
             refine oN (aN ?_)
             refine wT (bR (aR (aR (bR (aR (?_))))))
             refine ⟨.inr rfl,oV Tryz.results39 rfl rfl ?_⟩
             exact vi_eq (fV_hit hlt (by have:=of_decide_eq_true hc114; simp only [fOk,hs,Bool.and_eq_false_iff,decide_eq_false_iff_not]; right; rw [hfb]; omega))
            ·skip
             refine wK (bN (aN (wR ?_)))
             refine oL (lM (a:=.v _) rfl) rfl rfl ?_
             refine oL (lJ rfl rfl (by omega) (by omega)) rfl rfl ?_
             refine oL (lA (a:=.v _) rfl) rfl rfl ?_
             refine oN (aN ?_)
             refine ⟨(f.cs.length - (k+1)),⟨fL [(2,vsA l),(3,isA bs),(4,.ptr 0 0 0),(5,.ptr 1 0 0),(9,.v (.int .i64 (fS f l bs (k+1)))),(10,.v (.int .i64 (((k+1):Nat):Int)))],hLz [(0,⟨0,liA f,0,false⟩),(1,⟨0,clA c,0,false⟩)],2⟩,by omega,(cO (.cons rfl rfl (.cons rfl rfl (.cons rfl rfl (.cons rfl rfl (.cons (by first | rfl | exact vi_eq (by rw [hs,hfb])) rfl (.cons rfl rfl .nil)))))) (.cons rfl rfl rfl (.cons rfl rfl rfl .nil))),(k+1),rfl,rfl,?_⟩
             refine ⟨by omega,fun j h=>?_⟩
             rcases Nat.lt_succ_iff_lt_or_eq.1 h with h | rfl
             ·exact hj j h
             ·simp only [fOk,hbad,hty,Bool.not_false,Bool.true_and,Bool.and_eq_true,decide_eq_true_eq]; exact ⟨by rw [ex]; exact hq,by rw [hs,hfb]; have:=of_decide_eq_false hc114; omega⟩
  ·skip
   have hge:¬ k < f.cs.length:=fun h=>of_decide_eq_false hc24 (Int.ofNat_lt.2 h)
   refine AWP.exit (aE (aE (bE ?_)))
   refine aN (wS (wR ?_))
   refine oL (lM (a:=.v _) rfl) rfl rfl ?_
   refine oL (lA (a:=.v _) rfl) rfl rfl ?_
   refine oN (aN ?_)
   refine wT (?_)
   refine ⟨.inr rfl,oV Tryz.results39 rfl rfl ?_⟩
   exact vi_eq (fV_end hw hk hge hj)
end Go.Proofs.YtfelpgeolclnbaaGreatDoor
