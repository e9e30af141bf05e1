/- Texts of the claim. -/
import Derived.Lib.MinMax
import Derived.Test.YtgknefkobpnjaaaGreatDoorV3
import Derived.Test.YtgknefkobpnjaaaGreatDoorShelfB
import Derived.Test.YtgknefkobpnjaaaGreatDoorQ1
namespace Go.Proofs.YtgknefkobpnjaaaGreatDoor
set_option linter.unusedVariables false
set_option linter.unusedSimpArgs false
open Go.RowKit
abbrev srt (l:List Int):List Int:=l.mergeSort fun x y=>decide (x≤y)
theorem srt_len {l:List Int}:(srt l).length=l.length:=List.length_mergeSort _
/-- In ascending order, each once. -/
def srtU (l:List Int):List Int:=Lib.compact (srt l)
theorem heapO_one {i:Nat} {b:Blk}:heapO [(i,some b)]=hLz [(i,b)]:=rfl
open Go.Sort in
theorem sort_h (l:List Int) (v:Nat) (hl:l.length≤100000):HCall Tryz.prog 95 [.sl TOP v 0 l.length] [(TOP,⟨v,iF l,1,Nat.beq l.length 0⟩)] [(TOP,some ⟨v,iF (srt l),1,Nat.beq l.length 0⟩)] (.v (.tuple #[])):=by
 cases l with
 | nil=>
  intro C vals hg hη hU ⟨hvl,hv⟩
  have hb:C.η TOP=some ⟨v,[],1,true⟩:=by rw [hη]; simp [hLz,iF]
  have h0:=hv 0 (by simp) (by simp at hvl; omega)
  obtain ⟨e1,_,_⟩:=h0.slnil_inv hb rfl rfl
  have hvals:vals=#[.slice none 0 0]:=by
   apply Array.ext
   ·simpa using hvl.symm
   ·intro i hi hi'
    have:i=0:=by simp at hi'; omega
    subst this
    exact e1
  rw [hvals]
  refine (AnyM.slices_Sort_int_none Tryz.laysSlM5_f95 none 0 C.w).mono ?_
  rintro e w' ⟨rfl,rfl⟩
  have e0:srt []=[]:=by simp [srt]
  rw [e0]
  exact ⟨_,C,rfl,rfl,hη.trans heapO_one.symm,hg,Fr.refl C,VR.v _ _⟩
 | cons a r=>
  refine HCall.ofRow (l:=a :: r) (rv:=fun _ _ _=>.tuple #[]) (by simp) srt_len (.inl ⟨rfl,fun _ _ _=>rfl⟩) fun blk off cap w hH hlt hcap=>?_
  refine (Tryz.slices_Sort_int blk off cap (a :: r) w hH hlt (by omega)).mono ?_
  rintro e w' ⟨rfl,n,os,rfl⟩
  exact ⟨rfl,n,os,by rw [Lib.putRow_eq_setCells _ w blk off _ _ n hH (by rw [srt_len]; simp)]⟩
theorem compact_len (l:List Int):(Lib.compact l++List.replicate (l.length - (Lib.compact l).length) 0).length=l.length:=by
 have:=Lib.compact_length_le l
 simp; omega
open Go.Sort in
theorem compact_h (l:List Int) (v:Nat) (hpos:0 < l.length) (hl:l.length≤100000):HCall Tryz.prog 96 [.sl TOP v 0 l.length] [(TOP,⟨v,iF l,1,false⟩)] [(TOP,some ⟨v,iF (Lib.compact l++List.replicate (l.length - (Lib.compact l).length) 0),1,false⟩)] (.sl TOP v 0 (Lib.compact l).length):=by
 refine HCall.ofRow (rv:=fun b o c=>.slice (some ⟨b,o,none⟩) (Lib.compact l).length c) hpos (compact_len l) (.inr ⟨_,Lib.compact_length_le l,rfl,fun _ _ _=>rfl⟩) fun blk off cap w hH hlt hcap=>?_
 refine (Tryz.slices_Compact_int blk off cap l w hH (by omega) hcap).mono ?_
 rintro e w' ⟨rfl,q,rfl⟩
 exact ⟨rfl,q,#[],by rw [Lib.putRow_eq_setCells _ w blk off _ _ q hH (by rw [compact_len]; simp)]; simp⟩
theorem compact0_p:PCall Tryz.prog 96 [.v (.slice none 0 0)] (.v (.slice none 0 0)):=by
 intro T w vals ⟨hvl,hv⟩ hT
 have h0:=(hv 0 (by simp) (by simp at hvl; omega)).v_inv
 have hvals:vals=#[.slice none 0 0]:=by
  apply Array.ext
  ·simpa using hvl.symm
  ·intro i hi hi'
   have:i=0:=by simp at hi'; omega
   subst this
   exact h0
 rw [hvals]
 refine (Tryz.slices_Compact_int_empty none 0 w).mono ?_
 rintro e w' ⟨rfl,rfl⟩
 exact ⟨_,T,rfl,.v _,fun _ h=>h,fun _ h=>.inl h,hT,Below.refl _ _⟩
theorem ren_v {g:Nat→Nat}:∀ l:List Int,renL g (iF l)=iF l
 | []=>rfl
 | a :: r=>by have:=ren_v (g:=g) r; simp only [iF,List.map_cons,renL,AV.ren] at this ⊢; rw [this]
theorem in_v {D:List Nat}:∀ l:List Int,inL D (iF l)=true
 | []=>rfl
 | a :: r=>by have:=in_v (D:=D) r; simp only [iF,List.map_cons,inL,AV.inB] at this ⊢; rw [this]; rfl
theorem blk_v {g:Nat→Nat} {v z:Nat} {l:List Int} {n:Bool}:(Blk.mk v (iF l) z n).ren g=⟨v,iF l,z,n⟩:=by simp only [Blk.ren,ren_v]
theorem some_blk_v {g:Nat→Nat} {v z:Nat} {l:List Int} {n:Bool}:some (⟨v,iF l,z,n⟩:Blk)=some ((Blk.mk v (iF l) z n).ren g):=by rw [blk_v]
theorem delta_v {m:List (Nat×Nat)} {i k v z:Nat} {l:List Int} {n:Bool} (h:gOf m i=k):deltaH m [(i,some ⟨v,iF l,z,n⟩)]=[(k,some ⟨v,iF l,z,n⟩)]:=by
 simp only [deltaH,List.map_cons,List.map_nil,h,Option.map_some,blk_v]
theorem iF_get {l:List Int} {k:Nat} (h:k < l.length):(iF l)[k]? = some (.v (.int .i64 l[k])):=by simp [iF,h]
/-- A slice of ints of the call's own, the first m of its row, frozen. -/
theorem FzP.iF {fp:List Nat} {η:Heap} {id v m:Nat} {l:List Int} (hid:id∈fp) (hb:η id=some ⟨v,iF l,1,false⟩) (hm:m≤l.length):FzP fp η (.sl id v 0 m) (isA (l.take m)):=by
 have:=FzP.sl (fp:=fp) (η:=η) (id:=id) (ver:=v) (off:=0) (len:=m) (b:=⟨v,Go.Proofs.YtgknefkobpnjaaaGreatDoor.iF l,1,false⟩) (rows:=(l.take m).map iA) hid hb rfl rfl (by simp; omega) (fun k h=>by simp [iA]) (fun k h j h'=>by
  have hk:k < l.length:=by simp at h; omega
  have hj:j=0:=by simp [iA] at h'; omega
  subst hj
  refine ⟨.v (.int .i64 l[k]),?_,?_⟩
  ·have e:(0+k * (Blk.mk v (Go.Proofs.YtgknefkobpnjaaaGreatDoor.iF l) 1 false).esz+0)=k:=by show 0+k * 1+0=k; omega
   rw [e]; exact iF_get hk
  ·have e2:((l.take m).map iA)[k][0]=.v (.int .i64 l[k]):=by simp only [List.getElem_map,List.getElem_take]; rfl
   rw [e2]; exact FzP.pure rfl)
 exact this
theorem FzP.pre {fp:List Nat} {η:Heap} {id v:Nat} {c r:List Int} (hid:id∈fp) (hb:η id=some ⟨v,Go.Proofs.YtgknefkobpnjaaaGreatDoor.iF (c++r),1,false⟩):FzP fp η (.sl id v 0 c.length) (isA c):=by
 have:=FzP.iF hid hb (m:=c.length) (by simp)
 rw [List.take_left' rfl] at this
 exact this
theorem FzP.nilsl {fp:List Nat} {η:Heap} {id v:Nat} (hid:id∈fp) (hb:η id=some ⟨v,[],1,true⟩):FzP fp η (.sl id v 0 0) (.v (.slice none 0 0)):=by
 intro C hg hη x hx
 obtain ⟨e,_,_⟩:=hx.slnil_inv ((hη id hid).trans hb) rfl rfl
 subst e
 exact .v _
theorem bod95:bodied Tryz.prog 95=true:=by kernel_rfl
theorem bod96:bodied Tryz.prog 96=true:=by kernel_rfl
set_option maxRecDepth 100000 in
set_option maxHeartbeats 4000000 in
theorem sorted1_h (l:List Int) (v:Nat) (hpos:0 < l.length) (hl:l.length≤100000):HCall Tryz.prog 52 [.sl TOP v 0 l.length] [(TOP,⟨v,iF l,1,false⟩)] [(TOP,none)] (isA (srtU l)):=by
 have hb:Nat.beq l.length 0=false:=beq_ne (by omega)
 have hs1:=sort_h l v hl
 rw [hb] at hs1
 have hc1:=compact_h (srt l) v (by rw [srt_len]; exact hpos) (by rw [srt_len]; exact hl)
 rw [srt_len] at hc1
 refine HCall.of_body Tryz.func52 rfl Tryz.ntmps52 (Nat.le_of_ble_eq_true rfl) ?_
 refine wS (wR ?_)
 refine oL (lA (a:=.v _) rfl) rfl rfl ?_
 refine oN (aN (wS (wR ?_)))
 refine oL (lM (a:=.sl _ _ _ _) rfl) rfl rfl ?_
 refine AOps.gv (LOp.callH [(TOP,TOP)] bod95 hs1 rfl rfl rfl rfl ⟨some_blk_v,trivial⟩ ⟨⟨in_v _,.inl rfl⟩,trivial⟩ ⟨in_v _,trivial⟩ rfl rfl rfl rfl (delta_v rfl) rfl) rfl rfl 0 rfl rfl ?_
 refine oN (aN (wS (wR ?_)))
 refine oL (lM (a:=.sl _ _ _ _) rfl) rfl rfl ?_
 refine AOps.gv (LOp.callH [(TOP,TOP)] bod96 hc1 rfl rfl rfl rfl ⟨some_blk_v,trivial⟩ ⟨⟨in_v _,.inl rfl⟩,trivial⟩ ⟨in_v _,trivial⟩ rfl rfl rfl rfl (delta_v rfl) rfl) rfl rfl 0 rfl rfl ?_
 refine oL (lA (a:=.sl _ _ _ _) rfl) rfl rfl ?_
 refine oN (aN ?_)
 refine wT (?_)
 refine ⟨.inr rfl,OutsH.of [TOP] (ResIs.res Tryz.results52 (.cons (OutX.tmp rfl) .nil)) rfl ⟨.gone,trivial⟩ (.fz (FzP.pre (List.mem_singleton.2 rfl) rfl))⟩
set_option maxRecDepth 100000 in
set_option maxHeartbeats 4000000 in
theorem sorted0_h (v:Nat):HCall Tryz.prog 52 [.sl TOP v 0 0] [(TOP,⟨v,[],1,true⟩)] [(TOP,none)] (isA (srtU [])):=by
 have hs0:=sort_h [] v (by simp)
 rw [show srt []=[] by simp [srt]] at hs0
 rw [show srtU []=[] by simp [srtU,srt,Lib.compact,Lib.compactUpTo]]
 refine HCall.of_body Tryz.func52 rfl Tryz.ntmps52 (Nat.le_of_ble_eq_true rfl) ?_
 refine wS (wR ?_)
 refine oL (lA (a:=.v _) rfl) rfl rfl ?_
 refine oN (aN (wS (wR ?_)))
 refine oL (lM (a:=.sl _ _ _ _) rfl) rfl rfl ?_
 refine AOps.gv (LOp.callH [(TOP,TOP)] bod95 hs0 rfl rfl rfl rfl ⟨rfl,trivial⟩ ⟨⟨rfl,.inr (.inl rfl)⟩,trivial⟩ ⟨rfl,trivial⟩ rfl rfl rfl rfl rfl rfl) rfl rfl 0 rfl rfl ?_
 refine oN (aN (wS (wR ?_)))
 refine oL (lM (a:=.sl _ _ _ _) rfl) rfl rfl ?_
 refine oL (LOp.callB [TOP] bod96 rfl (fun i h h'=>match i,h with | 0,_=>FzP.nilsl (List.mem_singleton.2 rfl) rfl) compact0_p) rfl rfl ?_
 refine oL (lA (a:=.v _) rfl) rfl rfl ?_
 refine oN (aN ?_)
 refine wT (?_)
 refine ⟨.inr rfl,OutsH.of [] (ResIs.res Tryz.results52 (.cons (OutX.tmp rfl) .nil)) rfl ⟨.gone,trivial⟩ (.fz FzP.nil)⟩
theorem sorted_h (l:List Int) (v:Nat) (hl:l.length≤100000):HCall Tryz.prog 52 [.sl TOP v 0 l.length] [(TOP,⟨v,iF l,1,Nat.beq l.length 0⟩)] [(TOP,none)] (isA (srtU l)):=by
 cases l with
 | nil=>exact sorted0_h v
 | cons a r=>exact sorted1_h (a :: r) v (by simp) hl
end Go.Proofs.YtgknefkobpnjaaaGreatDoor
namespace Go.Proofs.YtgknefkobpnjaaaGreatDoor
set_option linter.unusedVariables false
set_option linter.unusedSimpArgs false
open Go.RowKit
theorem rowI:RowF iA 1:=⟨fun _=>rfl,fun _=>rfl,fun _ _=>rfl,fun _ _=>rfl,fun _ _=>rfl,fun _=>rfl⟩
theorem rowCf:RowF cfA 2:=⟨fun _=>rfl,fun _=>rfl,fun _ _=>rfl,fun _ _=>rfl,fun _ _=>rfl,fun _=>rfl⟩
theorem iF_rF:∀ l:List Int,iF l=rF iA l
 | []=>rfl
 | a :: r=>by
  have:=iF_rF r
  simp only [iF,List.map_cons] at this ⊢
  rw [rF_cons,← this]; rfl
theorem sort_r (l:List Int) (v:Nat) (hl:l.length≤100000):HCall Tryz.prog 95 [.sl TOP v 0 l.length] [(TOP,⟨v,rF iA l,1,Nat.beq l.length 0⟩)] [(TOP,some ⟨v,rF iA (srt l),1,Nat.beq l.length 0⟩)] (.v (.tuple #[])):=by
 have:=sort_h l v hl
 rwa [iF_rF,iF_rF] at this
theorem sorted_r (l:List Int) (v:Nat) (hl:l.length≤100000):HCall Tryz.prog 52 [.sl TOP v 0 l.length] [(TOP,⟨v,rF iA l,1,Nat.beq l.length 0⟩)] [(TOP,none)] (isA (srtU l)):=by
 have:=sorted_h l v hl
 rwa [iF_rF] at this
theorem some_rF {α:Type} {f:α→List AV} {q:Nat} (h:RowF f q) {g:Nat→Nat} {v:Nat} {l:List α} {n:Bool}:some (⟨v,rF f l,q,n⟩:Blk)=some ((Blk.mk v (rF f l) q n).ren g):=by rw [rF_blk h]
theorem delta_rF {α:Type} {f:α→List AV} {q:Nat} (h:RowF f q) {m:List (Nat×Nat)} {i k v:Nat} {l:List α} {n:Bool} (e:gOf m i=k):deltaH m [(i,some ⟨v,rF f l,q,n⟩)]=[(k,some ⟨v,rF f l,q,n⟩)]:=by
 simp only [deltaH,List.map_cons,List.map_nil,e,Option.map_some,rF_blk h]
/-- The keys seen so far whose number is not 0. -/
def vsS (es:List (Int×Int)) (S:List Nat):List Int:=(S.filter fun i=>!((es.getD i (0,0)).2==0)).map fun i=>(es.getD i (0,0)).1
theorem vsS_1 {es:List (Int×Int)} {S:List Nat} {j:Nat} (hj:j < es.length) (h:¬ es[j].2=0):vsS es (S++[j])=vsS es S++[es[j].1]:=by
 unfold vsS
 rw [List.filter_append,List.map_append]
 simp [List.getD,hj,h]
theorem vsS_0 {es:List (Int×Int)} {S:List Nat} {j:Nat} (hj:j < es.length) (h:es[j].2=0):vsS es (S++[j])=vsS es S:=by
 unfold vsS
 rw [List.filter_append,List.map_append]
 simp [List.getD,hj,h]
theorem vsS_le {es:List (Int×Int)} {S:List Nat}:(vsS es S).length≤S.length:=by unfold vsS; rw [List.length_map]; exact List.length_filter_le _ _
theorem nodup_le {S:List Nat} {n:Nat} (hnd:S.Nodup) (hlt:∀ i∈S,i < n):S.length≤n:=by
 have h:=List.Nodup.length_le_of_subset (l₂:=List.range n) hnd (fun i hi=>List.mem_range.2 (hlt i hi))
 simpa using h
theorem nodup_lt {S:List Nat} {n j:Nat} (hnd:S.Nodup) (hlt:∀ i∈S,i < n) (hj:j < n) (hjS:¬ j∈S):S.length < n:=by
 have h:=nodup_le (S:=j :: S) (n:=n) (List.nodup_cons.2 ⟨hjS,hnd⟩) (fun i hi=>by rcases List.mem_cons.1 hi with rfl | h; exact hj; exact hlt i h)
 simp only [List.length_cons] at h
 omega
def keysN (es:List (Int×Int)):List Int:=(es.filter fun p=>!(p.2==0)).map (·.1)
theorem range_getD {es:List (Int×Int)}:(List.range es.length).map (fun i=>es.getD i (0,0))=es:=by
 apply List.ext_getElem
 ·simp
 ·intro i h1 h2; simp [List.getD,h2]
theorem vsS_all {es:List (Int×Int)} {S:List Nat} (hnd:S.Nodup) (hlt:∀ i∈S,i < es.length) (hall:∀ j,j < es.length→j∈S):(vsS es S).Perm (keysN es):=by
 have h1:S.Perm (List.range es.length):=(List.perm_ext_iff_of_nodup hnd List.nodup_range).2 fun i=>⟨fun h=>List.mem_range.2 (hlt i h),fun h=>hall i (List.mem_range.1 h)⟩
 have h2:vsS es (List.range es.length)=keysN es:=by
  unfold vsS keysN
  conv=>rhs; rw [← range_getD (es:=es)]
  rw [List.filter_map,List.map_map]
  rfl
 rw [← h2]
 exact (h1.filter _).map _
theorem srt_perm {l m:List Int} (h:l.Perm m):srt l=srt m:=by
 have tr:∀ a b c:Int,decide (a≤b)=true→decide (b≤c)=true→decide (a≤c)=true:=fun a b c h1 h2=>by simp only [decide_eq_true_eq] at *; omega
 have to:∀ a b:Int,(decide (a≤b)||decide (b≤a))=true:=fun a b=>by simp only [Bool.or_eq_true,decide_eq_true_eq]; omega
 refine List.Perm.eq_of_pairwise (le:=fun a b=>decide (a≤b)=true) (fun a b _ _ h1 h2=>?_) (List.pairwise_mergeSort tr to l) (List.pairwise_mergeSort tr to m) (((List.mergeSort_perm l _).trans h).trans (List.mergeSort_perm m _).symm)
 simp only [decide_eq_true_eq] at h1 h2
 omega
def lookD (es:List (Int×Int)) (v:Int):Int:=((es.find? fun p=>p.1==v).map (·.2)).getD 0
/-- The coefficients of a map. -/
def cofL (es:List (Int×Int)):List PCoef:=(srt (keysN es)).map fun v=>⟨v,lookD es v⟩
theorem look_at {es:List (Int×Int)} {v:Int} (h:v∈srt (keysN es)):∃ (j:Nat) (hj:j < es.length),es[j].1=v∧(∀ i (hi:i < es.length),i < j→es[i].1≠v)∧lookD es v=es[j].2:=by
 have h1:v∈keysN es:=(List.mergeSort_perm _ _).mem_iff.1 h
 obtain ⟨p,hp,rfl⟩:=List.mem_map.1 h1
 have hp1:=(List.mem_filter.1 hp).1
 cases hf:es.find? (fun q=>q.1==p.1) with
 | none=>exact absurd hp1 (fun hm=>by have:=List.find?_eq_none.1 hf p hm; simp at this)
 | some q=>
  obtain ⟨hq,j,hj,he,hi⟩:=List.find?_eq_some_iff_getElem.1 hf
  refine ⟨j,hj,by rw [he]; simpa using hq,fun i hi' hij=>by simpa using hi i hij,?_⟩
  unfold lookD
  rw [hf,← he]; rfl
theorem keysN_le {es:List (Int×Int)}:(keysN es).length≤es.length:=by unfold keysN; rw [List.length_map]; exact List.length_filter_le _ _
theorem mGet {es:List (Int×Int)} {j:Nat} (hj:j < es.length):(mEs 0 es)[j]'(by rw [mEs_len]; exact hj)=(.int .i64 es[j].1,.v (.int .i64 es[j].2),j):=by rw [mEs_get,Nat.zero_add]
theorem mKeys {es:List (Int×Int)}:∀ e∈mEs 0 es,∃ q,e.1=.int .i64 q:=fun e he=>by obtain ⟨j,hj,rfl⟩:=mEs_mem he; exact ⟨_,rfl⟩
theorem mBefore {es:List (Int×Int)} {v:Int} {j:Nat} (h:∀ i (hi:i < es.length),i < j→es[i].1≠v):∀ i (hi:i < (mEs 0 es).length),i < j→(mEs 0 es)[i].1≠.int .i64 v:=fun i hi hij e=>by
 rw [mEs_get] at e
 simp only [Value.int.injEq,true_and] at e
 exact h i (by rw [mEs_len] at hi; exact hi) hij e
theorem fz_srt {fp:List Nat} {η:Heap} {id v:Nat} {l:List Int} (hid:id∈fp) (hb:η id=some ⟨v,rF iA (srt l),1,Nat.beq l.length 0⟩):FzP fp η (.sl id v 0 l.length) (isA (srt l)):=by
 have:=FzP.rows (η:=η) rowI (l:=srt l) (v:=v) hid (by rw [srt_len]; exact hb)
 rwa [srt_len] at this
theorem LOp.mapGetI {P:Program} {τ:Nat→AV} {η:Heap} {d:Option Tmp} {ty:TypeId} {pos:String} {af:Array Edge} {g:Option (Nat×Bool)} {t kt et id ver z clock:Nat} {x i:Operand} {v:Int} {z0:Value} {es:List (Int×Int)} (ht:P.underlying t=some (.map kt et)) (hk:P.underlying kt=some (.int .i64)) (hz:zeroOf P et=some z0) (hm:aev τ x=.mp id ver) (hkey:aev τ i=.v (.int .i64 v)) (hb:η id=some (mapBlk ver z clock (mEs 0 es))) (hv:v∈srt (keysN es)) :
  LOp P ⟨d,.lookup t x i false,ty,pos,af,g⟩ τ η [id] [] (.v (.int .i64 (lookD es v))):=by
 obtain ⟨j,hj,h1,h2,h3⟩:=look_at hv
 refine LOp.mapGet (j:=j) ht hk hz hm hkey hb (by rw [mEs_len]; exact hj) mKeys (by rw [mGet hj,h1]) (mBefore h2) ?_
 rw [mGet hj,h3]
theorem by111:(Tryz.prog.info? 111).map (·.bytes)=some 16:=by kernel_rfl
theorem by3:(Tryz.prog.info? 3).map (·.bytes)=some 8:=by kernel_rfl
theorem pl111:placesOf Tryz.prog 111=some [(0,1),(1,1)]:=by kernel_rfl
set_option maxRecDepth 100000 in
set_option maxHeartbeats 4000000 in
theorem coefs_h (es:List (Int×Int)) (v z:Nat) (hl:es.length≤1000):HCall Tryz.prog 93 [.mp TOP v] [(TOP,mapBlk v z es.length (mEs 0 es))] [(TOP,some (mapBlk v z es.length (mEs 0 es)))] (csA (cofL es)):=by
 refine HCall.of_body Tryz.func93 rfl Tryz.ntmps93 (Nat.le_of_ble_eq_true rfl) ?_
 refine wS (wR ?_)
 refine oL (lA (a:=.v _) rfl) rfl rfl ?_
 refine oN (aN (wS (wR ?_)))
 refine oL (lA (a:=.v _) rfl) rfl rfl ?_
 refine oN (aN (wS (wS (wR ?_))))
 refine oL (lM (a:=.mp _ _) rfl) rfl rfl ?_
 refine AOps.gv (LOp.rangeM 0 Tryz.underlying161 rfl rfl rfl) rfl rfl 1 rfl rfl ?_
 refine oN (aN (wB ?_))
 refine AWP.lazyT 3 1 rfl 2 rfl ?_
 refine wL (fun n s=>∃ S:List Nat,n=(es.length - S.length)∧s=⟨fL [(0,.mp TOP v),(3,.sl 1 (vsS es S).length 0 (vsS es S).length),(10,.it 0 0)],hLz [(0,miterBlk 0 0 (.mp TOP v) es.length S es.length),(1,⟨(vsS es S).length,rF iA (vsS es S),1,Nat.beq (vsS es S).length 0⟩),(TOP,mapBlk v z es.length (mEs 0 es))],2⟩∧(S.Nodup∧∀ i∈S,i < es.length)) (n:=(es.length - ([]:List Nat).length)) (s1:=⟨fL [(0,.mp TOP v),(3,.sl 1 (vsS es ([]:List Nat)).length 0 (vsS es ([]:List Nat)).length),(10,.it 0 0)],hLz [(0,miterBlk 0 0 (.mp TOP v) es.length ([]:List Nat) es.length),(1,⟨(vsS es ([]:List Nat)).length,rF iA (vsS es ([]:List Nat)),1,Nat.beq (vsS es ([]:List Nat)).length 0⟩),(TOP,mapBlk v z es.length (mEs 0 es))],2⟩) (cO (.cons rfl rfl (.cons (by first | rfl | (rw [hvs]; rfl) | (rw [hvs,List.length_append]; rfl)) rfl (.cons rfl rfl .nil))) (.cons rfl rfl (miter_low rfl) (.cons (by first | rfl | (rw [hvs]; rfl) | (rw [hvs,List.length_append]; rfl)) rfl (rF_low rowI _ _) (.cons rfl rfl (mapCs_low _ _ _) .nil)))) ⟨([]:List Nat),rfl,rfl,List.nodup_nil,fun _ h=>by cases h⟩ ?_
 rintro n s ⟨S,rfl,rfl,hinv⟩
 obtain ⟨hnd,hlt⟩:=hinv
 have hSl:S.length≤es.length:=nodup_le hnd hlt
 have hvl:(vsS es S).length≤S.length:=vsS_le
 refine wS (wR ?_)
 refine AOps.next  rfl rfl rfl rfl rfl rfl (fun e he=>by obtain ⟨j,hj,rfl⟩:=mEs_mem he; show 0+j < es.length; omega) (by cases es with | nil=>exact .inr (.inl rfl) | cons a r=>exact .inr (.inr ⟨_,List.mem_cons_self ..,by simp⟩)) (fun hdone=>?_) (fun e he hsn=>?_)
 ·skip
  have hall:∀ j,j < es.length→j∈S:=fun j hj=>by have:=hdone _ (mEs_in (i:=0) hj); simpa using this
  refine oL (LOp.extract rfl rfl) rfl rfl ?_
  refine oN (aN (wS ?_))
  refine AWP.condF rfl ?_
  refine AWP.exit (aE (aE (bE ?_)))
  refine aN (wS (wR ?_))
  refine oL (lM (a:=.sl _ _ _ _) rfl) rfl rfl ?_
  refine AOps.gv (LOp.callH [(TOP,1)] bod95 (sort_r (vsS es S) (vsS es S).length (by omega)) rfl rfl rfl rfl ⟨some_rF rowI,trivial⟩ ⟨rF_ok rowI,trivial⟩ ⟨rF_in rowI _ _,trivial⟩ rfl rfl rfl rfl (delta_rF rowI rfl) rfl) rfl rfl 2 rfl rfl ?_
  refine oN (aN (wS (wR ?_)))
  refine oL (lA (a:=.v _) rfl) rfl rfl ?_
  refine oN (aN (wS (wS (wR ?_))))
  refine oL (lM (a:=.sl _ _ _ _) rfl) rfl rfl ?_
  refine oL (LOp.lenS rfl Tryz.underlying29 rfl rfl rfl) rfl rfl ?_
  refine oL (lM (a:=.v _) rfl) rfl rfl ?_
  refine oN (aN (wB ?_))
  have hsrt:=srt_perm (vsS_all hnd hlt hall)
  have hlen2:(vsS es S).length=(srt (keysN es)).length:=by rw [← hsrt,srt_len]
  refine AWP.freeze [1] 24 (isA (srt (vsS es S))) (fz_srt (List.mem_singleton.2 rfl) rfl) rfl ?_
  refine AWP.lazyT 6 2 rfl 3 rfl ?_
  refine wL (fun n s=>∃ k2:Nat,n=((srt (keysN es)).length - k2)∧s=⟨fL [(0,.mp TOP v),(6,.sl 2 k2 0 (((srt (keysN es)).take k2).map fun v=>(⟨v,lookD es v⟩:PCoef)).length),(24,isA (srt (keysN es))),(25,.v (.int .i64 (((srt (keysN es)).length:Nat):Int))),(26,.v (.int .i64 ((k2:Nat):Int)))],hLz [(2,⟨k2,rF cfA (((srt (keysN es)).take k2).map fun v=>(⟨v,lookD es v⟩:PCoef)),2,Nat.beq (((srt (keysN es)).take k2).map fun v=>(⟨v,lookD es v⟩:PCoef)).length 0⟩),(TOP,mapBlk v z es.length (mEs 0 es))],3⟩∧(k2≤(srt (keysN es)).length∧∀ j,j < k2→(fun _=>true) j=true)) (n:=((srt (keysN es)).length - 0)) (s1:=⟨fL [(0,.mp TOP v),(6,.sl 2 0 0 (((srt (keysN es)).take 0).map fun v=>(⟨v,lookD es v⟩:PCoef)).length),(24,isA (srt (keysN es))),(25,.v (.int .i64 (((srt (keysN es)).length:Nat):Int))),(26,.v (.int .i64 ((0:Nat):Int)))],hLz [(2,⟨0,rF cfA (((srt (keysN es)).take 0).map fun v=>(⟨v,lookD es v⟩:PCoef)),2,Nat.beq (((srt (keysN es)).take 0).map fun v=>(⟨v,lookD es v⟩:PCoef)).length 0⟩),(TOP,mapBlk v z es.length (mEs 0 es))],3⟩) (cO (.cons rfl rfl (.cons (by first | rfl | (rw [hstep,List.length_append]; rfl) | (rw [hstep]; rfl)) rfl (.cons (by first | rfl | (rw [← hsrt]; rfl)) rfl (.cons (by first | rfl | exact vi_eq (by rw [hlen2])) rfl (.cons rfl rfl .nil))))) (.cons (by first | rfl | (rw [hstep,List.length_append]; rfl) | (rw [hstep]; rfl)) rfl (rF_low rowCf _ _) (.cons rfl rfl (mapCs_low _ _ _) .nil))) ⟨0,rfl,rfl,⟨Nat.zero_le _,fun j h=>absurd h (Nat.not_lt_zero j)⟩⟩ ?_
  rintro n s ⟨k2,rfl,rfl,hinv⟩
  obtain ⟨hk,hj⟩:=hinv
  have hcl:((srt (keysN es)).take k2).length≤k2:=by rw [List.length_take]; omega
  have hkl:(srt (keysN es)).length≤1000:=by rw [srt_len]; exact Nat.le_trans keysN_le hl
  refine wS (wR ?_)
  refine oL (lP rfl (fun _ _=>nofun) (fun _=>rfl)) rfl rfl ?_
  refine oN (aN (wS ?_))
  refine wC rfl (fun hc27=>?_) (fun hc27=>?_)
  ·skip
   have hlt2:k2 < (srt (keysN es)).length:=Int.ofNat_lt.1 (of_decide_eq_true hc27)
   have hkey:(srt (keysN es))[k2]∈srt (keysN es):=List.getElem_mem hlt2
   have hstep:(((srt (keysN es)).take (k2+1)).map fun v=>(⟨v,lookD es v⟩:PCoef))=(((srt (keysN es)).take k2).map fun v=>(⟨v,lookD es v⟩:PCoef))++[⟨(srt (keysN es))[k2],lookD es (srt (keysN es))[k2]⟩]:=by rw [List.take_succ_eq_append_getElem hlt2,List.map_append]; rfl
   refine wK (aN (wS (wB (wS (wR ?_)))))
   refine oL (lI Tryz.underlying29 sz3 rfl rfl (by first | assumption | omega)) rfl rfl ?_
   refine oL (lE row3 rfl rfl) rfl rfl ?_
   refine oL (lA (a:=.v _) rfl) rfl rfl ?_
   refine oN (aN (wR ?_))
   refine oL (lM (a:=.sl _ _ _ _) rfl) rfl rfl ?_
   refine oL (lM (a:=.v _) rfl) rfl rfl ?_
   refine oL (lM (a:=.mp _ _) rfl) rfl rfl ?_
   refine oL (lM (a:=.v _) rfl) rfl rfl ?_
   refine oL (LOp.mapGetI Tryz.underlying161 Tryz.underlying3 zr2 rfl rfl rfl hkey) rfl rfl ?_
   refine oL (LOp.bd zr111 pl111 rfl rfl) rfl rfl ?_
   refine oW (LOp.bs Tryz.underlying77 sz111 zr111 rfl rfl rfl rfl) rfl rfl 4 rfl ?_
   refine AOps.gv (LOp.appRow rowCf (a:=⟨(srt (keysN es))[k2],lookD es (srt (keysN es))[k2]⟩) Tryz.underlying77 sz111 zr111 by111 rfl rfl rfl (Src.slB rfl rfl rfl rfl) rfl (by rw [List.length_map]; omega) (by rw [List.length_map]; omega) (by unfold TV; omega)) rfl rfl 4 rfl rfl ?_
   refine oL (lA (a:=.sl _ _ _ _) rfl) rfl rfl ?_
   refine oN (bN (aN (wR ?_)))
   refine oL (lJ rfl rfl (by omega) (by omega)) rfl rfl ?_
   refine oL (lM (a:=.v _) rfl) rfl rfl ?_
   refine oN (aN ?_)
   refine ⟨((srt (keysN es)).length - (k2+1)),⟨fL [(0,.mp TOP v),(6,.sl 2 (k2+1) 0 (((srt (keysN es)).take (k2+1)).map fun v=>(⟨v,lookD es v⟩:PCoef)).length),(24,isA (srt (keysN es))),(25,.v (.int .i64 (((srt (keysN es)).length:Nat):Int))),(26,.v (.int .i64 (((k2+1):Nat):Int)))],hLz [(2,⟨(k2+1),rF cfA (((srt (keysN es)).take (k2+1)).map fun v=>(⟨v,lookD es v⟩:PCoef)),2,Nat.beq (((srt (keysN es)).take (k2+1)).map fun v=>(⟨v,lookD es v⟩:PCoef)).length 0⟩),(TOP,mapBlk v z es.length (mEs 0 es))],3⟩,by omega,(cO (.cons rfl rfl (.cons (by first | rfl | (rw [hstep,List.length_append]; rfl) | (rw [hstep]; rfl)) rfl (.cons (by first | rfl | (rw [← hsrt]; rfl)) rfl (.cons (by first | rfl | exact vi_eq (by rw [hlen2])) rfl (.cons rfl rfl .nil))))) (.cons (by first | rfl | (rw [hstep,List.length_append]; rfl) | (rw [hstep]; rfl)) rfl (rF_low rowCf _ _) (.cons rfl rfl (mapCs_low _ _ _) .nil))),(k2+1),rfl,rfl,?_⟩
   refine ⟨by omega,fun j h=>?_⟩
   rcases Nat.lt_succ_iff_lt_or_eq.1 h with h | rfl
   ·exact hj j h
   ·rfl
  ·skip
   have hge:¬ k2 < (srt (keysN es)).length:=fun h=>of_decide_eq_false hc27 (Int.ofNat_lt.2 h)
   have hcs:(((srt (keysN es)).take k2).map fun v=>(⟨v,lookD es v⟩:PCoef))=cofL es:=by unfold cofL; rw [List.take_of_length_le (by omega)]
   refine AWP.exit (aE (aE (bE ?_)))
   refine aN (wS (wR ?_))
   refine oL (lM (a:=.sl _ _ _ _) rfl) rfl rfl ?_
   refine oL (lA (a:=.sl _ _ _ _) rfl) rfl rfl ?_
   refine oN (aN ?_)
   refine wT (?_)
   refine ⟨.inr rfl,OutsH.of [2] (ResIs.res Tryz.results93 (.cons (OutX.tmp rfl) .nil)) rfl ⟨.same rfl (by decide),trivial⟩ (.fz (by rw [← hcs]; exact FzP.rows rowCf (List.mem_singleton.2 rfl) rfl))⟩
 ·skip
  obtain ⟨j,hj,rfl⟩:=mEs_mem he
  rw [Nat.zero_add] at *
  have hjS:¬ j∈S:=by simpa using hsn
  have hSl2:S.length < es.length:=nodup_lt hnd hlt hj hjS
  refine oL (LOp.extract rfl rfl) rfl rfl ?_
  refine oN (aN (wS ?_))
  refine AWP.condT rfl ?_
  refine wK (aN (wB (wS (wR ?_))))
  refine oL (LOp.entryM rfl rfl rfl hj) rfl rfl ?_
  refine oL (LOp.extract rfl rfl) rfl rfl ?_
  refine oL (LOp.extract rfl rfl) rfl rfl ?_
  refine oL (lA (a:=.v _) rfl) rfl rfl ?_
  refine oL (lA (a:=.v _) rfl) rfl rfl ?_
  refine oN (aN (wS (wR ?_)))
  refine oL (lM (a:=.v _) rfl) rfl rfl ?_
  refine oL (lP rfl (fun _ _=>nofun) (fun _=>rfl)) rfl rfl ?_
  refine oN (aN ?_)
  refine wC rfl (fun hc17=>?_) (fun hc17=>?_)
  ·skip
   have hz:¬ es[j].2=0:=by simpa using hc17
   have hvs:=vsS_1 (S:=S) hj hz
   refine wR ?_
   refine oL (lM (a:=.sl _ _ _ _) rfl) rfl rfl ?_
   refine oL (lM (a:=.v _) rfl) rfl rfl ?_
   refine oW (LOp.bs Tryz.underlying29 sz3 zr3 rfl rfl rfl rfl) rfl rfl 3 rfl ?_
   refine AOps.gv (LOp.appRow rowI (a:=es[j].1) Tryz.underlying29 sz3 zr3 by3 rfl rfl rfl (Src.slB rfl rfl rfl rfl) rfl (by omega) (by omega) (by unfold TV; omega)) rfl rfl 3 rfl rfl ?_
   refine oL (lA (a:=.sl _ _ _ _) rfl) rfl rfl ?_
   refine oN (bN (aN ?_))
   refine ⟨(es.length - (S++[j]).length),⟨fL [(0,.mp TOP v),(3,.sl 1 (vsS es (S++[j])).length 0 (vsS es (S++[j])).length),(10,.it 0 0)],hLz [(0,miterBlk 0 0 (.mp TOP v) es.length (S++[j]) es.length),(1,⟨(vsS es (S++[j])).length,rF iA (vsS es (S++[j])),1,Nat.beq (vsS es (S++[j])).length 0⟩),(TOP,mapBlk v z es.length (mEs 0 es))],2⟩,(by rw [List.length_append]; simp only [List.length_singleton]; omega),(cO (.cons rfl rfl (.cons (by first | rfl | (rw [hvs]; rfl) | (rw [hvs,List.length_append]; rfl)) rfl (.cons rfl rfl .nil))) (.cons rfl rfl (miter_low rfl) (.cons (by first | rfl | (rw [hvs]; rfl) | (rw [hvs,List.length_append]; rfl)) rfl (rF_low rowI _ _) (.cons rfl rfl (mapCs_low _ _ _) .nil)))),(S++[j]),rfl,rfl,?_⟩
   refine ⟨?_,fun i hi=>?_⟩
   ·rw [List.nodup_append]; exact ⟨hnd,by simp,fun a ha b hb=>by simp at hb; subst hb; exact fun e=>hjS (e ▸ ha)⟩
   ·rcases List.mem_append.1 hi with h | h
    ·exact hlt i h
    ·simp at h; subst h; exact hj
  ·skip
   have hz:es[j].2=0:=by simpa using hc17
   have hvs:=vsS_0 (S:=S) hj hz
   refine wK (bN (aN ?_))
   refine ⟨(es.length - (S++[j]).length),⟨fL [(0,.mp TOP v),(3,.sl 1 (vsS es (S++[j])).length 0 (vsS es (S++[j])).length),(10,.it 0 0)],hLz [(0,miterBlk 0 0 (.mp TOP v) es.length (S++[j]) es.length),(1,⟨(vsS es (S++[j])).length,rF iA (vsS es (S++[j])),1,Nat.beq (vsS es (S++[j])).length 0⟩),(TOP,mapBlk v z es.length (mEs 0 es))],2⟩,(by rw [List.length_append]; simp only [List.length_singleton]; omega),(cO (.cons rfl rfl (.cons (by first | rfl | (rw [hvs]; rfl) | (rw [hvs,List.length_append]; rfl)) rfl (.cons rfl rfl .nil))) (.cons rfl rfl (miter_low rfl) (.cons (by first | rfl | (rw [hvs]; rfl) | (rw [hvs,List.length_append]; rfl)) rfl (rF_low rowI _ _) (.cons rfl rfl (mapCs_low _ _ _) .nil)))),(S++[j]),rfl,rfl,?_⟩
   refine ⟨?_,fun i hi=>?_⟩
   ·rw [List.nodup_append]; exact ⟨hnd,by simp,fun a ha b hb=>by simp at hb; subst hb; exact fun e=>hjS (e ▸ ha)⟩
   ·rcases List.mem_append.1 hi with h | h
    ·exact hlt i h
    ·simp at h; subst h; exact hj
end Go.Proofs.YtgknefkobpnjaaaGreatDoor
namespace Go.Proofs.YtgknefkobpnjaaaGreatDoor
set_option linter.unusedVariables false
set_option linter.unusedSimpArgs false
open Go.RowKit
/-- A function that names variables: g with what it holds computes σ on 0 .. N. -/
structure NameOk (g:Nat) (caps:List AV) (σ:Int→Int) (N:Int):Prop where
 bod:bodied Tryz.prog g=true
 pur:pureL caps=true
 call:∀ v:Int,0≤v→v≤N→PCall Tryz.prog g (.v (.int .i64 v) :: caps) (.v (.int .i64 (σ v)))
section
variable {P:Program} {τ:Nat→AV} {η:Heap} {d:Option Tmp} {ty:TypeId} {pos:String} {af:Array Edge} {g:Option (Nat×Bool)}
theorem LOp.minI {x y:Operand} {a b:Int} {ats:Array TypeId} (hx:aev τ x=.v (.int .i64 a)) (hy:aev τ y=.v (.int .i64 b)) :
  LOp P ⟨d,.call { callee:=.builtin .min,args:=#[x,y],argTypes:=ats },ty,pos,af,g⟩ τ η [] [] (.v (.int .i64 (min a b))) :=
 .look [] fun C a hg hxs _=>by
  have h1:=hxs x (by simp [Op.operands,Call.operands])
  have h2:=hxs y (by simp [Op.operands,Call.operands])
  rw [hx] at h1
  rw [hy] at h2
  have e1:=h1.v_inv
  have e2:=h2.v_inv
  refine ⟨_,?_,VR.v C _⟩
  simp [execOp,e1,e2,resolve,invoke,builtin,Lib.run_min_ints]
theorem LOp.indexArrS {t len e n j o id ver:Nat} {x i:Operand} {k:IntKind} {b:Blk} (hu:P.underlying t=some (.array len e)) (hs:sizeInfo P e=some n) (hx:aev τ x=.ptr id ver o) (hi:aev τ i=.v (.int k (Int.ofNat j))) (hj:Nat.blt j len=true) (hb:η id=some b) (hv:b.ver=ver) (hn:b.nilp=false) :
  LOp P ⟨d,.indexAddr t x i,ty,pos,af,g⟩ τ η [id] [] (.ptr id ver (o+j * n)) :=
 indexArrE_ok (u:=0) (r:=⟨[id],[],.ptr id ver (o+j * n),0⟩) (by unfold indexArrE; rw [hu]; simp only [hs,hi,hx,hj,cond_true,liveB,hb,hv,hn,Nat.beq_refl,Bool.not_false,Bool.and_true,cond_true])
theorem LOp.maxI {x y:Operand} {a b:Int} {ats:Array TypeId} (hx:aev τ x=.v (.int .i64 a)) (hy:aev τ y=.v (.int .i64 b)) :
  LOp P ⟨d,.call { callee:=.builtin .max,args:=#[x,y],argTypes:=ats },ty,pos,af,g⟩ τ η [] [] (.v (.int .i64 (max a b))) :=
 .look [] fun C a hg hxs _=>by
  have h1:=hxs x (by simp [Op.operands,Call.operands])
  have h2:=hxs y (by simp [Op.operands,Call.operands])
  rw [hx] at h1
  rw [hy] at h2
  have e1:=h1.v_inv
  have e2:=h2.v_inv
  refine ⟨_,?_,VR.v C _⟩
  simp [execOp,e1,e2,resolve,invoke,builtin,Lib.run_max_ints]
end
theorem rowPa:RowF paA 2:=⟨fun _=>rfl,fun _=>rfl,fun _ _=>rfl,fun _ _=>rfl,fun _ _=>rfl,fun _=>rfl⟩
def pairN (σ:Int→Int) (p:Int×Int):Int×Int:=(min (σ p.1) (σ p.2),max (σ p.1) (σ p.2))
def InP (N:Int) (l:List (Int×Int)):Prop:=∀ p∈l,(0≤p.1∧p.1≤N)∧(0≤p.2∧p.2≤N)
def InN (N:Int) (l:List Int):Prop:=∀ v∈l,0≤v∧v≤N
theorem bod52:bodied Tryz.prog 52=true:=by kernel_rfl
theorem pl26:placesOf Tryz.prog 26=some [(0,1),(1,1)]:=by kernel_rfl
theorem row117:rowOf Tryz.prog 117=some none:=by kernel_rfl
set_option maxRecDepth 100000 in
set_option maxHeartbeats 4000000 in
theorem list_n {g:Nat} {caps:List AV} {σ:Int→Int} {N:Int} (hN:NameOk g caps σ N) (l:List Int) (hl:l.length≤1000) (hr:InN N l):PCall Tryz.prog 91 [isA l,.tp [.clo g caps] 0] (isA (srtU (l.map σ))):=by
 refine pB Tryz.func91 rfl Tryz.ntmps91 (Nat.le_of_ble_eq_true rfl) ?_
 refine wS (wR ?_)
 refine oL (lA (a:=.v _) rfl) rfl rfl ?_
 refine oN (aN (wS (wR ?_)))
 refine oL (lA (a:=.v _) rfl) rfl rfl ?_
 refine oN (aN (wS (wS (wR ?_))))
 refine oL (lM (a:=.tree _ _) rfl) rfl rfl ?_
 refine oL (lT rfl Tryz.underlying29 rfl) rfl rfl ?_
 refine oL (lM (a:=.v _) rfl) rfl rfl ?_
 refine oN (aN (wB ?_))
 refine AWP.lazyT 4 1 rfl 1 rfl ?_
 refine wL (fun n s=>∃ k:Nat,n=(l.length - k)∧s=⟨fL [(0,isA l),(1,.tp [.clo g caps] 0),(4,.sl 0 k 0 ((l.take k).map σ).length),(7,isA l),(8,.v (.int .i64 ((l.length:Nat):Int))),(9,.v (.int .i64 ((k:Nat):Int)))],hLz [(0,⟨k,rF iA ((l.take k).map σ),1,Nat.beq ((l.take k).map σ).length 0⟩)],1⟩∧(k≤l.length∧∀ j,j < k→(fun _=>true) j=true)) (n:=(l.length - 0)) (s1:=⟨fL [(0,isA l),(1,.tp [.clo g caps] 0),(4,.sl 0 0 0 ((l.take 0).map σ).length),(7,isA l),(8,.v (.int .i64 ((l.length:Nat):Int))),(9,.v (.int .i64 ((0:Nat):Int)))],hLz [(0,⟨0,rF iA ((l.take 0).map σ),1,Nat.beq ((l.take 0).map σ).length 0⟩)],1⟩) (cO (.cons rfl rfl (.cons rfl rfl (.cons (by first | rfl | (rw [hstep]; rfl) | (rw [hstep,List.length_append]; rfl)) rfl (.cons rfl rfl (.cons rfl rfl (.cons rfl rfl .nil)))))) (.cons (by first | rfl | (rw [hstep]; rfl) | (rw [hstep,List.length_append]; rfl)) rfl (rF_low rowI _ _) .nil)) ⟨0,rfl,rfl,⟨Nat.zero_le _,fun j h=>absurd h (Nat.not_lt_zero j)⟩⟩ ?_
 rintro n s ⟨k,rfl,rfl,hinv⟩
 obtain ⟨hk,hj⟩:=hinv
 have hml:((l.take k).map σ).length≤1000:=by rw [List.length_map,List.length_take]; omega
 refine wS (wR ?_)
 refine oL (lP rfl (fun _ _=>nofun) (fun _=>rfl)) rfl rfl ?_
 refine oN (aN (wS ?_))
 refine wC rfl (fun hc10=>?_) (fun hc10=>?_)
 ·skip
  have hlt:k < l.length:=Int.ofNat_lt.1 (of_decide_eq_true hc10)
  have hstep:((l.take (k+1)).map σ)=((l.take k).map σ)++[σ l[k]]:=by rw [List.take_succ_eq_append_getElem hlt,List.map_append]; rfl
  refine wK (aN (wS (wB (wS (wR ?_)))))
  refine oL (lI Tryz.underlying29 sz3 rfl rfl (by first | assumption | omega)) rfl rfl ?_
  refine oL (lE row3 rfl rfl) rfl rfl ?_
  refine oL (lA (a:=.v _) rfl) rfl rfl ?_
  refine oN (aN (wR ?_))
  refine oL (lM (a:=.sl _ _ _ _) rfl) rfl rfl ?_
  refine oL (lE row117 rfl rfl) rfl rfl ?_
  refine oL (lM (a:=.v _) rfl) rfl rfl ?_
  refine oL (LOp.callVB [] hN.bod rfl rfl (FzL.pure hN.pur) (hN.call l[k] (hr _ (List.getElem_mem _)).1 (hr _ (List.getElem_mem _)).2)) rfl rfl ?_
  refine oW (LOp.bs Tryz.underlying29 sz3 zr3 rfl rfl rfl rfl) rfl rfl 2 rfl ?_
  refine AOps.gv (LOp.appRow rowI (a:=σ l[k]) Tryz.underlying29 sz3 zr3 by3 rfl rfl rfl (Src.slB rfl rfl rfl rfl) rfl (by omega) (by omega) (by unfold TV; omega)) rfl rfl 2 rfl rfl ?_
  refine oL (lA (a:=.sl _ _ _ _) rfl) rfl rfl ?_
  refine oN (bN (aN (wR ?_)))
  refine oL (lJ rfl rfl (by omega) (by omega)) rfl rfl ?_
  refine oL (lM (a:=.v _) rfl) rfl rfl ?_
  refine oN (aN ?_)
  refine ⟨(l.length - (k+1)),⟨fL [(0,isA l),(1,.tp [.clo g caps] 0),(4,.sl 0 (k+1) 0 ((l.take (k+1)).map σ).length),(7,isA l),(8,.v (.int .i64 ((l.length:Nat):Int))),(9,.v (.int .i64 (((k+1):Nat):Int)))],hLz [(0,⟨(k+1),rF iA ((l.take (k+1)).map σ),1,Nat.beq ((l.take (k+1)).map σ).length 0⟩)],1⟩,by omega,(cO (.cons rfl rfl (.cons rfl rfl (.cons (by first | rfl | (rw [hstep]; rfl) | (rw [hstep,List.length_append]; rfl)) rfl (.cons rfl rfl (.cons rfl rfl (.cons rfl rfl .nil)))))) (.cons (by first | rfl | (rw [hstep]; rfl) | (rw [hstep,List.length_append]; rfl)) rfl (rF_low rowI _ _) .nil)),(k+1),rfl,rfl,?_⟩
  refine ⟨by omega,fun j h=>?_⟩
  rcases Nat.lt_succ_iff_lt_or_eq.1 h with h | rfl
  ·exact hj j h
  ·rfl
 ·skip
  have hge:¬ k < l.length:=fun h=>of_decide_eq_false hc10 (Int.ofNat_lt.2 h)
  refine AWP.exit (aE (aE (bE ?_)))
  refine aN (wS (wR ?_))
  refine oL (lM (a:=.sl _ _ _ _) rfl) rfl rfl ?_
  refine AOps.gv (LOp.callH [(TOP,0)] bod52 (sorted_r ((l.take k).map σ) k (by omega)) rfl rfl rfl rfl ⟨some_rF rowI,trivial⟩ ⟨rF_ok rowI,trivial⟩ ⟨trivial,trivial⟩ rfl rfl rfl rfl rfl rfl) rfl rfl 1 rfl rfl ?_
  refine oL (lA (a:=.tree _ _) rfl) rfl rfl ?_
  refine oN (aN ?_)
  refine wT (?_)
  refine ⟨.inr rfl,oV Tryz.results91 rfl rfl ?_⟩
  rw [List.take_of_length_le (by omega)]
  rfl
set_option maxRecDepth 100000 in
set_option maxHeartbeats 4000000 in
theorem pairs_n {g:Nat} {caps:List AV} {σ:Int→Int} {N:Int} (hN:NameOk g caps σ N) (l:List (Int×Int)) (hl:l.length≤1000) (hr:InP N l):PCall Tryz.prog 94 [psA l,.tp [.clo g caps] 0] (psA (l.map (pairN σ))):=by
 refine pB Tryz.func94 rfl Tryz.ntmps94 (Nat.le_of_ble_eq_true rfl) ?_
 refine wS (wR ?_)
 refine oL (lA (a:=.v _) rfl) rfl rfl ?_
 refine oN (aN (wS (wR ?_)))
 refine oL (lA (a:=.v _) rfl) rfl rfl ?_
 refine oN (aN (wS (wS (wR ?_))))
 refine oL (lM (a:=.tree _ _) rfl) rfl rfl ?_
 refine oL (lT rfl Tryz.underlying33 rfl) rfl rfl ?_
 refine oL (lM (a:=.v _) rfl) rfl rfl ?_
 refine oN (aN (wB ?_))
 refine AWP.lazyT 4 2 rfl 1 rfl ?_
 refine wL (fun n s=>∃ k:Nat,n=(l.length - k)∧s=⟨fL [(0,psA l),(1,.tp [.clo g caps] 0),(4,.sl 0 k 0 ((l.take k).map (pairN σ)).length),(9,psA l),(10,.v (.int .i64 ((l.length:Nat):Int))),(11,.v (.int .i64 ((k:Nat):Int)))],hLz [(0,⟨k,rF paA ((l.take k).map (pairN σ)),2,Nat.beq ((l.take k).map (pairN σ)).length 0⟩)],1⟩∧(k≤l.length∧∀ j,j < k→(fun _=>true) j=true)) (n:=(l.length - 0)) (s1:=⟨fL [(0,psA l),(1,.tp [.clo g caps] 0),(4,.sl 0 0 0 ((l.take 0).map (pairN σ)).length),(9,psA l),(10,.v (.int .i64 ((l.length:Nat):Int))),(11,.v (.int .i64 ((0:Nat):Int)))],hLz [(0,⟨0,rF paA ((l.take 0).map (pairN σ)),2,Nat.beq ((l.take 0).map (pairN σ)).length 0⟩)],1⟩) (cO (.cons rfl rfl (.cons rfl rfl (.cons (by first | rfl | (rw [hstep]; rfl) | (rw [hstep,List.length_append]; rfl)) rfl (.cons rfl rfl (.cons rfl rfl (.cons rfl rfl .nil)))))) (.cons (by first | rfl | (rw [hstep]; rfl) | (rw [hstep,List.length_append]; rfl)) rfl (rF_low rowPa _ _) .nil)) ⟨0,rfl,rfl,⟨Nat.zero_le _,fun j h=>absurd h (Nat.not_lt_zero j)⟩⟩ ?_
 rintro n s ⟨k,rfl,rfl,hinv⟩
 obtain ⟨hk,hj⟩:=hinv
 have hml:((l.take k).map (pairN σ)).length≤1000:=by rw [List.length_map,List.length_take]; omega
 refine wS (wR ?_)
 refine oL (lP rfl (fun _ _=>nofun) (fun _=>rfl)) rfl rfl ?_
 refine oN (aN (wS ?_))
 refine wC rfl (fun hc12=>?_) (fun hc12=>?_)
 ·skip
  have hlt:k < l.length:=Int.ofNat_lt.1 (of_decide_eq_true hc12)
  have hstep:((l.take (k+1)).map (pairN σ))=((l.take k).map (pairN σ))++[(pairN σ) l[k]]:=by rw [List.take_succ_eq_append_getElem hlt,List.map_append]; rfl
  refine wK (aN (wS (wB (wS (wR ?_)))))
  refine oL (lI Tryz.underlying33 sz26 rfl rfl (by first | assumption | omega)) rfl rfl ?_
  refine oL (LOp.ldTN row26 rfl rfl) rfl rfl ?_
  refine oW (LOp.al zr26 rfl) rfl rfl 2 rfl ?_
  refine AOps.wr (LOp.st sz26 rfl rfl rfl rfl rfl rfl rfl rfl) rfl rfl rfl ?_
  refine oN (aN (wS (AWP.regD mixed ?_)))
  refine qL (lE row117 rfl rfl) rfl rfl ?_
  refine qL (LOp.indexArrS Tryz.underlying26 sz3 rfl rfl rfl rfl rfl rfl) rfl rfl ?_
  refine qL (lD row3 rfl rfl rfl rfl rfl) rfl rfl ?_
  refine qL (LOp.callVB [] hN.bod rfl rfl (FzL.pure hN.pur) (hN.call l[k].1 (hr _ (List.getElem_mem _)).1.1 (hr _ (List.getElem_mem _)).1.2)) rfl rfl ?_
  refine qL (lE row117 rfl rfl) rfl rfl ?_
  refine qL (LOp.indexArrS Tryz.underlying26 sz3 rfl rfl rfl rfl rfl rfl) rfl rfl ?_
  refine qL (lD row3 rfl rfl rfl rfl rfl) rfl rfl ?_
  refine qL (LOp.callVB [] hN.bod rfl rfl (FzL.pure hN.pur) (hN.call l[k].2 (hr _ (List.getElem_mem _)).2.1 (hr _ (List.getElem_mem _)).2.2)) rfl rfl ?_
  refine qL (lA (a:=.v _) rfl) rfl rfl ?_
  refine qL (lA (a:=.v _) rfl) rfl rfl ?_
  refine SeqC.nil ⟨by kernel_rfl,?_⟩
  refine aN (wR ?_)
  refine oL (lM (a:=.sl _ _ _ _) rfl) rfl rfl ?_
  refine oL (lM (a:=.v _) rfl) rfl rfl ?_
  refine oL (lM (a:=.v _) rfl) rfl rfl ?_
  refine oL (LOp.minI rfl rfl) rfl rfl ?_
  refine oL (lM (a:=.v _) rfl) rfl rfl ?_
  refine oL (lM (a:=.v _) rfl) rfl rfl ?_
  refine oL (LOp.maxI rfl rfl) rfl rfl ?_
  refine oL (LOp.bd zr26 pl26 rfl rfl) rfl rfl ?_
  refine oW (LOp.bs Tryz.underlying33 sz26 zr26 rfl rfl rfl rfl) rfl rfl 3 rfl ?_
  refine AOps.gv (LOp.appRow rowPa (a:=pairN σ l[k]) Tryz.underlying33 sz26 zr26 by26 rfl rfl rfl (Src.slB rfl rfl rfl rfl) rfl (by omega) (by omega) (by unfold TV; omega)) rfl rfl 3 rfl rfl ?_
  refine oL (lA (a:=.sl _ _ _ _) rfl) rfl rfl ?_
  refine oN (bN (aN (wR ?_)))
  refine oL (lJ rfl rfl (by omega) (by omega)) rfl rfl ?_
  refine oL (lM (a:=.v _) rfl) rfl rfl ?_
  refine oN (aN ?_)
  refine ⟨(l.length - (k+1)),⟨fL [(0,psA l),(1,.tp [.clo g caps] 0),(4,.sl 0 (k+1) 0 ((l.take (k+1)).map (pairN σ)).length),(9,psA l),(10,.v (.int .i64 ((l.length:Nat):Int))),(11,.v (.int .i64 (((k+1):Nat):Int)))],hLz [(0,⟨(k+1),rF paA ((l.take (k+1)).map (pairN σ)),2,Nat.beq ((l.take (k+1)).map (pairN σ)).length 0⟩)],1⟩,by omega,(cO (.cons rfl rfl (.cons rfl rfl (.cons (by first | rfl | (rw [hstep]; rfl) | (rw [hstep,List.length_append]; rfl)) rfl (.cons rfl rfl (.cons rfl rfl (.cons rfl rfl .nil)))))) (.cons (by first | rfl | (rw [hstep]; rfl) | (rw [hstep,List.length_append]; rfl)) rfl (rF_low rowPa _ _) .nil)),(k+1),rfl,rfl,?_⟩
  refine ⟨by omega,fun j h=>?_⟩
  rcases Nat.lt_succ_iff_lt_or_eq.1 h with h | rfl
  ·exact hj j h
  ·rfl
 ·skip
  have hge:¬ k < l.length:=fun h=>of_decide_eq_false hc12 (Int.ofNat_lt.2 h)
  refine AWP.exit (aE (aE (bE ?_)))
  refine aN (wS (wR ?_))
  refine oL (lM (a:=.sl _ _ _ _) rfl) rfl rfl ?_
  refine oL (lA (a:=.sl _ _ _ _) rfl) rfl rfl ?_
  refine oN (aN ?_)
  refine wT (?_)
  refine ⟨.inr rfl,Outs.tmp Tryz.results94 ?_⟩
  rw [List.take_of_length_le (by omega)]
  exact ⟨[0],FzP.rows rowPa (List.mem_singleton.2 rfl) rfl⟩
end Go.Proofs.YtgknefkobpnjaaaGreatDoor
namespace Go.Proofs.YtgknefkobpnjaaaGreatDoor
set_option linter.unusedVariables false
set_option linter.unusedSimpArgs false
open Go.RowKit
/-- The entries that the coefficients become. -/
def esN (σ:Int→Int) (cs:List PCoef):List (Int×Int):=cs.map fun a=>(σ a.v,a.n)
def liN (σ:Int→Int) (f:PLin):PLin:=⟨f.k,f.cs.map fun a=>⟨σ a.v,a.n⟩⟩
def MonoN (σ:Int→Int) (N:Int):Prop:=∀ a b:Int,0≤a→a < b→b≤N→σ a < σ b
/-- The coefficients ascend, lie in 0 .. N and are not 0. -/
structure PLin.Asc (f:PLin) (N:Int):Prop where
 len:f.cs.length≤1000
 rng:∀ a∈f.cs,0≤a.v∧a.v≤N
 nz:∀ a∈f.cs,a.n≠0
 asc:f.cs.Pairwise fun a b=>a.v < b.v
theorem srt_asc {l:List Int} (h:l.Pairwise (· < ·)):srt l=l:=List.mergeSort_of_pairwise (h.imp fun h=>by simpa using Int.le_of_lt h)
theorem lookD_in {es:List (Int×Int)} (h:es.Pairwise fun a b=>a.1 < b.1) {p:Int×Int} (hp:p∈es):lookD es p.1=p.2:=by
 unfold lookD
 have:es.find? (fun q=>q.1==p.1)=some p:=by
  induction es with
  | nil=>cases hp
  | cons a r ih=>
   rw [List.pairwise_cons] at h
   rcases List.mem_cons.1 hp with rfl | hp'
   ·simp
   ·have:=h.1 p hp'
    rw [List.find?_cons_of_neg (by simp; omega)]
    exact ih h.2 hp'
 rw [this]; rfl
theorem cofL_asc {es:List (Int×Int)} (h:es.Pairwise fun a b=>a.1 < b.1) (hz:∀ p∈es,p.2≠0):cofL es=es.map fun p=>⟨p.1,p.2⟩:=by
 have h1:keysN es=es.map (·.1):=by
  unfold keysN
  rw [List.filter_eq_self.2 fun p hp=>by simpa using hz p hp]
 have h2:(es.map (·.1)).Pairwise (· < ·):=List.pairwise_map.2 h
 unfold cofL
 rw [h1,srt_asc h2,List.map_map]
 exact List.map_congr_left fun p hp=>by simp only [Function.comp,lookD_in h hp]
theorem esN_asc {σ:Int→Int} {N:Int} {f:PLin} (hf:f.Asc N) (hm:MonoN σ N):(esN σ f.cs).Pairwise fun a b=>a.1 < b.1:=by
 unfold esN
 rw [List.pairwise_map]
 exact hf.asc.imp_of_mem fun {a b} ha hb h=>hm _ _ (hf.rng a ha).1 h (hf.rng b hb).2
theorem cof_esN {σ:Int→Int} {N:Int} {f:PLin} (hf:f.Asc N) (hm:MonoN σ N):cofL (esN σ f.cs)=(liN σ f).cs:=by
 rw [cofL_asc (esN_asc hf hm) (fun p hp=>by obtain ⟨a,ha,rfl⟩:=List.mem_map.1 hp; exact hf.nz a ha)]
 unfold esN liN
 rw [List.map_map]; rfl
theorem esN_new {σ:Int→Int} {N:Int} {f:PLin} (hf:f.Asc N) (hm:MonoN σ N) {k:Nat} (hk:k < f.cs.length):∀ e∈mEs 0 (esN σ (f.cs.take k)),∃ q,e.1=.int .i64 q∧q≠σ f.cs[k].v:=fun e he=>by
 obtain ⟨j,hj,rfl⟩:=mEs_mem he
 refine ⟨_,rfl,?_⟩
 have hj':j < k:=by unfold esN at hj; rw [List.length_map,List.length_take] at hj; omega
 have e1:(esN σ (f.cs.take k))[j].1=σ (f.cs[j]'(by omega)).v:=by simp only [esN,List.getElem_map,List.getElem_take]
 rw [e1]
 have:=List.pairwise_iff_getElem.1 hf.asc j k (by omega) hk hj'
 have:=hm _ _ (hf.rng _ (List.getElem_mem (by omega))).1 this (hf.rng _ (List.getElem_mem hk)).2
 omega
theorem esN_next {σ:Int→Int} {cs:List PCoef} {k:Nat} (hk:k < cs.length):esN σ (cs.take (k+1))=esN σ (cs.take k)++[(σ cs[k].v,cs[k].n)]:=by
 unfold esN
 rw [List.take_succ_eq_append_getElem hk,List.map_append]; rfl
theorem mapB_next {σ:Int→Int} {cs:List PCoef} {k:Nat} (hk:k < cs.length):some (mapBlk 0 0 ((esN σ (cs.take k)).length+1) (mEs 0 (esN σ (cs.take k))++[(.int .i64 (σ cs[k].v),.v (.int .i64 cs[k].n),(esN σ (cs.take k)).length)]))=some (mapBlk 0 0 (esN σ (cs.take (k+1))).length (mEs 0 (esN σ (cs.take (k+1))))):=by
 have:=mEs_app 0 (esN σ (cs.take k)) (σ cs[k].v,cs[k].n)
 rw [Nat.zero_add] at this
 rw [esN_next hk,List.length_append,← this]; rfl
theorem bod93:bodied Tryz.prog 93=true:=by kernel_rfl
theorem pl79:placesOf Tryz.prog 79=some [(0,1),(1,1)]:=by kernel_rfl
theorem sz79:sizeInfo Tryz.prog 79=some 2:=by kernel_rfl
theorem zr79:zeroOf Tryz.prog 79=some (.agg #[.int .i64 0,.slice none 0 0]):=by kernel_rfl
set_option maxRecDepth 100000 in
set_option maxHeartbeats 4000000 in
theorem form_n {g:Nat} {caps:List AV} {σ:Int→Int} {N:Int} (hN:NameOk g caps σ N) (hm:MonoN σ N) (f:PLin) (hf:f.Asc N):PCall Tryz.prog 92 [.agg (liA f),.tp [.clo g caps] 0] (.agg (liA (liN σ f))):=by
 have hfl:=hf.len
 refine pB Tryz.func92 rfl Tryz.ntmps92 (Nat.le_of_ble_eq_true rfl) ?_
 refine wS (wR ?_)
 refine oW (LOp.bx rfl) rfl rfl 1 rfl ?_
 refine oW (LOp.al zr79 rfl) rfl rfl 2 rfl ?_
 refine oN (aN (wS (wR ?_)))
 refine oW (LOp.makeMap 2) rfl rfl 3 rfl ?_
 refine oL (lA (a:=.mp _ _) rfl) rfl rfl ?_
 refine oN (aN (wS (wS (wR ?_))))
 refine oL (lF fi79_1 rfl rfl rfl rfl rfl) rfl rfl ?_
 refine oL (lD row77 rfl rfl rfl rfl rfl) rfl rfl ?_
 refine oL (lT rfl Tryz.underlying77 rfl) rfl rfl ?_
 refine oL (lM (a:=.v _) rfl) rfl rfl ?_
 refine oN (aN (wB ?_))
 refine wL (fun n s=>∃ k:Nat,n=(f.cs.length - k)∧s=⟨fL [(1,.tp [.clo g caps] 0),(2,.ptr 0 0 0),(3,.ptr 1 0 0),(4,.mp 2 0),(9,csA f.cs),(10,.v (.int .i64 ((f.cs.length:Nat):Int))),(11,.v (.int .i64 ((k:Nat):Int)))],hLz [(0,⟨0,liA f,0,false⟩),(1,⟨0,[.v (.int .i64 0),.v (.slice none 0 0)],0,false⟩),(2,mapBlk 0 0 (esN σ (f.cs.take k)).length (mEs 0 (esN σ (f.cs.take k))))],3⟩∧(k≤f.cs.length∧∀ j,j < k→(fun _=>true) j=true)) (n:=(f.cs.length - 0)) (s1:=⟨fL [(1,.tp [.clo g caps] 0),(2,.ptr 0 0 0),(3,.ptr 1 0 0),(4,.mp 2 0),(9,csA f.cs),(10,.v (.int .i64 ((f.cs.length:Nat):Int))),(11,.v (.int .i64 ((0:Nat):Int)))],hLz [(0,⟨0,liA f,0,false⟩),(1,⟨0,[.v (.int .i64 0),.v (.slice none 0 0)],0,false⟩),(2,mapBlk 0 0 (esN σ (f.cs.take 0)).length (mEs 0 (esN σ (f.cs.take 0))))],3⟩) (cO (.cons rfl rfl (.cons rfl rfl (.cons rfl rfl (.cons rfl rfl (.cons rfl rfl (.cons rfl rfl (.cons rfl rfl .nil))))))) (.cons rfl rfl rfl (.cons rfl rfl rfl (.cons (by first | rfl | exact mapB_next hlt) rfl (mapCs_low _ _ _) .nil)))) ⟨0,rfl,rfl,⟨Nat.zero_le _,fun j h=>absurd h (Nat.not_lt_zero j)⟩⟩ ?_
 rintro n s ⟨k,rfl,rfl,hinv⟩
 obtain ⟨hk,hj⟩:=hinv
 refine wS (wR ?_)
 refine oL (lP rfl (fun _ _=>nofun) (fun _=>rfl)) rfl rfl ?_
 refine oN (aN (wS ?_))
 refine wC rfl (fun hc12=>?_) (fun hc12=>?_)
 ·skip
  have hlt:k < f.cs.length:=Int.ofNat_lt.1 (of_decide_eq_true hc12)
  refine wK (aN (wS (wB (wS (wR ?_)))))
  refine oL (lI Tryz.underlying77 sz111 rfl rfl (by first | assumption | omega)) rfl rfl ?_
  refine oL (LOp.ldTN row111 rfl rfl) rfl rfl ?_
  refine oW (LOp.al zr111 rfl) rfl rfl 4 rfl ?_
  refine AOps.wr (LOp.st sz111 rfl rfl rfl rfl rfl rfl rfl rfl) rfl rfl rfl ?_
  refine oN (aN (AWP.regD mixed ?_))
  refine qL (lM (a:=.mp _ _) rfl) rfl rfl ?_
  refine qL (lE row117 rfl rfl) rfl rfl ?_
  refine qL (lF fi111_0 rfl rfl rfl rfl rfl) rfl rfl ?_
  refine qL (lD row3 rfl rfl rfl rfl rfl) rfl rfl ?_
  refine qL (LOp.callVB [] hN.bod rfl rfl (FzL.pure hN.pur) (hN.call f.cs[k].v (hf.rng _ (List.getElem_mem _)).1 (hf.rng _ (List.getElem_mem _)).2)) rfl rfl ?_
  refine qL (lF fi111_1 rfl rfl rfl rfl rfl) rfl rfl ?_
  refine qL (lD row2 rfl rfl rfl rfl rfl) rfl rfl ?_
  refine SeqC.wr (LOp.mapNew Tryz.underlying161 Tryz.underlying3 rfl rfl rfl (esN_new hf hm hlt)) rfl rfl rfl ?_
  refine SeqC.nil ⟨by kernel_rfl,?_⟩
  refine bN (aN (wR ?_))
  refine oL (lJ rfl rfl (by omega) (by omega)) rfl rfl ?_
  refine oL (lM (a:=.v _) rfl) rfl rfl ?_
  refine oN (aN ?_)
  refine ⟨(f.cs.length - (k+1)),⟨fL [(1,.tp [.clo g caps] 0),(2,.ptr 0 0 0),(3,.ptr 1 0 0),(4,.mp 2 0),(9,csA f.cs),(10,.v (.int .i64 ((f.cs.length:Nat):Int))),(11,.v (.int .i64 (((k+1):Nat):Int)))],hLz [(0,⟨0,liA f,0,false⟩),(1,⟨0,[.v (.int .i64 0),.v (.slice none 0 0)],0,false⟩),(2,mapBlk 0 0 (esN σ (f.cs.take (k+1))).length (mEs 0 (esN σ (f.cs.take (k+1)))))],3⟩,by omega,(cO (.cons rfl rfl (.cons rfl rfl (.cons rfl rfl (.cons rfl rfl (.cons rfl rfl (.cons rfl rfl (.cons rfl rfl .nil))))))) (.cons rfl rfl rfl (.cons rfl rfl rfl (.cons (by first | rfl | exact mapB_next hlt) rfl (mapCs_low _ _ _) .nil)))),(k+1),rfl,rfl,?_⟩
  refine ⟨by omega,fun j h=>?_⟩
  rcases Nat.lt_succ_iff_lt_or_eq.1 h with h | rfl
  ·exact hj j h
  ·rfl
 ·skip
  have hge:¬ k < f.cs.length:=fun h=>of_decide_eq_false hc12 (Int.ofNat_lt.2 h)
  have hkl:k=f.cs.length:=by omega
  subst hkl
  rw [List.take_length]
  refine AWP.exit (aE (aE (bE ?_)))
  refine aN (wS (AWP.regD mixed ?_))
  refine qL (lF fi79_0 rfl rfl rfl rfl rfl) rfl rfl ?_
  refine qL (lD row2 rfl rfl rfl rfl rfl) rfl rfl ?_
  refine qL (lM (a:=.mp _ _) rfl) rfl rfl ?_
  refine qL (LOp.still (LOp.callH [(TOP,2)] bod93 (coefs_h (esN σ f.cs) 0 0 (by unfold esN; rw [List.length_map]; omega)) rfl rfl rfl rfl ⟨some_mapB,trivial⟩ ⟨ok_mapB,trivial⟩ ⟨mapCs_in _ _ _,trivial⟩ rfl rfl rfl rfl (delta_mapB rfl) rfl) ⟨⟨List.mem_singleton.2 rfl,rfl,rfl⟩,trivial⟩) rfl rfl ?_
  refine qL (LOp.bd zr79 pl79 rfl rfl) rfl rfl ?_
  refine SeqC.wr (LOp.st sz79 rfl rfl rfl rfl rfl rfl rfl rfl) rfl rfl rfl ?_
  refine SeqC.nil ⟨by kernel_rfl,?_⟩
  refine aN ?_
  refine wT (?_)
  refine ⟨.inr rfl,Outs.cell Tryz.results92 row79 rfl rfl rfl rfl rfl ?_⟩
  refine ⟨[],?_⟩
  rw [show liA (liN σ f)=[.v (.int .i64 f.k),csA (cofL (esN σ f.cs))] by rw [cof_esN hf hm]; rfl]
  exact FzP.pure rfl
end Go.Proofs.YtgknefkobpnjaaaGreatDoor
namespace Go.Proofs.YtgknefkobpnjaaaGreatDoor
set_option linter.unusedVariables false
set_option linter.unusedSimpArgs false
open Go.RowKit
section
variable {P:Program} {τ:Nat→AV} {η:Heap} {d:Option Tmp} {ty:TypeId} {pos:String} {af:Array Edge} {g:Option (Nat×Bool)}
/-- The call of a closure that holds and is handed nothing of the call's own. -/
theorem LOp.callVP {g0:Operand} {f:FuncId} {caps:List AV} {xs:Array Operand} {ats:Array TypeId} {ys:List AV} {ret:AV} (hb:bodied P f=true) (hg0:aev τ g0=.clo f caps) (hys:xs.toList.map (aev τ)++caps=ys) (hp:pureL ys=true) (hc:PCall P f ys ret) :
  LOp P ⟨d,.call { callee:=.value g0,args:=xs,argTypes:=ats },ty,pos,af,g⟩ τ η [] [] ret:=by
 have hf:FzL [] η ys ys:=FzL.pure hp
 refine LOp.of_call hc fun C a hg hxs hη=>?_
 have h0:=hxs g0 (by simp [Op.operands,Call.operands])
 rw [hg0] at h0
 obtain ⟨vs,hv,hl,hi⟩:=h0.clo_inv
 refine ⟨xs.map a.eval++vs,?_,?_⟩
 ·subst hys
  refine ⟨by simp [hl],fun i h h'=>?_⟩
  have hF:=(hf.at.2 i h h) C hg hη ((xs.map a.eval++vs)[i]) ?_
  ·exact hF.mono (fun b hb=>hb.elim (fun h=>h) (fun ⟨i,h1,_⟩=>absurd h1 (by simp))) (fun _ _=>rfl)
  ·by_cases hlx:i < xs.size
   ·have e1:(xs.toList.map (aev τ)++caps)[i]=aev τ xs[i]:=by
     rw [List.getElem_append_left (by simpa using hlx)]; simp
    have e2:(xs.map a.eval++vs)[i]=a.eval xs[i]:=by
     rw [Array.getElem_append_left (by simpa using hlx)]; simp
    rw [e1,e2]
    exact hxs _ (by simp [Op.operands,Call.operands])
   ·have e1:(xs.toList.map (aev τ)++caps)[i]=caps[i - xs.size]'(by simp at h; omega):=by
     rw [List.getElem_append_right (by simpa using hlx)]; simp
    have e2:(xs.map a.eval++vs)[i]=vs[i - xs.size]'(by simp at h'; omega):=by
     rw [Array.getElem_append_right (by simpa using hlx)]; simp
    rw [e1,e2]
    exact hi _ _ _
 ·have e:(execOp a.eval ⟨d,.call { callee:=.value g0,args:=xs,argTypes:=ats },ty,pos,af,g⟩).run P C.w=(callFunc f (#[]++xs.map a.eval++vs)).run P C.w:=by
   have e0:execOp a.eval ⟨d,.call { callee:=.value g0,args:=xs,argTypes:=ats },ty,pos,af,g⟩=(do let dd ← Deferred.ofValue (a.eval g0) (xs.map a.eval); invoke dd.target dd.args):=rfl
   rw [e0,hv]
   rfl
  rw [e,run_callFunc' hb]
  simp
end
theorem rowAx:RowF axA 4:=⟨fun _=>rfl,fun _=>rfl,fun _ _=>rfl,fun _ _=>rfl,fun _ _=>rfl,fun _=>rfl⟩
theorem rowCn:RowF cnA 3:=⟨fun _=>rfl,fun _=>rfl,fun _ _=>rfl,fun _ _=>rfl,fun _ _=>rfl,fun _=>rfl⟩
theorem rowTe:RowF teA 4:=⟨fun _=>rfl,fun _=>rfl,fun _ _=>rfl,fun _ _=>rfl,fun _ _=>rfl,fun _=>rfl⟩
theorem FzP.aggL {fp:List Nat} {η:Heap} {cs ds:List AV} (h:FzL fp η cs ds):FzP fp η (.agg cs) (.agg ds):=FzP.agg h.at.1 h.at.2
def axN (σ:Int→Int) (x:PAux):PAux:=⟨liN σ x.of_,x.by_,if x.by_==0 then σ x.tx else x.tx⟩
def cnN (σ:Int→Int) (x:PCon):PCon:=⟨liN σ x.l,x.eq⟩
def teN (σ:Int→Int) (x:PTest):PTest:=⟨σ x.v,x.kd,x.ng,x.s⟩
/-- The clause with other names. -/
def clN (σ:Int→Int) (c:PCl):PCl:=⟨srtU (c.nul.map σ),srtU (c.nn.map σ),c.aux.map (axN σ),c.ints.map (cnN σ),c.tests.map (teN σ),c.same.map (pairN σ),c.diff.map (pairN σ)⟩
/-- A clause whose variables lie in 0 .. N and whose forms ascend. -/
structure PCl.In (c:PCl) (N:Int):Prop where
 ok:c.Ok
 nul:InN N c.nul
 nn:InN N c.nn
 auxf:∀ a∈c.aux,a.of_.Asc N
 auxt:∀ a∈c.aux,a.by_=0→0≤a.tx∧a.tx≤N
 ints:∀ a∈c.ints,a.l.Asc N
 tests:∀ a∈c.tests,0≤a.v∧a.v≤N
 same:InP N c.same
 diff:InP N c.diff
theorem ax_t {σ:Int→Int} {x:PAux} (h:x.by_=0):axN σ x=⟨liN σ x.of_,x.by_,σ x.tx⟩:=by simp [axN,h]
theorem ax_f {σ:Int→Int} {x:PAux} (h:¬ x.by_=0):axN σ x=⟨liN σ x.of_,x.by_,x.tx⟩:=by simp [axN,h]
theorem fz_clN {σ:Int→Int} {c:PCl} {η:Heap} {u v w:Nat} (h4:η 4=some ⟨u,rF axA (c.aux.map (axN σ)),4,Nat.beq (c.aux.map (axN σ)).length 0⟩) (h5:η 5=some ⟨v,rF cnA (c.ints.map (cnN σ)),3,Nat.beq (c.ints.map (cnN σ)).length 0⟩) (h6:η 6=some ⟨w,rF teA (c.tests.map (teN σ)),4,Nat.beq (c.tests.map (teN σ)).length 0⟩) :
  FzP [4,5,6] η (.agg [isA (srtU (c.nul.map σ)),isA (srtU (c.nn.map σ)),.sl 4 u 0 (c.aux.map (axN σ)).length,.sl 5 v 0 (c.ints.map (cnN σ)).length,.sl 6 w 0 (c.tests.map (teN σ)).length,psA (c.same.map (pairN σ)),psA (c.diff.map (pairN σ))]) (.agg (clA (clN σ c))) :=
 .aggL (.cons (FzP.pure rfl) (.cons (FzP.pure rfl) (.cons (FzP.rows rowAx (by decide) h4) (.cons (FzP.rows rowCn (by decide) h5) (.cons (FzP.rows rowTe (by decide) h6) (.cons (FzP.pure rfl) (.cons (FzP.pure rfl) .nil)))))))
theorem bod91:bodied Tryz.prog 91=true:=by kernel_rfl
theorem bod92:bodied Tryz.prog 92=true:=by kernel_rfl
theorem bod94:bodied Tryz.prog 94=true:=by kernel_rfl
theorem by52:(Tryz.prog.info? 52).map (·.bytes)=some 40:=by kernel_rfl
theorem by81:(Tryz.prog.info? 81).map (·.bytes)=some 48:=by kernel_rfl
theorem by84:(Tryz.prog.info? 84).map (·.bytes)=some 40:=by kernel_rfl
theorem fi84_1:fieldInfo Tryz.prog 84 1=some (2,1):=by kernel_rfl
theorem pl35:placesOf Tryz.prog 35=some [(0,1),(1,1),(2,1),(3,1),(4,1),(5,1),(6,1)]:=by kernel_rfl
theorem pl84:placesOf Tryz.prog 84=some [(0,2),(2,1)]:=by kernel_rfl
theorem row4:rowOf Tryz.prog 4=some none:=by kernel_rfl
theorem sz30:sizeInfo Tryz.prog 30=some 1:=by kernel_rfl
theorem sz31:sizeInfo Tryz.prog 31=some 1:=by kernel_rfl
theorem sz32:sizeInfo Tryz.prog 32=some 1:=by kernel_rfl
theorem zr35:zeroOf Tryz.prog 35=some (.agg #[.slice none 0 0,.slice none 0 0,.slice none 0 0,.slice none 0 0,.slice none 0 0,.slice none 0 0,.slice none 0 0]):=by kernel_rfl
set_option maxRecDepth 100000 in
set_option maxHeartbeats 4000000 in
theorem renamed_n {g:Nat} {caps:List AV} {σ:Int→Int} {N:Int} (hN:NameOk g caps σ N) (hm:MonoN σ N) (c:PCl) (hc:c.In N):PCall Tryz.prog 50 [.agg (clA c),.clo g caps] (.agg (clA (clN σ c))):=by
 have haux:=hc.ok.aux
 have hints:=hc.ok.ints
 have htests:=hc.ok.tests
 refine pB Tryz.func50 rfl Tryz.ntmps50 (Nat.le_of_ble_eq_true rfl) ?_
 refine wS (wR ?_)
 refine oW (LOp.bx rfl) rfl rfl 1 rfl ?_
 refine oW (LOp.bx rfl) rfl rfl 2 rfl ?_
 refine oW (LOp.al zr35 rfl) rfl rfl 3 rfl ?_
 refine oN (aN (wS ?_))
 refine AWP.freeze [1] 3 (.tp [.clo g caps] 0) (FzP.ptrL (List.mem_singleton.2 rfl) rfl rfl (.cons (FzP.clo (FzL.pure hN.pur)) .nil)) rfl ?_
 refine wR ?_
 refine oL (LOp.mkFn (cs:=[.tp [.clo g caps] 0]) rfl) rfl rfl ?_
 refine oL (lA (a:=.clo _ _) rfl) rfl rfl ?_
 refine oN (aN (wS (wR ?_)))
 refine oL (LOp.mkFn (cs:=[.tp [.clo g caps] 0]) rfl) rfl rfl ?_
 refine oL (lA (a:=.clo _ _) rfl) rfl rfl ?_
 refine oN (aN (wS (wR ?_)))
 refine oL (LOp.mkFn (cs:=[.tp [.clo g caps] 0]) rfl) rfl rfl ?_
 refine oL (lA (a:=.clo _ _) rfl) rfl rfl ?_
 refine oN (aN (wS (AWP.regD mixed ?_)))
 refine qL (lM (a:=.clo _ _) rfl) rfl rfl ?_
 refine qL (lF fi35_0 rfl rfl rfl rfl rfl) rfl rfl ?_
 refine qL (lD row29 rfl rfl rfl rfl rfl) rfl rfl ?_
 refine qL (LOp.callVP bod91 rfl rfl rfl (list_n hN c.nul hc.ok.nul hc.nul)) rfl rfl ?_
 refine qL (lM (a:=.clo _ _) rfl) rfl rfl ?_
 refine qL (lF fi35_1 rfl rfl rfl rfl rfl) rfl rfl ?_
 refine qL (lD row29 rfl rfl rfl rfl rfl) rfl rfl ?_
 refine qL (LOp.callVP bod91 rfl rfl rfl (list_n hN c.nn hc.ok.nn hc.nn)) rfl rfl ?_
 refine qL (lM (a:=.clo _ _) rfl) rfl rfl ?_
 refine qL (lF fi35_5 rfl rfl rfl rfl rfl) rfl rfl ?_
 refine qL (lD row33 rfl rfl rfl rfl rfl) rfl rfl ?_
 refine qL (LOp.callVP bod94 rfl rfl rfl (pairs_n hN c.same hc.ok.same hc.same)) rfl rfl ?_
 refine qL (lM (a:=.clo _ _) rfl) rfl rfl ?_
 refine qL (lF fi35_6 rfl rfl rfl rfl rfl) rfl rfl ?_
 refine qL (lD row33 rfl rfl rfl rfl rfl) rfl rfl ?_
 refine qL (LOp.callVP bod94 rfl rfl rfl (pairs_n hN c.diff hc.ok.diff hc.diff)) rfl rfl ?_
 refine qL (LOp.bd zr35 pl35 rfl rfl) rfl rfl ?_
 refine SeqC.nw (LOp.al zr35 rfl) rfl rfl 4 rfl ?_
 refine SeqC.wr (LOp.st sz35 rfl rfl rfl rfl rfl rfl rfl rfl) rfl rfl rfl ?_
 refine SeqC.nil ⟨by kernel_rfl,?_⟩
 refine aN (wS (wS (wR ?_)))
 refine oL (lF fi35_2 rfl rfl rfl rfl rfl) rfl rfl ?_
 refine oL (lD row30 rfl rfl rfl rfl rfl) rfl rfl ?_
 refine oL (lT rfl Tryz.underlying30 rfl) rfl rfl ?_
 refine oL (lM (a:=.v _) rfl) rfl rfl ?_
 refine oN (aN (wB ?_))
 refine AWP.lazyC 3 2 4 rfl rfl rfl rfl rfl 5 rfl ?_
 refine wL (fun n s=>∃ k:Nat,n=(c.aux.length - k)∧s=⟨fL [(2,.ptr 0 0 0),(3,.tp [.clo g caps] 0),(4,.ptr 2 0 0),(6,.clo 92 [.tp [.clo g caps] 0]),(8,.ptr 3 0 0),(36,.tree 4 (c.aux.map axA)),(37,.v (.int .i64 ((c.aux.length:Nat):Int))),(38,.v (.int .i64 ((k:Nat):Int)))],hLz [(0,⟨0,clA c,0,false⟩),(2,⟨0,[.v (.slice none 0 0),.v (.slice none 0 0),.v (.slice none 0 0),.v (.slice none 0 0),.v (.slice none 0 0),.v (.slice none 0 0),.v (.slice none 0 0)],0,false⟩),(3,⟨0,[isA (srtU (c.nul.map σ)),isA (srtU (c.nn.map σ)),.sl 4 k 0 ((c.aux.take k).map (axN σ)).length,.v (.slice none 0 0),.v (.slice none 0 0),psA (c.same.map (pairN σ)),psA (c.diff.map (pairN σ))],0,false⟩),(4,⟨k,rF axA ((c.aux.take k).map (axN σ)),4,Nat.beq ((c.aux.take k).map (axN σ)).length 0⟩)],5⟩∧(k≤c.aux.length∧∀ j,j < k→(fun _=>true) j=true)) (n:=(c.aux.length - 0)) (s1:=⟨fL [(2,.ptr 0 0 0),(3,.tp [.clo g caps] 0),(4,.ptr 2 0 0),(6,.clo 92 [.tp [.clo g caps] 0]),(8,.ptr 3 0 0),(36,.tree 4 (c.aux.map axA)),(37,.v (.int .i64 ((c.aux.length:Nat):Int))),(38,.v (.int .i64 ((0:Nat):Int)))],hLz [(0,⟨0,clA c,0,false⟩),(2,⟨0,[.v (.slice none 0 0),.v (.slice none 0 0),.v (.slice none 0 0),.v (.slice none 0 0),.v (.slice none 0 0),.v (.slice none 0 0),.v (.slice none 0 0)],0,false⟩),(3,⟨0,[isA (srtU (c.nul.map σ)),isA (srtU (c.nn.map σ)),.sl 4 0 0 ((c.aux.take 0).map (axN σ)).length,.v (.slice none 0 0),.v (.slice none 0 0),psA (c.same.map (pairN σ)),psA (c.diff.map (pairN σ))],0,false⟩),(4,⟨0,rF axA ((c.aux.take 0).map (axN σ)),4,Nat.beq ((c.aux.take 0).map (axN σ)).length 0⟩)],5⟩) (cO (.cons rfl rfl (.cons rfl rfl (.cons rfl rfl (.cons rfl rfl (.cons rfl rfl (.cons rfl rfl (.cons rfl rfl (.cons rfl rfl .nil)))))))) (.cons rfl rfl rfl (.cons rfl rfl rfl (.cons (by first | rfl | (rw [hstep]; rfl) | (rw [hstep,List.length_append]; rfl) | (rw [hstep,hax]; rfl) | (rw [hstep,List.length_append,hax]; rfl)) rfl rfl (.cons (by first | rfl | (rw [hstep]; rfl) | (rw [hstep,List.length_append]; rfl) | (rw [hstep,hax]; rfl) | (rw [hstep,List.length_append,hax]; rfl)) rfl (rF_low rowAx _ _) .nil))))) ⟨0,rfl,rfl,⟨Nat.zero_le _,fun j h=>absurd h (Nat.not_lt_zero j)⟩⟩ ?_
 rintro n s ⟨k,rfl,rfl,hinv⟩
 obtain ⟨hk,hj⟩:=hinv
 have hml:((c.aux.take k).map (axN σ)).length≤1000:=by rw [List.length_map,List.length_take]; omega
 refine wS (wR ?_)
 refine oL (lP rfl (fun _ _=>nofun) (fun _=>rfl)) rfl rfl ?_
 refine oN (aN (wS ?_))
 refine wC rfl (fun hc39=>?_) (fun hc39=>?_)
 ·skip
  have hlt:k < c.aux.length:=Int.ofNat_lt.1 (of_decide_eq_true hc39)
  have hstep:((c.aux.take (k+1)).map (axN σ))=((c.aux.take k).map (axN σ))++[(axN σ) c.aux[k]]:=by rw [List.take_succ_eq_append_getElem hlt,List.map_append]; rfl
  refine wK (aN (wS (wB (wS (wR ?_)))))
  refine oL (lI Tryz.underlying30 sz81 rfl rfl (by first | assumption | omega)) rfl rfl ?_
  refine oL (LOp.ldTN row81 rfl rfl) rfl rfl ?_
  refine oW (LOp.al zr81 rfl) rfl rfl 6 rfl ?_
  refine AOps.wr (LOp.st sz81 rfl rfl rfl rfl rfl rfl rfl rfl) rfl rfl rfl ?_
  refine oN (aN (wS (wS (wR ?_))))
  refine oL (lF fi81_1 rfl rfl rfl rfl rfl) rfl rfl ?_
  refine oL (lD row2 rfl rfl rfl rfl rfl) rfl rfl ?_
  refine oL (lP rfl (fun _ _=>nofun) (fun _=>rfl)) rfl rfl ?_
  refine oN (aN ?_)
  refine wC rfl (fun hc44=>?_) (fun hc44=>?_)
  ·skip
   have hby:c.aux[k].by_=0:=by simpa using hc44
   have hax:=ax_t (σ:=σ) hby
   refine wR ?_
   refine oL (lE row117 rfl rfl) rfl rfl ?_
   refine oL (lF fi81_2 rfl rfl rfl rfl rfl) rfl rfl ?_
   refine oL (lD row3 rfl rfl rfl rfl rfl) rfl rfl ?_
   refine oL (LOp.callVB [] hN.bod rfl rfl (FzL.pure hN.pur) (hN.call c.aux[k].tx (hc.auxt _ (List.getElem_mem _) hby).1 (hc.auxt _ (List.getElem_mem _) hby).2)) rfl rfl ?_
   refine oL (lF fi81_2 rfl rfl rfl rfl rfl) rfl rfl ?_
   refine AOps.wr (LOp.st sz3 rfl rfl rfl rfl rfl rfl rfl rfl) rfl rfl rfl ?_
   refine oN (aN (wS (wR ?_)))
   refine oL (lM (a:=.clo _ _) rfl) rfl rfl ?_
   refine oL (lF fi81_0 rfl rfl rfl rfl rfl) rfl rfl ?_
   refine oL (LOp.ldN row79 rfl rfl rfl rfl rfl) rfl rfl ?_
   refine oL (LOp.callVP bod92 rfl rfl rfl (form_n hN hm c.aux[k].of_ (hc.auxf _ (List.getElem_mem _)))) rfl rfl ?_
   refine oL (lF fi81_0 rfl rfl rfl rfl rfl) rfl rfl ?_
   refine AOps.wr (LOp.st sz79 rfl rfl rfl rfl rfl rfl rfl rfl) rfl rfl rfl ?_
   refine oN (aN (wR ?_))
   refine oL (lF fi35_2 rfl rfl rfl rfl rfl) rfl rfl ?_
   refine oL (lD row30 rfl rfl rfl rfl rfl) rfl rfl ?_
   refine oL (LOp.ldN row81 rfl rfl rfl rfl rfl) rfl rfl ?_
   refine oW (LOp.bs Tryz.underlying30 sz81 zr81 rfl rfl rfl rfl) rfl rfl 7 rfl ?_
   refine AOps.gv (LOp.appRow rowAx (a:=⟨liN σ c.aux[k].of_,c.aux[k].by_,σ c.aux[k].tx⟩) Tryz.underlying30 sz81 zr81 by81 rfl rfl rfl (Src.slB rfl rfl rfl rfl) rfl (by omega) (by omega) (by unfold TV; omega)) rfl rfl 7 rfl rfl ?_
   refine oL (lF fi35_2 rfl rfl rfl rfl rfl) rfl rfl ?_
   refine AOps.wr (LOp.st sz30 rfl rfl rfl rfl rfl rfl rfl rfl) rfl rfl rfl ?_
   refine oN (bN (aN (wR ?_)))
   refine oL (lJ rfl rfl (by omega) (by omega)) rfl rfl ?_
   refine oL (lM (a:=.v _) rfl) rfl rfl ?_
   refine oN (aN ?_)
   refine ⟨(c.aux.length - (k+1)),⟨fL [(2,.ptr 0 0 0),(3,.tp [.clo g caps] 0),(4,.ptr 2 0 0),(6,.clo 92 [.tp [.clo g caps] 0]),(8,.ptr 3 0 0),(36,.tree 4 (c.aux.map axA)),(37,.v (.int .i64 ((c.aux.length:Nat):Int))),(38,.v (.int .i64 (((k+1):Nat):Int)))],hLz [(0,⟨0,clA c,0,false⟩),(2,⟨0,[.v (.slice none 0 0),.v (.slice none 0 0),.v (.slice none 0 0),.v (.slice none 0 0),.v (.slice none 0 0),.v (.slice none 0 0),.v (.slice none 0 0)],0,false⟩),(3,⟨0,[isA (srtU (c.nul.map σ)),isA (srtU (c.nn.map σ)),.sl 4 (k+1) 0 ((c.aux.take (k+1)).map (axN σ)).length,.v (.slice none 0 0),.v (.slice none 0 0),psA (c.same.map (pairN σ)),psA (c.diff.map (pairN σ))],0,false⟩),(4,⟨(k+1),rF axA ((c.aux.take (k+1)).map (axN σ)),4,Nat.beq ((c.aux.take (k+1)).map (axN σ)).length 0⟩)],5⟩,by omega,(cO (.cons rfl rfl (.cons rfl rfl (.cons rfl rfl (.cons rfl rfl (.cons rfl rfl (.cons rfl rfl (.cons rfl rfl (.cons rfl rfl .nil)))))))) (.cons rfl rfl rfl (.cons rfl rfl rfl (.cons (by first | rfl | (rw [hstep]; rfl) | (rw [hstep,List.length_append]; rfl) | (rw [hstep,hax]; rfl) | (rw [hstep,List.length_append,hax]; rfl)) rfl rfl (.cons (by first | rfl | (rw [hstep]; rfl) | (rw [hstep,List.length_append]; rfl) | (rw [hstep,hax]; rfl) | (rw [hstep,List.length_append,hax]; rfl)) rfl (rF_low rowAx _ _) .nil))))),(k+1),rfl,rfl,?_⟩
   refine ⟨by omega,fun j h=>?_⟩
   rcases Nat.lt_succ_iff_lt_or_eq.1 h with h | rfl
   ·exact hj j h
   ·rfl
  ·skip
   have hby:¬ c.aux[k].by_=0:=by simpa using hc44
   have hax:=ax_f (σ:=σ) hby
   refine wK (aN (wS (wR ?_)))
   refine oL (lM (a:=.clo _ _) rfl) rfl rfl ?_
   refine oL (lF fi81_0 rfl rfl rfl rfl rfl) rfl rfl ?_
   refine oL (LOp.ldN row79 rfl rfl rfl rfl rfl) rfl rfl ?_
   refine oL (LOp.callVP bod92 rfl rfl rfl (form_n hN hm c.aux[k].of_ (hc.auxf _ (List.getElem_mem _)))) rfl rfl ?_
   refine oL (lF fi81_0 rfl rfl rfl rfl rfl) rfl rfl ?_
   refine AOps.wr (LOp.st sz79 rfl rfl rfl rfl rfl rfl rfl rfl) rfl rfl rfl ?_
   refine oN (aN (wR ?_))
   refine oL (lF fi35_2 rfl rfl rfl rfl rfl) rfl rfl ?_
   refine oL (lD row30 rfl rfl rfl rfl rfl) rfl rfl ?_
   refine oL (LOp.ldN row81 rfl rfl rfl rfl rfl) rfl rfl ?_
   refine oW (LOp.bs Tryz.underlying30 sz81 zr81 rfl rfl rfl rfl) rfl rfl 7 rfl ?_
   refine AOps.gv (LOp.appRow rowAx (a:=⟨liN σ c.aux[k].of_,c.aux[k].by_,c.aux[k].tx⟩) Tryz.underlying30 sz81 zr81 by81 rfl rfl rfl (Src.slB rfl rfl rfl rfl) rfl (by omega) (by omega) (by unfold TV; omega)) rfl rfl 7 rfl rfl ?_
   refine oL (lF fi35_2 rfl rfl rfl rfl rfl) rfl rfl ?_
   refine AOps.wr (LOp.st sz30 rfl rfl rfl rfl rfl rfl rfl rfl) rfl rfl rfl ?_
   refine oN (bN (aN (wR ?_)))
   refine oL (lJ rfl rfl (by omega) (by omega)) rfl rfl ?_
   refine oL (lM (a:=.v _) rfl) rfl rfl ?_
   refine oN (aN ?_)
   refine ⟨(c.aux.length - (k+1)),⟨fL [(2,.ptr 0 0 0),(3,.tp [.clo g caps] 0),(4,.ptr 2 0 0),(6,.clo 92 [.tp [.clo g caps] 0]),(8,.ptr 3 0 0),(36,.tree 4 (c.aux.map axA)),(37,.v (.int .i64 ((c.aux.length:Nat):Int))),(38,.v (.int .i64 (((k+1):Nat):Int)))],hLz [(0,⟨0,clA c,0,false⟩),(2,⟨0,[.v (.slice none 0 0),.v (.slice none 0 0),.v (.slice none 0 0),.v (.slice none 0 0),.v (.slice none 0 0),.v (.slice none 0 0),.v (.slice none 0 0)],0,false⟩),(3,⟨0,[isA (srtU (c.nul.map σ)),isA (srtU (c.nn.map σ)),.sl 4 (k+1) 0 ((c.aux.take (k+1)).map (axN σ)).length,.v (.slice none 0 0),.v (.slice none 0 0),psA (c.same.map (pairN σ)),psA (c.diff.map (pairN σ))],0,false⟩),(4,⟨(k+1),rF axA ((c.aux.take (k+1)).map (axN σ)),4,Nat.beq ((c.aux.take (k+1)).map (axN σ)).length 0⟩)],5⟩,by omega,(cO (.cons rfl rfl (.cons rfl rfl (.cons rfl rfl (.cons rfl rfl (.cons rfl rfl (.cons rfl rfl (.cons rfl rfl (.cons rfl rfl .nil)))))))) (.cons rfl rfl rfl (.cons rfl rfl rfl (.cons (by first | rfl | (rw [hstep]; rfl) | (rw [hstep,List.length_append]; rfl) | (rw [hstep,hax]; rfl) | (rw [hstep,List.length_append,hax]; rfl)) rfl rfl (.cons (by first | rfl | (rw [hstep]; rfl) | (rw [hstep,List.length_append]; rfl) | (rw [hstep,hax]; rfl) | (rw [hstep,List.length_append,hax]; rfl)) rfl (rF_low rowAx _ _) .nil))))),(k+1),rfl,rfl,?_⟩
   refine ⟨by omega,fun j h=>?_⟩
   rcases Nat.lt_succ_iff_lt_or_eq.1 h with h | rfl
   ·exact hj j h
   ·rfl
 ·skip
  have hge:¬ k < c.aux.length:=fun h=>of_decide_eq_false hc39 (Int.ofNat_lt.2 h)
  have hkl:k=c.aux.length:=by omega
  subst hkl
  clear hj hk hge
  refine AWP.exit (aE (aE (bE ?_)))
  refine aN (wS (wS (wR ?_)))
  refine oL (lF fi35_3 rfl rfl rfl rfl rfl) rfl rfl ?_
  refine oL (lD row31 rfl rfl rfl rfl rfl) rfl rfl ?_
  refine oL (lT rfl Tryz.underlying31 rfl) rfl rfl ?_
  refine oL (lM (a:=.v _) rfl) rfl rfl ?_
  refine oN (aN (wB ?_))
  refine AWP.lazyC 3 3 3 rfl rfl rfl rfl rfl 6 rfl ?_
  refine wL (fun n s=>∃ k2:Nat,n=(c.ints.length - k2)∧s=⟨fL [(2,.ptr 0 0 0),(3,.tp [.clo g caps] 0),(4,.ptr 2 0 0),(6,.clo 92 [.tp [.clo g caps] 0]),(8,.ptr 3 0 0),(63,.tree 3 (c.ints.map cnA)),(64,.v (.int .i64 ((c.ints.length:Nat):Int))),(65,.v (.int .i64 ((k2:Nat):Int)))],hLz [(0,⟨0,clA c,0,false⟩),(2,⟨0,[.v (.slice none 0 0),.v (.slice none 0 0),.v (.slice none 0 0),.v (.slice none 0 0),.v (.slice none 0 0),.v (.slice none 0 0),.v (.slice none 0 0)],0,false⟩),(3,⟨0,[isA (srtU (c.nul.map σ)),isA (srtU (c.nn.map σ)),.sl 4 c.aux.length 0 ((c.aux.take c.aux.length).map (axN σ)).length,.sl 5 k2 0 ((c.ints.take k2).map (cnN σ)).length,.v (.slice none 0 0),psA (c.same.map (pairN σ)),psA (c.diff.map (pairN σ))],0,false⟩),(4,⟨c.aux.length,rF axA ((c.aux.take c.aux.length).map (axN σ)),4,Nat.beq ((c.aux.take c.aux.length).map (axN σ)).length 0⟩),(5,⟨k2,rF cnA ((c.ints.take k2).map (cnN σ)),3,Nat.beq ((c.ints.take k2).map (cnN σ)).length 0⟩)],6⟩∧(k2≤c.ints.length∧∀ j,j < k2→(fun _=>true) j=true)) (n:=(c.ints.length - 0)) (s1:=⟨fL [(2,.ptr 0 0 0),(3,.tp [.clo g caps] 0),(4,.ptr 2 0 0),(6,.clo 92 [.tp [.clo g caps] 0]),(8,.ptr 3 0 0),(63,.tree 3 (c.ints.map cnA)),(64,.v (.int .i64 ((c.ints.length:Nat):Int))),(65,.v (.int .i64 ((0:Nat):Int)))],hLz [(0,⟨0,clA c,0,false⟩),(2,⟨0,[.v (.slice none 0 0),.v (.slice none 0 0),.v (.slice none 0 0),.v (.slice none 0 0),.v (.slice none 0 0),.v (.slice none 0 0),.v (.slice none 0 0)],0,false⟩),(3,⟨0,[isA (srtU (c.nul.map σ)),isA (srtU (c.nn.map σ)),.sl 4 c.aux.length 0 ((c.aux.take c.aux.length).map (axN σ)).length,.sl 5 0 0 ((c.ints.take 0).map (cnN σ)).length,.v (.slice none 0 0),psA (c.same.map (pairN σ)),psA (c.diff.map (pairN σ))],0,false⟩),(4,⟨c.aux.length,rF axA ((c.aux.take c.aux.length).map (axN σ)),4,Nat.beq ((c.aux.take c.aux.length).map (axN σ)).length 0⟩),(5,⟨0,rF cnA ((c.ints.take 0).map (cnN σ)),3,Nat.beq ((c.ints.take 0).map (cnN σ)).length 0⟩)],6⟩) (cO (.cons rfl rfl (.cons rfl rfl (.cons rfl rfl (.cons rfl rfl (.cons rfl rfl (.cons rfl rfl (.cons rfl rfl (.cons rfl rfl .nil)))))))) (.cons rfl rfl rfl (.cons rfl rfl rfl (.cons (by first | rfl | (rw [hstep]; rfl) | (rw [hstep,List.length_append]; rfl) | (rw [hstep,hax]; rfl) | (rw [hstep,List.length_append,hax]; rfl)) rfl rfl (.cons rfl rfl (rF_low rowAx _ _) (.cons (by first | rfl | (rw [hstep]; rfl) | (rw [hstep,List.length_append]; rfl) | (rw [hstep,hax]; rfl) | (rw [hstep,List.length_append,hax]; rfl)) rfl (rF_low rowCn _ _) .nil)))))) ⟨0,rfl,rfl,⟨Nat.zero_le _,fun j h=>absurd h (Nat.not_lt_zero j)⟩⟩ ?_
  rintro n s ⟨k2,rfl,rfl,hinv⟩
  obtain ⟨hk,hj⟩:=hinv
  have hml:((c.ints.take k2).map (cnN σ)).length≤1000:=by rw [List.length_map,List.length_take]; omega
  refine wS (wR ?_)
  refine oL (lP rfl (fun _ _=>nofun) (fun _=>rfl)) rfl rfl ?_
  refine oN (aN (wS ?_))
  refine wC rfl (fun hc66=>?_) (fun hc66=>?_)
  ·skip
   have hlt:k2 < c.ints.length:=Int.ofNat_lt.1 (of_decide_eq_true hc66)
   have hstep:((c.ints.take (k2+1)).map (cnN σ))=((c.ints.take k2).map (cnN σ))++[(cnN σ) c.ints[k2]]:=by rw [List.take_succ_eq_append_getElem hlt,List.map_append]; rfl
   refine wK (aN (wS (wB (wS (wR ?_)))))
   refine oL (lI Tryz.underlying31 sz84 rfl rfl (by first | assumption | omega)) rfl rfl ?_
   refine oL (LOp.ldTN row84 rfl rfl) rfl rfl ?_
   refine oW (LOp.al zr84 rfl) rfl rfl 7 rfl ?_
   refine AOps.wr (LOp.st sz84 rfl rfl rfl rfl rfl rfl rfl rfl) rfl rfl rfl ?_
   refine oN (aN (AWP.regD mixed ?_))
   refine qL (lF fi35_3 rfl rfl rfl rfl rfl) rfl rfl ?_
   refine qL (lD row31 rfl rfl rfl rfl rfl) rfl rfl ?_
   refine qL (lM (a:=.clo _ _) rfl) rfl rfl ?_
   refine qL (lF fi84_0 rfl rfl rfl rfl rfl) rfl rfl ?_
   refine qL (LOp.ldN row79 rfl rfl rfl rfl rfl) rfl rfl ?_
   refine qL (LOp.callVP bod92 rfl rfl rfl (form_n hN hm c.ints[k2].l (hc.ints _ (List.getElem_mem _)))) rfl rfl ?_
   refine qL (lF fi84_1 rfl rfl rfl rfl rfl) rfl rfl ?_
   refine qL (lD row4 rfl rfl rfl rfl rfl) rfl rfl ?_
   refine qL (LOp.bd zr84 pl84 rfl rfl) rfl rfl ?_
   refine SeqC.nw (LOp.bs Tryz.underlying31 sz84 zr84 rfl rfl rfl rfl) rfl rfl 8 rfl ?_
   refine SeqC.gv (LOp.appRow rowCn (a:=cnN σ c.ints[k2]) Tryz.underlying31 sz84 zr84 by84 rfl rfl rfl (Src.slB rfl rfl rfl rfl) rfl (by omega) (by omega) (by unfold TV; omega)) rfl rfl 8 rfl rfl ?_
   refine qL (lF fi35_3 rfl rfl rfl rfl rfl) rfl rfl ?_
   refine SeqC.wr (LOp.st sz31 rfl rfl rfl rfl rfl rfl rfl rfl) rfl rfl rfl ?_
   refine SeqC.nil ⟨by kernel_rfl,?_⟩
   refine bN (aN (wR ?_))
   refine oL (lJ rfl rfl (by omega) (by omega)) rfl rfl ?_
   refine oL (lM (a:=.v _) rfl) rfl rfl ?_
   refine oN (aN ?_)
   refine ⟨(c.ints.length - (k2+1)),⟨fL [(2,.ptr 0 0 0),(3,.tp [.clo g caps] 0),(4,.ptr 2 0 0),(6,.clo 92 [.tp [.clo g caps] 0]),(8,.ptr 3 0 0),(63,.tree 3 (c.ints.map cnA)),(64,.v (.int .i64 ((c.ints.length:Nat):Int))),(65,.v (.int .i64 (((k2+1):Nat):Int)))],hLz [(0,⟨0,clA c,0,false⟩),(2,⟨0,[.v (.slice none 0 0),.v (.slice none 0 0),.v (.slice none 0 0),.v (.slice none 0 0),.v (.slice none 0 0),.v (.slice none 0 0),.v (.slice none 0 0)],0,false⟩),(3,⟨0,[isA (srtU (c.nul.map σ)),isA (srtU (c.nn.map σ)),.sl 4 c.aux.length 0 ((c.aux.take c.aux.length).map (axN σ)).length,.sl 5 (k2+1) 0 ((c.ints.take (k2+1)).map (cnN σ)).length,.v (.slice none 0 0),psA (c.same.map (pairN σ)),psA (c.diff.map (pairN σ))],0,false⟩),(4,⟨c.aux.length,rF axA ((c.aux.take c.aux.length).map (axN σ)),4,Nat.beq ((c.aux.take c.aux.length).map (axN σ)).length 0⟩),(5,⟨(k2+1),rF cnA ((c.ints.take (k2+1)).map (cnN σ)),3,Nat.beq ((c.ints.take (k2+1)).map (cnN σ)).length 0⟩)],6⟩,by omega,(cO (.cons rfl rfl (.cons rfl rfl (.cons rfl rfl (.cons rfl rfl (.cons rfl rfl (.cons rfl rfl (.cons rfl rfl (.cons rfl rfl .nil)))))))) (.cons rfl rfl rfl (.cons rfl rfl rfl (.cons (by first | rfl | (rw [hstep]; rfl) | (rw [hstep,List.length_append]; rfl) | (rw [hstep,hax]; rfl) | (rw [hstep,List.length_append,hax]; rfl)) rfl rfl (.cons rfl rfl (rF_low rowAx _ _) (.cons (by first | rfl | (rw [hstep]; rfl) | (rw [hstep,List.length_append]; rfl) | (rw [hstep,hax]; rfl) | (rw [hstep,List.length_append,hax]; rfl)) rfl (rF_low rowCn _ _) .nil)))))),(k2+1),rfl,rfl,?_⟩
   refine ⟨by omega,fun j h=>?_⟩
   rcases Nat.lt_succ_iff_lt_or_eq.1 h with h | rfl
   ·exact hj j h
   ·rfl
  ·skip
   have hge:¬ k2 < c.ints.length:=fun h=>of_decide_eq_false hc66 (Int.ofNat_lt.2 h)
   have hkl:k2=c.ints.length:=by omega
   subst hkl
   clear hj hk hge
   refine AWP.exit (aE (aE (bE ?_)))
   refine aN (wS (wS (wR ?_)))
   refine oL (lF fi35_4 rfl rfl rfl rfl rfl) rfl rfl ?_
   refine oL (lD row32 rfl rfl rfl rfl rfl) rfl rfl ?_
   refine oL (lT rfl Tryz.underlying32 rfl) rfl rfl ?_
   refine oL (lM (a:=.v _) rfl) rfl rfl ?_
   refine oN (aN (wB ?_))
   refine AWP.lazyC 3 4 4 rfl rfl rfl rfl rfl 7 rfl ?_
   refine wL (fun n s=>∃ k3:Nat,n=(c.tests.length - k3)∧s=⟨fL [(2,.ptr 0 0 0),(3,.tp [.clo g caps] 0),(4,.ptr 2 0 0),(6,.clo 92 [.tp [.clo g caps] 0]),(8,.ptr 3 0 0),(83,.tree 4 (c.tests.map teA)),(84,.v (.int .i64 ((c.tests.length:Nat):Int))),(85,.v (.int .i64 ((k3:Nat):Int)))],hLz [(0,⟨0,clA c,0,false⟩),(2,⟨0,[.v (.slice none 0 0),.v (.slice none 0 0),.v (.slice none 0 0),.v (.slice none 0 0),.v (.slice none 0 0),.v (.slice none 0 0),.v (.slice none 0 0)],0,false⟩),(3,⟨0,[isA (srtU (c.nul.map σ)),isA (srtU (c.nn.map σ)),.sl 4 c.aux.length 0 ((c.aux.take c.aux.length).map (axN σ)).length,.sl 5 c.ints.length 0 ((c.ints.take c.ints.length).map (cnN σ)).length,.sl 6 k3 0 ((c.tests.take k3).map (teN σ)).length,psA (c.same.map (pairN σ)),psA (c.diff.map (pairN σ))],0,false⟩),(4,⟨c.aux.length,rF axA ((c.aux.take c.aux.length).map (axN σ)),4,Nat.beq ((c.aux.take c.aux.length).map (axN σ)).length 0⟩),(5,⟨c.ints.length,rF cnA ((c.ints.take c.ints.length).map (cnN σ)),3,Nat.beq ((c.ints.take c.ints.length).map (cnN σ)).length 0⟩),(6,⟨k3,rF teA ((c.tests.take k3).map (teN σ)),4,Nat.beq ((c.tests.take k3).map (teN σ)).length 0⟩)],7⟩∧(k3≤c.tests.length∧∀ j,j < k3→(fun _=>true) j=true)) (n:=(c.tests.length - 0)) (s1:=⟨fL [(2,.ptr 0 0 0),(3,.tp [.clo g caps] 0),(4,.ptr 2 0 0),(6,.clo 92 [.tp [.clo g caps] 0]),(8,.ptr 3 0 0),(83,.tree 4 (c.tests.map teA)),(84,.v (.int .i64 ((c.tests.length:Nat):Int))),(85,.v (.int .i64 ((0:Nat):Int)))],hLz [(0,⟨0,clA c,0,false⟩),(2,⟨0,[.v (.slice none 0 0),.v (.slice none 0 0),.v (.slice none 0 0),.v (.slice none 0 0),.v (.slice none 0 0),.v (.slice none 0 0),.v (.slice none 0 0)],0,false⟩),(3,⟨0,[isA (srtU (c.nul.map σ)),isA (srtU (c.nn.map σ)),.sl 4 c.aux.length 0 ((c.aux.take c.aux.length).map (axN σ)).length,.sl 5 c.ints.length 0 ((c.ints.take c.ints.length).map (cnN σ)).length,.sl 6 0 0 ((c.tests.take 0).map (teN σ)).length,psA (c.same.map (pairN σ)),psA (c.diff.map (pairN σ))],0,false⟩),(4,⟨c.aux.length,rF axA ((c.aux.take c.aux.length).map (axN σ)),4,Nat.beq ((c.aux.take c.aux.length).map (axN σ)).length 0⟩),(5,⟨c.ints.length,rF cnA ((c.ints.take c.ints.length).map (cnN σ)),3,Nat.beq ((c.ints.take c.ints.length).map (cnN σ)).length 0⟩),(6,⟨0,rF teA ((c.tests.take 0).map (teN σ)),4,Nat.beq ((c.tests.take 0).map (teN σ)).length 0⟩)],7⟩) (cO (.cons rfl rfl (.cons rfl rfl (.cons rfl rfl (.cons rfl rfl (.cons rfl rfl (.cons rfl rfl (.cons rfl rfl (.cons rfl rfl .nil)))))))) (.cons rfl rfl rfl (.cons rfl rfl rfl (.cons (by first | rfl | (rw [hstep]; rfl) | (rw [hstep,List.length_append]; rfl) | (rw [hstep,hax]; rfl) | (rw [hstep,List.length_append,hax]; rfl)) rfl rfl (.cons rfl rfl (rF_low rowAx _ _) (.cons rfl rfl (rF_low rowCn _ _) (.cons (by first | rfl | (rw [hstep]; rfl) | (rw [hstep,List.length_append]; rfl) | (rw [hstep,hax]; rfl) | (rw [hstep,List.length_append,hax]; rfl)) rfl (rF_low rowTe _ _) .nil))))))) ⟨0,rfl,rfl,⟨Nat.zero_le _,fun j h=>absurd h (Nat.not_lt_zero j)⟩⟩ ?_
   rintro n s ⟨k3,rfl,rfl,hinv⟩
   obtain ⟨hk,hj⟩:=hinv
   have hml:((c.tests.take k3).map (teN σ)).length≤1000:=by rw [List.length_map,List.length_take]; omega
   refine wS (wR ?_)
   refine oL (lP rfl (fun _ _=>nofun) (fun _=>rfl)) rfl rfl ?_
   refine oN (aN (wS ?_))
   refine wC rfl (fun hc86=>?_) (fun hc86=>?_)
   ·skip
    have hlt:k3 < c.tests.length:=Int.ofNat_lt.1 (of_decide_eq_true hc86)
    have hstep:((c.tests.take (k3+1)).map (teN σ))=((c.tests.take k3).map (teN σ))++[(teN σ) c.tests[k3]]:=by rw [List.take_succ_eq_append_getElem hlt,List.map_append]; rfl
    refine wK (aN (wS (wB (wS (wR ?_)))))
    refine oL (lI Tryz.underlying32 sz52 rfl rfl (by first | assumption | omega)) rfl rfl ?_
    refine oL (LOp.ldTN row52 rfl rfl) rfl rfl ?_
    refine oW (LOp.al zr52 rfl) rfl rfl 8 rfl ?_
    refine AOps.wr (LOp.st sz52 rfl rfl rfl rfl rfl rfl rfl rfl) rfl rfl rfl ?_
    refine oN (aN (wS (wR ?_)))
    refine oL (lE row117 rfl rfl) rfl rfl ?_
    refine oL (lF fi52_0 rfl rfl rfl rfl rfl) rfl rfl ?_
    refine oL (lD row3 rfl rfl rfl rfl rfl) rfl rfl ?_
    refine oL (LOp.callVB [] hN.bod rfl rfl (FzL.pure hN.pur) (hN.call c.tests[k3].v (hc.tests _ (List.getElem_mem _)).1 (hc.tests _ (List.getElem_mem _)).2)) rfl rfl ?_
    refine oL (lF fi52_0 rfl rfl rfl rfl rfl) rfl rfl ?_
    refine AOps.wr (LOp.st sz3 rfl rfl rfl rfl rfl rfl rfl rfl) rfl rfl rfl ?_
    refine oN (aN (wR ?_))
    refine oL (lF fi35_4 rfl rfl rfl rfl rfl) rfl rfl ?_
    refine oL (lD row32 rfl rfl rfl rfl rfl) rfl rfl ?_
    refine oL (LOp.ldN row52 rfl rfl rfl rfl rfl) rfl rfl ?_
    refine oW (LOp.bs Tryz.underlying32 sz52 zr52 rfl rfl rfl rfl) rfl rfl 9 rfl ?_
    refine AOps.gv (LOp.appRow rowTe (a:=teN σ c.tests[k3]) Tryz.underlying32 sz52 zr52 by52 rfl rfl rfl (Src.slB rfl rfl rfl rfl) rfl (by omega) (by omega) (by unfold TV; omega)) rfl rfl 9 rfl rfl ?_
    refine oL (lF fi35_4 rfl rfl rfl rfl rfl) rfl rfl ?_
    refine AOps.wr (LOp.st sz32 rfl rfl rfl rfl rfl rfl rfl rfl) rfl rfl rfl ?_
    refine oN (bN (aN (wR ?_)))
    refine oL (lJ rfl rfl (by omega) (by omega)) rfl rfl ?_
    refine oL (lM (a:=.v _) rfl) rfl rfl ?_
    refine oN (aN ?_)
    refine ⟨(c.tests.length - (k3+1)),⟨fL [(2,.ptr 0 0 0),(3,.tp [.clo g caps] 0),(4,.ptr 2 0 0),(6,.clo 92 [.tp [.clo g caps] 0]),(8,.ptr 3 0 0),(83,.tree 4 (c.tests.map teA)),(84,.v (.int .i64 ((c.tests.length:Nat):Int))),(85,.v (.int .i64 (((k3+1):Nat):Int)))],hLz [(0,⟨0,clA c,0,false⟩),(2,⟨0,[.v (.slice none 0 0),.v (.slice none 0 0),.v (.slice none 0 0),.v (.slice none 0 0),.v (.slice none 0 0),.v (.slice none 0 0),.v (.slice none 0 0)],0,false⟩),(3,⟨0,[isA (srtU (c.nul.map σ)),isA (srtU (c.nn.map σ)),.sl 4 c.aux.length 0 ((c.aux.take c.aux.length).map (axN σ)).length,.sl 5 c.ints.length 0 ((c.ints.take c.ints.length).map (cnN σ)).length,.sl 6 (k3+1) 0 ((c.tests.take (k3+1)).map (teN σ)).length,psA (c.same.map (pairN σ)),psA (c.diff.map (pairN σ))],0,false⟩),(4,⟨c.aux.length,rF axA ((c.aux.take c.aux.length).map (axN σ)),4,Nat.beq ((c.aux.take c.aux.length).map (axN σ)).length 0⟩),(5,⟨c.ints.length,rF cnA ((c.ints.take c.ints.length).map (cnN σ)),3,Nat.beq ((c.ints.take c.ints.length).map (cnN σ)).length 0⟩),(6,⟨(k3+1),rF teA ((c.tests.take (k3+1)).map (teN σ)),4,Nat.beq ((c.tests.take (k3+1)).map (teN σ)).length 0⟩)],7⟩,by omega,(cO (.cons rfl rfl (.cons rfl rfl (.cons rfl rfl (.cons rfl rfl (.cons rfl rfl (.cons rfl rfl (.cons rfl rfl (.cons rfl rfl .nil)))))))) (.cons rfl rfl rfl (.cons rfl rfl rfl (.cons (by first | rfl | (rw [hstep]; rfl) | (rw [hstep,List.length_append]; rfl) | (rw [hstep,hax]; rfl) | (rw [hstep,List.length_append,hax]; rfl)) rfl rfl (.cons rfl rfl (rF_low rowAx _ _) (.cons rfl rfl (rF_low rowCn _ _) (.cons (by first | rfl | (rw [hstep]; rfl) | (rw [hstep,List.length_append]; rfl) | (rw [hstep,hax]; rfl) | (rw [hstep,List.length_append,hax]; rfl)) rfl (rF_low rowTe _ _) .nil))))))),(k3+1),rfl,rfl,?_⟩
    refine ⟨by omega,fun j h=>?_⟩
    rcases Nat.lt_succ_iff_lt_or_eq.1 h with h | rfl
    ·exact hj j h
    ·rfl
   ·skip
    have hge:¬ k3 < c.tests.length:=fun h=>of_decide_eq_false hc86 (Int.ofNat_lt.2 h)
    have hkl:k3=c.tests.length:=by omega
    subst hkl
    clear hj hk hge
    refine AWP.exit (aE (aE (bE ?_)))
    refine aN (wS (wR ?_))
    refine oL (LOp.ldN row35 rfl rfl rfl rfl rfl) rfl rfl ?_
    refine AOps.wr (LOp.st sz35 rfl rfl rfl rfl rfl rfl rfl rfl) rfl rfl rfl ?_
    refine oN (aN ?_)
    refine wT (?_)
    refine ⟨.inr rfl,Outs.cell Tryz.results50 row35 rfl rfl rfl rfl rfl ?_⟩
    rw [List.take_length,List.take_length,List.take_length]
    exact ⟨[4,5,6],fz_clN rfl rfl rfl⟩
end Go.Proofs.YtgknefkobpnjaaaGreatDoor
namespace Go.Proofs.YtgknefkobpnjaaaGreatDoor
set_option linter.unusedVariables false
set_option linter.unusedSimpArgs false
open Go.RowKit
/-- The name that Rename gives. -/
def renS (to:List Int) (n v:Int):Int:=if v≥(to.length:Int) then n+v - to.length else to.getD v.toNat 0
/-- The name that Join gives to a variable of the second clause. -/
def shS (n:Int) (m:Nat) (v:Int):Int:=if v≥n then v+m else v
theorem bod49:bodied Tryz.prog 49=true:=by kernel_rfl
theorem bod50:bodied Tryz.prog 50=true:=by kernel_rfl
theorem bod51:bodied Tryz.prog 51=true:=by kernel_rfl
theorem bod58:bodied Tryz.prog 58=true:=by kernel_rfl
set_option maxRecDepth 100000 in
set_option maxHeartbeats 4000000 in
theorem ren1 (to:List Int) (n v:Int) (ht:to.length≤1000) (hn0:0≤n) (hn:n≤1000000) (hv0:0≤v) (hv:v≤1000000):PCall Tryz.prog 58 [.v (.int .i64 v),.tp [isA to] 0,.tp [.v (.int .i64 n)] 0] (.v (.int .i64 (renS to n v))):=by
 refine pB Tryz.func58 rfl Tryz.ntmps58 (Nat.le_of_ble_eq_true rfl) ?_
 refine wS (wR ?_)
 refine oL (lA (a:=.v _) rfl) rfl rfl ?_
 refine oN (aN (wS (wS (wR ?_))))
 refine oL (lM (a:=.v _) rfl) rfl rfl ?_
 refine oL (lE row29 rfl rfl) rfl rfl ?_
 refine oL (lT rfl Tryz.underlying29 rfl) rfl rfl ?_
 refine oL (lP rfl (fun _ _=>nofun) (fun _=>rfl)) rfl rfl ?_
 refine oN (aN ?_)
 refine wC rfl (fun hc8=>?_) (fun hc8=>?_)
 ·skip
  have hge:v≥(to.length:Int):=of_decide_eq_true hc8
  refine wS (wR ?_)
  refine oL (lE row3 rfl rfl) rfl rfl ?_
  refine oL (lM (a:=.v _) rfl) rfl rfl ?_
  refine oL (lJ rfl rfl (by omega) (by omega)) rfl rfl ?_
  refine oL (lE row29 rfl rfl) rfl rfl ?_
  refine oL (lT rfl Tryz.underlying29 rfl) rfl rfl ?_
  refine oL (LOp.subI rfl rfl (by omega) (by omega)) rfl rfl ?_
  refine oL (lA (a:=.v _) rfl) rfl rfl ?_
  refine oN (aN ?_)
  refine wT (aR (?_))
  refine ⟨.inr rfl,oV Tryz.results58 rfl rfl ?_⟩
  exact vi_eq (by unfold renS; rw [if_pos hge])
 ·skip
  have hge:¬ v≥(to.length:Int):=of_decide_eq_false hc8
  obtain ⟨j,rfl⟩:∃ j:Nat,v=(j:Int):=⟨v.toNat,by omega⟩
  have hj:j < to.length:=by omega
  refine wK (aN (wS (wR ?_)))
  refine oL (lE row29 rfl rfl) rfl rfl ?_
  refine oL (lM (a:=.v _) rfl) rfl rfl ?_
  refine oL (LOp.indexI Tryz.underlying29 sz3 rfl rfl rfl hj) rfl rfl ?_
  refine oL (lE row3 rfl rfl) rfl rfl ?_
  refine oL (lA (a:=.v _) rfl) rfl rfl ?_
  refine oN (aN ?_)
  refine wT (?_)
  refine ⟨.inr rfl,oV Tryz.results58 rfl rfl ?_⟩
  exact vi_eq (by unfold renS; rw [if_neg hge,Int.toNat_natCast,getD_at hj])
set_option maxRecDepth 100000 in
set_option maxHeartbeats 4000000 in
theorem same1 (v:Int):PCall Tryz.prog 49 [.v (.int .i64 v)] (.v (.int .i64 v)):=by
 refine pB Tryz.func49 rfl Tryz.ntmps49 (Nat.le_of_ble_eq_true rfl) ?_
 refine wS (wR ?_)
 refine oL (lA (a:=.v _) rfl) rfl rfl ?_
 refine oN (aN (wS (wR ?_)))
 refine oL (lM (a:=.v _) rfl) rfl rfl ?_
 refine oL (lA (a:=.v _) rfl) rfl rfl ?_
 refine oN (aN ?_)
 refine wT (?_)
 refine ⟨.inr rfl,oV Tryz.results49 rfl rfl ?_⟩
 rfl
set_option maxRecDepth 100000 in
set_option maxHeartbeats 4000000 in
theorem sh1 (a:PCl) (n v:Int) (ha:a.aux.length≤1000) (hv0:0≤v) (hv:v≤1000000):PCall Tryz.prog 51 [.v (.int .i64 v),.tp [.v (.int .i64 n)] 0,.tp (clA a) 0] (.v (.int .i64 (shS n a.aux.length v))):=by
 refine pB Tryz.func51 rfl Tryz.ntmps51 (Nat.le_of_ble_eq_true rfl) ?_
 refine wS (wR ?_)
 refine oL (lA (a:=.v _) rfl) rfl rfl ?_
 refine oN (aN (wS (wS (wR ?_))))
 refine oL (lM (a:=.v _) rfl) rfl rfl ?_
 refine oL (lE row3 rfl rfl) rfl rfl ?_
 refine oL (lP rfl (fun _ _=>nofun) (fun _=>rfl)) rfl rfl ?_
 refine oN (aN ?_)
 refine wC rfl (fun hc7=>?_) (fun hc7=>?_)
 ·skip
  refine wS (wR ?_)
  refine oL (lM (a:=.v _) rfl) rfl rfl ?_
  refine oL (LOp.fieldAddrT fi35_2 rfl rfl) rfl rfl ?_
  refine oL (lE row30 rfl rfl) rfl rfl ?_
  refine oL (lT rfl Tryz.underlying30 rfl) rfl rfl ?_
  refine oL (lJ rfl rfl (by omega) (by omega)) rfl rfl ?_
  refine oL (lA (a:=.v _) rfl) rfl rfl ?_
  refine oN (aN ?_)
  refine wT (aR (?_))
  refine ⟨.inr rfl,oV Tryz.results51 rfl rfl ?_⟩
  exact vi_eq (by unfold shS; rw [if_pos (of_decide_eq_true hc7)])
 ·skip
  refine wK (aN (wS (wR ?_)))
  refine oL (lM (a:=.v _) rfl) rfl rfl ?_
  refine oL (lA (a:=.v _) rfl) rfl rfl ?_
  refine oN (aN ?_)
  refine wT (?_)
  refine ⟨.inr rfl,oV Tryz.results51 rfl rfl ?_⟩
  exact vi_eq (by unfold shS; rw [if_neg (of_decide_eq_false hc7)])
theorem ren_ok {to:List Int} {n N:Int} (ht:to.length≤1000) (hn:0≤n∧n≤1000000) (hN:N≤1000000):NameOk 58 [.tp [isA to] 0,.tp [.v (.int .i64 n)] 0] (renS to n) N :=
 ⟨bod58,rfl,fun v h1 h2=>ren1 to n v ht hn.1 hn.2 h1 (by omega)⟩
theorem same_ok {N:Int}:NameOk 49 [] (fun v=>v) N:=⟨bod49,rfl,fun v _ _=>same1 v⟩
theorem sh_ok {n N:Int} {a:PCl} (ha:a.aux.length≤1000) (hN:N≤1000000):NameOk 51 [.tp [.v (.int .i64 n)] 0,.tp (clA a) 0] (shS n a.aux.length) N :=
 ⟨bod51,rfl,fun v h1 h2=>sh1 a n v ha h1 (by omega)⟩
set_option maxRecDepth 100000 in
set_option maxHeartbeats 4000000 in
theorem rename_p (c:PCl) (to:List Int) (n N:Int) (ht:to.length≤1000) (hn0:0≤n) (hn:n≤1000000) (hN:N≤1000000) (hm:MonoN (renS to n) N) (hc:c.In N):PCall Tryz.prog 25 [.agg (clA c),isA to,.v (.int .i64 n)] (.agg (clA (clN (renS to n) c))):=by
 refine pB Tryz.func25 rfl Tryz.ntmps25 (Nat.le_of_ble_eq_true rfl) ?_
 refine wS (wR ?_)
 refine oW (LOp.bx rfl) rfl rfl 1 rfl ?_
 refine oW (LOp.bx rfl) rfl rfl 2 rfl ?_
 refine oW (LOp.bx rfl) rfl rfl 3 rfl ?_
 refine oW (LOp.al zr35 rfl) rfl rfl 4 rfl ?_
 refine oN (aN (wS ?_))
 refine AWP.freeze [1] 4 (.tp [isA to] 0) (FzP.ptrL (List.mem_singleton.2 rfl) rfl rfl (FzL.pure rfl)) rfl ?_
 refine AWP.freeze [2] 5 (.tp [.v (.int .i64 n)] 0) (FzP.ptrL (List.mem_singleton.2 rfl) rfl rfl (FzL.pure rfl)) rfl ?_
 refine wR ?_
 refine oL (LOp.mkFn (cs:=[.tp [isA to] 0,.tp [.v (.int .i64 n)] 0]) rfl) rfl rfl ?_
 refine oL (lA (a:=.clo _ _) rfl) rfl rfl ?_
 refine oN (aN (wS (wR ?_)))
 refine oL (LOp.ldN row35 rfl rfl rfl rfl rfl) rfl rfl ?_
 refine oL (lM (a:=.clo _ _) rfl) rfl rfl ?_
 refine oL (LOp.call bod50 rfl (renamed_n (ren_ok ht ⟨hn0,hn⟩ hN) hm c hc)) rfl rfl ?_
 refine AOps.wr (LOp.st sz35 rfl rfl rfl rfl rfl rfl rfl rfl) rfl rfl rfl ?_
 refine oN (aN ?_)
 refine wT (?_)
 refine ⟨.inr rfl,Outs.cell Tryz.results25 row35 rfl rfl rfl rfl rfl ?_⟩
 exact ⟨[],FzP.pure rfl⟩
end Go.Proofs.YtgknefkobpnjaaaGreatDoor
