/- Texts of the claim. -/
import Derived.Test.YthpangmpihkniaaGreatDoorF6
import Derived.Test.YthpangmpihkniaaGreatDoorQ2
import Derived.Test.YthpangmpihkniaaGreatDoorQ1
namespace Go.Proofs.YthpangmpihkniaaGreatDoor
set_option maxRecDepth 1000000
set_option maxHeartbeats 0
set_option linter.unusedVariables false
set_option linter.unusedSimpArgs false
open Go.RowKit
theorem zd:RowF iA 1:=⟨fun _=>rfl,fun _=>rfl,fun _ _=>rfl,fun _ _=>rfl,fun _ _=>rfl,fun _=>rfl⟩
theorem K7:RowF cfA 2:=⟨fun _=>rfl,fun _=>rfl,fun _ _=>rfl,fun _ _=>rfl,fun _ _=>rfl,fun _=>rfl⟩
theorem Az {α:Type} {f:α->List AV} {q:Nat} (h:RowF f q) {g:Nat->Nat} {v:Nat} {l:List α} {n:Bool}:some (⟨v,rF f l,q,n⟩:Blk)=some ((Blk.mk v (rF f l) q n).ren g):=by rw [v6 h]
theorem yc {α:Type} {f:α->List AV} {q:Nat} (h:RowF f q) {m:List (Nat×Nat)} {i k v:Nat} {l:List α} {n:Bool} (e:gOf m i=k):jn m [(i,some ⟨v,rF f l,q,n⟩)]=[(k,some ⟨v,rF f l,q,n⟩)]:=by
 simp only [jn,List.map_cons,List.map_nil,e,Option.map_some,v6 h]
/-- The keys seen so far whose number is not 0. -/
def vkS (es:List (Int×Int)) (S:List Nat):List Int:=(S.filter fun i=>!((es.getD i (0,0)).2==0)).map fun i=>(es.getD i (0,0)).1
theorem Wq {es:List (Int×Int)} {S:List Nat} {j:Nat} (hj:j < es.length) (h:¬ es[j].2=0):vkS es (S++[j])=vkS es S++[es[j].1]:=by
 unfold vkS
 rw [List.filter_append,List.map_append]
 simp [List.getD,hj,h]
theorem Wr {es:List (Int×Int)} {S:List Nat} {j:Nat} (hj:j < es.length) (h:es[j].2=0):vkS es (S++[j])=vkS es S:=by
 unfold vkS
 rw [List.filter_append,List.map_append]
 simp [List.getD,hj,h]
theorem S2 {es:List (Int×Int)} {S:List Nat}:(vkS es S).length<=S.length:=by unfold vkS; rw [Zl]; exact List.length_filter_le _ _
theorem C8 {S:List Nat} {n:Nat} (hnd:S.Nodup) (hlt:∀ i∈S,i < n):S.length<=n:=by
 have h:=List.Nodup.length_le_of_subset (l₂:=List.range n) hnd (fun i hi=>List.mem_range.2 (hlt i hi))
 simpa using h
theorem Li {S:List Nat} {n j:Nat} (hnd:S.Nodup) (hlt:∀ i∈S,i < n) (hj:j < n) (hjS:¬ j∈S):S.length < n:=by
 have h:=C8 (S:=j :: S) (n:=n) (List.nodup_cons.2 ⟨hjS,hnd⟩) (fun i hi=>by rcases List.mem_cons.1 hi with rfl | h; exact hj; exact hlt i h)
 simp only [List.length_cons] at h
 omega
def dq (es:List (Int×Int)):List Int:=(es.filter fun p=>!(p.2==0)).map (·.1)
theorem Ej {es:List (Int×Int)}:(List.range es.length).map (fun i=>es.getD i (0,0))=es:=by
 apply List.ext_getElem
 ·simp
 intro i h1 h2; simp [List.getD,h2]
theorem Pa {es:List (Int×Int)} {S:List Nat} (hnd:S.Nodup) (hlt:∀ i∈S,i < es.length) (hall:∀ j,j < es.length->j∈S):(vkS es S).Perm (dq es):=by
 have h1:S.Perm (List.range es.length):=(List.perm_ext_iff_of_nodup hnd List.nodup_range).2 fun i=>⟨fun h=>List.mem_range.2 (hlt i h),fun h=>hall i (List.mem_range.1 h)⟩
 have h2:vkS es (List.range es.length)=dq es:=by
  unfold vkS dq
  conv=>rhs; rw [<- Ej (es:=es)]
  rw [List.filter_map,List.map_map]
  rfl
 rw [<- h2]
 exact (h1.filter _).map _
theorem K0 {l m:List Int} (h:l.Perm m):srt l=srt m:=by
 have tr:∀ a b c:Int,decide (a<=b)=true->decide (b<=c)=true->decide (a<=c)=true:=fun a b c h1 h2=>by simp only [decide_eq_true_eq] at *; omega
 have to:∀ a b:Int,(decide (a<=b)||decide (b<=a))=true:=fun a b=>by simp only [Bool.or_eq_true,decide_eq_true_eq]; omega
 refine List.Perm.eq_of_pairwise (le:=fun a b=>decide (a<=b)=true) (fun a b _ _ h1 h2=>?_) (List.pairwise_mergeSort tr to l) (List.pairwise_mergeSort tr to m) (((List.mergeSort_perm l _).trans h).trans (List.mergeSort_perm m _).symm)
 simp only [decide_eq_true_eq] at h1 h2
 omega
def k9 (es:List (Int×Int)) (v:Int):Int:=((es.find? fun p=>p.1==v).map (·.2)).getD 0
/-- The coefficients of a map. -/
def Va (es:List (Int×Int)):List PCoef:=(srt (dq es)).map fun v=>⟨v,k9 es v⟩
theorem Qo {es:List (Int×Int)} {v:Int} (h:v∈srt (dq es)):∃ (j:Nat) (hj:j < es.length),es[j].1=v/\(∀ i (hi:i < es.length),i < j->es[i].1≠v)/\k9 es v=es[j].2:=by
 have h1:v∈dq es:=(List.mergeSort_perm _ _).mem_iff.1 h
 obtain ⟨p,hp,rfl⟩:=List.mem_map.1 h1
 have hp1:=(List.mem_filter.1 hp).1
 cases hf:es.find? (fun q=>q.1==p.1) with
 | none=>exact absurd hp1 (fun hm=>by have:=List.find?_eq_none.1 hf p hm; simp at this)
 | some q=>
  obtain ⟨hq,j,hj,he,hi⟩:=List.find?_eq_some_iff_getElem.1 hf
  refine ⟨j,hj,by rw [he]; simpa using hq,fun i hi' hij=>by simpa using hi i hij,?_⟩
  unfold k9
  rw [hf,<- he]; rfl
theorem L5 {es:List (Int×Int)}:(dq es).length<=es.length:=by unfold dq; rw [Zl]; exact List.length_filter_le _ _
theorem mGet {es:List (Int×Int)} {j:Nat} (hj:j < es.length):(mEs 0 es)[j]'(by rw [k7]; exact hj)=(.int .i64 es[j].1,.v (.int .i64 es[j].2),j):=by rw [oo,Nat.zero_add]
theorem X2 {es:List (Int×Int)}:∀ e∈mEs 0 es,∃ q,e.1=.int .i64 q:=fun e he=>by obtain ⟨j,hj,rfl⟩:=Bf he; exact ⟨_,rfl⟩
theorem Qn {es:List (Int×Int)} {v:Int} {j:Nat} (h:∀ i (hi:i < es.length),i < j->es[i].1≠v):∀ i (hi:i < (mEs 0 es).length),i < j->(mEs 0 es)[i].1≠.int .i64 v:=fun i hi hij e=>by
 rw [oo] at e
 simp only [Value.int.injEq,true_and] at e
 exact h i (by rw [k7] at hi; exact hi) hij e
theorem Ul {fp:List Nat} {η:au} {id v:Nat} {l:List Int} (hid:id∈fp) (hb:η id=some ⟨v,rF iA (srt l),1,Nat.beq l.length 0⟩):FzP fp η (.sl id v 0 l.length) (isA (srt l)):=by
 have:=FzP.rows (η:=η) zd (l:=srt l) (v:=v) hid (by rw [j4]; exact hb)
 rwa [j4] at this
theorem B6 {P:Program} {τ:Nat->AV} {η:au} {d:Option Tmp} {ty:TypeId} {pos:String} {af:Array Edge} {g:Option (Nat×Bool)} {t kt et id ver z clock:Nat} {x i:Operand} {v:Int} {z0:Value} {es:List (Int×Int)} (ht:P.underlying t=some (.map kt et)) (hk:P.underlying kt=some (.int .i64)) (hz:ax P et=some z0) (hm:aev τ x=.mp id ver) (hkey:aev τ i=.v (.int .i64 v)) (hb:η id=some (bn ver z clock (mEs 0 es))) (hv:v∈srt (dq es)) :
  LOp P ⟨d,.lookup t x i false,ty,pos,af,g⟩ τ η [id] [] (.v (.int .i64 (k9 es v))):=by
 obtain ⟨j,hj,h1,h2,h3⟩:=Qo hv
 refine Fv (j:=j) ht hk hz hm hkey hb (by rw [k7]; exact hj) X2 (by rw [mGet hj,h1]) (Qn h2) ?_
 rw [mGet hj,h3]
theorem Bt {l:List Int} {x:Int} (h:x∈Lib.compact l):x∈l:=by
 unfold Lib.compact Lib.compactUpTo at h
 obtain ⟨i,hi,rfl⟩:=List.mem_map.1 h
 have:=List.mem_range.1 (List.mem_filter.1 hi).1
 simp [this]
theorem Fe {l:List Int} (h:l.Pairwise (·<=·)):(Lib.compact l).Pairwise (· < ·):=by
 unfold Lib.compact Lib.compactUpTo
 rw [List.pairwise_map]
 refine (List.Pairwise.filter _ List.pairwise_lt_range).imp_of_mem ?_
 intro i j hi hj hij
 have hj1:=List.mem_range.1 (List.mem_filter.1 hj).1
 have hj2:=(List.mem_filter.1 hj).2
 have hi1:i < l.length:=by omega
 unfold Lib.keeps at hj2
 have hne:l.toArray[j]! ≠ l.toArray[j - 1]!:=by
  rcases of_decide_eq_true hj2 with h | h
  ·omega
  ·exact h
 have hp:=List.pairwise_iff_getElem.1 h
 have e1:l.toArray[i]! = l[i]:=by simp [hi1]
 have e2:l.toArray[j]! = l[j]:=by simp [hj1]
 have e3:l.toArray[j - 1]! = l[j - 1]'(by omega):=by simp [show j - 1 < l.length by omega]
 rw [e2,e3] at hne
 rw [e1,e2]
 have h1:=hp (j - 1) j (by omega) hj1 (by omega)
 have h2:l[i]<=l[j - 1]'(by omega):=by
  by_cases e:i=j - 1
  ·subst e; exact Int.le_refl _
  ·exact hp i (j - 1) hi1 (by omega) (by omega)
 omega
theorem Ql {l:List Int} {y:Int}:y∈Lib.compact l↔y∈l:=by
 refine ⟨Bt,fun hy=>?_⟩
 obtain ⟨j,hj,e,hmin⟩:∃ j,∃ hj:j < l.length,l[j]=y/\∀ i (hi:i < l.length),i < j->l[i]≠y:=by
  have:∃ j,∃ hj:j < l.length,l[j]=y:=List.getElem_of_mem hy
  have hdec:∀ n,(∃ hj:n < l.length,l[n]=y)\/¬ ∃ hj:n < l.length,l[n]=y:=fun n=>Classical.em _
  obtain ⟨j,hj⟩:=this
  induction j using Nat.strongRecOn with
  | _ j ih=>
   by_cases h:∃ i,i < j/\∃ hi:i < l.length,l[i]=y
   ·obtain ⟨i,h1,h2⟩:=h
    exact ih i h1 h2
   ·exact ⟨j,hj.1,hj.2,fun i hi hij e=>h ⟨i,hij,hi,e⟩⟩
 unfold Lib.compact Lib.compactUpTo
 refine List.mem_map.2 ⟨j,List.mem_filter.2 ⟨List.mem_range.2 hj,?_⟩,by simp [hj,e]⟩
 unfold Lib.keeps
 refine decide_eq_true ?_
 by_cases h0:j=0
 ·exact .inl h0
 right
 have:=hmin (j - 1) (by omega) (by omega)
 simp [hj,e,show j - 1 < l.length by omega]
 exact fun e=>this e.symm
theorem Tc {l:List Int}:(srt l).Pairwise (·<=·):=by
 have tr:∀ a b c:Int,decide (a<=b)=true->decide (b<=c)=true->decide (a<=c)=true:=fun a b c h1 h2=>by simp only [decide_eq_true_eq] at *; omega
 have to:∀ a b:Int,(decide (a<=b)||decide (b<=a))=true:=fun a b=>by simp only [Bool.or_eq_true,decide_eq_true_eq]; omega
 exact (List.pairwise_mergeSort tr to l).imp fun h=>by simpa using h
theorem Vx {l m:List Int} (hl:l.Pairwise (· < ·)) (hm:m.Pairwise (· < ·)) (h:∀ y,y∈l↔y∈m):l=m:=by
 have hp:l.Perm m:=(List.perm_ext_iff_of_nodup (hl.imp fun h=>by omega) (hm.imp fun h=>by omega)).2 h
 exact List.Perm.eq_of_pairwise (le:=fun a b=>a < b) (fun a b _ _ h1 h2=>by omega) hl hm hp
theorem Gu {l:List Int}:(Ee l).Pairwise (· < ·):=Fe Tc
theorem Ls {l:List Int} {y:Int}:y∈Ee l↔y∈l:=Ql.trans (List.mergeSort_perm _ _).mem_iff
theorem Gv {l:List Int} (h:l.Pairwise (· < ·)):Ee l=l:=Vx Gu h fun y=>Ls
theorem cof1 (c:Int):Va [(c,1)]=[⟨c,1⟩]:=by
 have e:srt [c]=[c]:=by simp [srt]
 unfold Va dq
 simp [e,k9]
theorem W6 (c:Int):srt [c]=[c]:=by simp [srt]
theorem cmp1 (c:Int):Lib.compact [c]++List.replicate ([c].length - (Lib.compact [c]).length) 0=[c]:=by
 have h:Lib.compact [c]=[c]:=by
  have:=Gv (l:=[c]) (by simp)
  unfold Ee at this
  rwa [W6] at this
 rw [h]; simp
theorem Yn (c:Int):(Lib.compact [c]).length=1:=by
 have:=Gv (l:=[c]) (by simp)
 unfold Ee at this
 rw [W6] at this
 rw [this]; rfl
theorem Yv:(Tryz.prog.info? 169).map (·.bytes)=some 16:=by kernel_rfl
theorem Xj:kz Tryz.prog 169=some [(0,1),(1,1)]:=by kernel_rfl
theorem row3:el Tryz.prog 3=some none:=by kernel_rfl
theorem Vh:co Tryz.prog 223=true:=by kernel_rfl
theorem Tk:el Tryz.prog 158=some (some 2):=by kernel_rfl
theorem Rq (es:List (Int×Int)) (v z:Nat) (hl:es.length<=1000):ra Tryz.prog 223 [.mp TOP v] [(TOP,bn v z es.length (mEs 0 es))] [(TOP,some (bn v z es.length (mEs 0 es)))] (csA (Va es)):=by
 refine ra.of_body Tryz.func223 rfl Tryz.ntmps223 (Nat.le_of_ble_eq_true rfl) ?_
 refine wS (wR ?_)
 refine oL (lA (a:=.v _) rfl) rfl rfl ?_
 refine oN (aN (wS (wR ?_)))
 refine oL (lA (a:=.v _) rfl) rfl rfl ?_
 refine oN (aN (wS (wS (wR ?_))))
 refine oL (lM (a:=.mp _ _) rfl) rfl rfl ?_
 refine ym (Fq 0 Tryz.underlying339 rfl rfl rfl) rfl rfl 1 rfl rfl ?_
 refine oN (aN (wB ?_))
 refine bq 3 1 rfl 2 rfl ?_
 refine wL (fun n s=>∃ S:List Nat,n=(es.length - S.length)/\s=⟨fL [(0,.mp TOP v),(3,.sl 1 (vkS es S).length 0 (vkS es S).length),(10,.it 0 0)],bl [(0,cd 0 0 (.mp TOP v) es.length S es.length),(1,⟨(vkS es S).length,rF iA (vkS es S),1,Nat.beq (vkS es S).length 0⟩),(TOP,bn v z es.length (mEs 0 es))],2⟩/\(S.Nodup/\∀ i∈S,i < es.length)) (n:=(es.length - ([]:List Nat).length)) (s1:=⟨fL [(0,.mp TOP v),(3,.sl 1 (vkS es ([]:List Nat)).length 0 (vkS es ([]:List Nat)).length),(10,.it 0 0)],bl [(0,cd 0 0 (.mp TOP v) es.length ([]:List Nat) es.length),(1,⟨(vkS es ([]:List Nat)).length,rF iA (vkS es ([]:List Nat)),1,Nat.beq (vkS es ([]:List Nat)).length 0⟩),(TOP,bn v z es.length (mEs 0 es))],2⟩) (cO (.cons rfl rfl (.cons (by rfl) rfl (.cons rfl rfl .nil))) (.cons rfl rfl (tu rfl) (.cons (by rfl) rfl (ag zd _ _) (.cons rfl rfl (mi _ _ _) .nil)))) ⟨([]:List Nat),rfl,rfl,List.nodup_nil,fun _ h=>by cases h⟩ ?_
 rintro n s ⟨S,rfl,rfl,hinv⟩
 obtain ⟨hnd,hlt⟩:=hinv
 have hSl:S.length<=es.length:=C8 hnd hlt
 have hvl:(vkS es S).length<=S.length:=S2
 refine wS (wR ?_)
 refine wv.next  rfl rfl rfl rfl rfl rfl (fun e he=>by obtain ⟨j,hj,rfl⟩:=Bf he; show 0+j < es.length; omega) (by cases es with | nil=>exact .inr (.inl rfl) | cons a r=>exact .inr (.inr ⟨_,List.mem_cons_self ..,by simp⟩)) (fun hdone=>?_) (fun e he hsn=>?_)
 ·skip
  have hall:∀ j,j < es.length->j∈S:=fun j hj=>by have:=hdone _ (Ua (i:=0) hj); simpa using this
  refine oL (LOp.extract rfl rfl) rfl rfl ?_
  refine oN (aN (wS ?_))
  refine AWP.condF rfl ?_
  refine AWP.exit (aE (aE (bE ?_)))
  refine aN (wS (wR ?_))
  refine oL (lM (a:=.sl _ _ _ _) rfl) rfl rfl ?_
  refine ym (gy [(TOP,1)] Jq (Ns (vkS es S) (vkS es S).length (by omega)) rfl rfl rfl rfl ⟨Az zd,trivial⟩ ⟨A6 zd,trivial⟩ ⟨vf zd _ _,trivial⟩ rfl rfl rfl rfl (yc zd rfl) rfl) rfl rfl 2 rfl rfl ?_
  refine oN (aN (wS (wR ?_)))
  refine oL (lA (a:=.v _) rfl) rfl rfl ?_
  refine oN (aN (wS (wS (wR ?_))))
  refine oL (lM (a:=.sl _ _ _ _) rfl) rfl rfl ?_
  refine oL (nk rfl Tryz.underlying51 rfl rfl rfl) rfl rfl ?_
  refine oL (lM (a:=.v _) rfl) rfl rfl ?_
  refine oN (aN (wB ?_))
  have hsrt:=K0 (Pa hnd hlt hall)
  have hlen2:(vkS es S).length=(srt (dq es)).length:=by rw [<- hsrt,j4]
  refine fg [1] 24 (isA (srt (vkS es S))) (Ul (Zj.2 rfl) rfl) rfl ?_
  refine bq 6 2 rfl 3 rfl ?_
  refine wL (fun n s=>∃ k2:Nat,n=((srt (dq es)).length - k2)/\s=⟨fL [(0,.mp TOP v),(6,.sl 2 k2 0 (((srt (dq es)).take k2).map fun v=>(⟨v,k9 es v⟩:PCoef)).length),(24,isA (srt (dq es))),(25,.v (.int .i64 (((srt (dq es)).length:Nat):Int))),(26,.v (.int .i64 ((k2:Nat):Int)))],bl [(2,⟨k2,rF cfA (((srt (dq es)).take k2).map fun v=>(⟨v,k9 es v⟩:PCoef)),2,Nat.beq (((srt (dq es)).take k2).map fun v=>(⟨v,k9 es v⟩:PCoef)).length 0⟩),(TOP,bn v z es.length (mEs 0 es))],3⟩/\(k2<=(srt (dq es)).length/\∀ j,j < k2->(fun _=>true) j=true)) (n:=((srt (dq es)).length - 0)) (s1:=⟨fL [(0,.mp TOP v),(6,.sl 2 0 0 (((srt (dq es)).take 0).map fun v=>(⟨v,k9 es v⟩:PCoef)).length),(24,isA (srt (dq es))),(25,.v (.int .i64 (((srt (dq es)).length:Nat):Int))),(26,.v (.int .i64 ((0:Nat):Int)))],bl [(2,⟨0,rF cfA (((srt (dq es)).take 0).map fun v=>(⟨v,k9 es v⟩:PCoef)),2,Nat.beq (((srt (dq es)).take 0).map fun v=>(⟨v,k9 es v⟩:PCoef)).length 0⟩),(TOP,bn v z es.length (mEs 0 es))],3⟩) (cO (.cons rfl rfl (.cons (by rfl) rfl (.cons (by (rw [<- hsrt]; rfl)) rfl (.cons (by exact g8 (by rw [hlen2])) rfl (.cons rfl rfl .nil))))) (.cons (by rfl) rfl (ag K7 _ _) (.cons rfl rfl (mi _ _ _) .nil))) ⟨0,rfl,rfl,⟨Nat.zero_le _,fun j h=>absurd h (Nat.not_lt_zero j)⟩⟩ ?_
  rintro n s ⟨k2,rfl,rfl,hinv⟩
  obtain ⟨hk,hj⟩:=hinv
  have hcl:((srt (dq es)).take k2).length<=k2:=by rw [List.length_take]; omega
  have hkl:(srt (dq es)).length<=1000:=by rw [j4]; exact Nat.le_trans L5 hl
  refine wS (wR ?_)
  refine oL (lP rfl (fun _ _=>nofun) (fun _=>rfl)) rfl rfl ?_
  refine oN (aN (wS ?_))
  refine wC rfl (fun hc27=>?_) (fun hc27=>?_)
  ·skip
   have hlt2:k2 < (srt (dq es)).length:=Int.ofNat_lt.1 (of_decide_eq_true hc27)
   have hkey:(srt (dq es))[k2]∈srt (dq es):=Ze hlt2
   have hstep:(((srt (dq es)).take (k2+1)).map fun v=>(⟨v,k9 es v⟩:PCoef))=(((srt (dq es)).take k2).map fun v=>(⟨v,k9 es v⟩:PCoef))++[⟨(srt (dq es))[k2],k9 es (srt (dq es))[k2]⟩]:=by rw [List.take_succ_eq_append_getElem hlt2,List.map_append]; rfl
   refine wK (aN (wS (wB (wS (wR ?_)))))
   refine oL (lI Tryz.underlying51 sz3 rfl rfl (by first | assumption | omega)) rfl rfl ?_
   refine oL (lE row3 rfl rfl) rfl rfl ?_
   refine oL (lA (a:=.v _) rfl) rfl rfl ?_
   refine oN (aN (wR ?_))
   refine oL (lM (a:=.sl _ _ _ _) rfl) rfl rfl ?_
   refine oL (lM (a:=.v _) rfl) rfl rfl ?_
   refine oL (lM (a:=.mp _ _) rfl) rfl rfl ?_
   refine oL (lM (a:=.v _) rfl) rfl rfl ?_
   refine oL (B6 Tryz.underlying339 Tryz.underlying3 zr2 rfl rfl rfl hkey) rfl rfl ?_
   refine oL (LOp.bd O8 Xj rfl rfl) rfl rfl ?_
   refine oW (qe Tryz.underlying156 S8 O8 rfl rfl rfl rfl) rfl rfl 4 rfl ?_
   refine ym (aj K7 (a:=⟨(srt (dq es))[k2],k9 es (srt (dq es))[k2]⟩) Tryz.underlying156 S8 O8 Yv rfl rfl rfl (az rfl rfl rfl rfl) rfl (by rw [Zl]; omega) (by rw [Zl]; omega) (by unfold TV; omega)) rfl rfl 4 rfl rfl ?_
   refine oL (lA (a:=.sl _ _ _ _) rfl) rfl rfl ?_
   refine oN (bN (aN (wR ?_)))
   refine oL (lJ rfl rfl (by omega) (by omega)) rfl rfl ?_
   refine oL (lM (a:=.v _) rfl) rfl rfl ?_
   refine oN (aN ?_)
   refine ⟨((srt (dq es)).length - (k2+1)),⟨fL [(0,.mp TOP v),(6,.sl 2 (k2+1) 0 (((srt (dq es)).take (k2+1)).map fun v=>(⟨v,k9 es v⟩:PCoef)).length),(24,isA (srt (dq es))),(25,.v (.int .i64 (((srt (dq es)).length:Nat):Int))),(26,.v (.int .i64 (((k2+1):Nat):Int)))],bl [(2,⟨(k2+1),rF cfA (((srt (dq es)).take (k2+1)).map fun v=>(⟨v,k9 es v⟩:PCoef)),2,Nat.beq (((srt (dq es)).take (k2+1)).map fun v=>(⟨v,k9 es v⟩:PCoef)).length 0⟩),(TOP,bn v z es.length (mEs 0 es))],3⟩,by omega,(cO (.cons rfl rfl (.cons (by (rw [hstep,Zi]; rfl)) rfl (.cons (by rfl) rfl (.cons (by rfl) rfl (.cons rfl rfl .nil))))) (.cons (by (rw [hstep,Zi]; rfl)) rfl (ag K7 _ _) (.cons rfl rfl (mi _ _ _) .nil))),(k2+1),rfl,rfl,?_⟩
   refine ⟨by omega,fun j h=>?_⟩
   rcases Nat.lt_succ_iff_lt_or_eq.1 h with h | rfl
   ·exact hj j h
   rfl
  skip
  have hge:¬ k2 < (srt (dq es)).length:=fun h=>of_decide_eq_false hc27 (Int.ofNat_lt.2 h)
  have hcs:(((srt (dq es)).take k2).map fun v=>(⟨v,k9 es v⟩:PCoef))=Va es:=by unfold Va; rw [List.take_of_length_le (by omega)]
  refine AWP.exit (aE (aE (bE ?_)))
  refine aN (wS (wR ?_))
  refine oL (lM (a:=.sl _ _ _ _) rfl) rfl rfl ?_
  refine oL (lA (a:=.sl _ _ _ _) rfl) rfl rfl ?_
  refine oN (aN ?_)
  refine wT (?_)
  refine ⟨.inr rfl,M7.of [2] (fw Tryz.results223 (.cons (V5.tmp rfl) .nil)) rfl ⟨.same rfl (by decide),trivial⟩ (.fz (by rw [<- hcs]; exact FzP.rows K7 (Zj.2 rfl) rfl))⟩
 skip
 obtain ⟨j,hj,rfl⟩:=Bf he
 rw [Nat.zero_add] at *
 have hjS:¬ j∈S:=by simpa using hsn
 have hSl2:S.length < es.length:=Li hnd hlt hj hjS
 refine oL (LOp.extract rfl rfl) rfl rfl ?_
 refine oN (aN (wS ?_))
 refine AWP.condT rfl ?_
 refine wK (aN (wB (wS (wR ?_))))
 refine oL (Fz rfl rfl rfl hj) rfl rfl ?_
 refine oL (LOp.extract rfl rfl) rfl rfl ?_
 refine oL (LOp.extract rfl rfl) rfl rfl ?_
 refine oL (lA (a:=.v _) rfl) rfl rfl ?_
 refine oL (lA (a:=.v _) rfl) rfl rfl ?_
 refine oN (aN (wS (wR ?_)))
 refine oL (lM (a:=.v _) rfl) rfl rfl ?_
 refine oL (lP rfl (fun _ _=>nofun) (fun _=>rfl)) rfl rfl ?_
 refine oN (aN ?_)
 refine wC rfl (fun hc17=>?_) (fun hc17=>?_)
 ·skip
  have hz:¬ es[j].2=0:=by simpa using hc17
  have hvs:=Wq (S:=S) hj hz
  refine wR ?_
  refine oL (lM (a:=.sl _ _ _ _) rfl) rfl rfl ?_
  refine oL (lM (a:=.v _) rfl) rfl rfl ?_
  refine oW (qe Tryz.underlying51 sz3 zr3 rfl rfl rfl rfl) rfl rfl 3 rfl ?_
  refine ym (aj zd (a:=es[j].1) Tryz.underlying51 sz3 zr3 by3 rfl rfl rfl (az rfl rfl rfl rfl) rfl (by omega) (by omega) (by unfold TV; omega)) rfl rfl 3 rfl rfl ?_
  refine oL (lA (a:=.sl _ _ _ _) rfl) rfl rfl ?_
  refine oN (bN (aN ?_))
  refine ⟨(es.length - (S++[j]).length),⟨fL [(0,.mp TOP v),(3,.sl 1 (vkS es (S++[j])).length 0 (vkS es (S++[j])).length),(10,.it 0 0)],bl [(0,cd 0 0 (.mp TOP v) es.length (S++[j]) es.length),(1,⟨(vkS es (S++[j])).length,rF iA (vkS es (S++[j])),1,Nat.beq (vkS es (S++[j])).length 0⟩),(TOP,bn v z es.length (mEs 0 es))],2⟩,(by rw [Zi]; simp only [List.length_singleton]; omega),(cO (.cons rfl rfl (.cons (by (rw [hvs,Zi]; rfl)) rfl (.cons rfl rfl .nil))) (.cons rfl rfl (tu rfl) (.cons (by (rw [hvs,Zi]; rfl)) rfl (ag zd _ _) (.cons rfl rfl (mi _ _ _) .nil)))),(S++[j]),rfl,rfl,?_⟩
  refine ⟨?_,fun i hi=>?_⟩
  ·rw [List.nodup_append]; exact ⟨hnd,by simp,fun a ha b hb=>by simp at hb; subst hb; exact fun e=>hjS (e ▸ ha)⟩
  rcases Zk.1 hi with h | h
  ·exact hlt i h
  simp at h; subst h; exact hj
 skip
 have hz:es[j].2=0:=by simpa using hc17
 have hvs:=Wr (S:=S) hj hz
 refine wK (bN (aN ?_))
 refine ⟨(es.length - (S++[j]).length),⟨fL [(0,.mp TOP v),(3,.sl 1 (vkS es (S++[j])).length 0 (vkS es (S++[j])).length),(10,.it 0 0)],bl [(0,cd 0 0 (.mp TOP v) es.length (S++[j]) es.length),(1,⟨(vkS es (S++[j])).length,rF iA (vkS es (S++[j])),1,Nat.beq (vkS es (S++[j])).length 0⟩),(TOP,bn v z es.length (mEs 0 es))],2⟩,(by rw [Zi]; simp only [List.length_singleton]; omega),(cO (.cons rfl rfl (.cons (by (rw [hvs]; rfl)) rfl (.cons rfl rfl .nil))) (.cons rfl rfl (tu rfl) (.cons (by (rw [hvs]; rfl)) rfl (ag zd _ _) (.cons rfl rfl (mi _ _ _) .nil)))),(S++[j]),rfl,rfl,?_⟩
 refine ⟨?_,fun i hi=>?_⟩
 ·rw [List.nodup_append]; exact ⟨hnd,by simp,fun a ha b hb=>by simp at hb; subst hb; exact fun e=>hjS (e ▸ ha)⟩
 rcases Zk.1 hi with h | h
 ·exact hlt i h
 simp at h; subst h; exact hj
theorem Q6 (c k:Int):PRet Tryz.prog 215 [.unk,.agg (t1A (⟨k,[⟨1,0,c,0⟩]⟩:GT1))] (fun q=>q=.agg (liA ⟨k,[⟨c,1⟩]⟩)):=by
 refine PRet.of_vc ao [43,46,51] [] Tryz.func215 rfl Tryz.ntmps215 rfl (by kernel_rfl) (OpG.nw (LOp.makeMap 2) rfl ?_)
 refine LenG.of (lf (ULp.step ?_))
 refine cT (IdxG.of (j:=0) (by simp) ?_)
 refine cF (cF ?_)
 refine OpG.lk (B5 Tryz.underlying339 Tryz.underlying3 zr2 rfl rfl rfl (fun e h=>absurd h (by simp))) (OpG.lk (lJ (m:=0) (n:=1) rfl rfl (by decide) (by decide)) ?_)
 refine OpG.wr (Fu Tryz.underlying339 Tryz.underlying3 rfl rfl rfl (fun e h=>absurd h (by simp))) rfl ⟨by omega,ULp.step ?_⟩
 refine cF (OpG.lk (Aj (gy [(TOP,2)] Vh (Rq [(c,1)] 0 0 (by simp)) rfl rfl rfl rfl ⟨Gy (l:=[(c,1)]),trivial⟩ ⟨Qc (l:=[(c,1)]),trivial⟩ ⟨De _ _ [(c,1)],trivial⟩ rfl rfl rfl rfl (Fa (l:=[(c,1)]) rfl) rfl) ⟨⟨Zj.2 rfl,rfl,rfl⟩,trivial⟩) ?_)
 refine ⟨by kernel_rfl,⟨.inr rfl,_,Kh.cell Tryz.results215 Tk rfl rfl rfl rfl rfl ⟨[],FzP.pure rfl⟩,?_⟩⟩
 rw [cof1]
theorem Pb (c k:Int):PRet Tryz.prog 212 [.agg (t1A (⟨k,[⟨1,0,c,0⟩]⟩:GT1))] (fun q=>q=.tree 1 ([c].map iA)):=by
 have hs:=Ns [c] 1 (by simp)
 rw [W6] at hs
 have hc:=Jg [c] 1 (by simp) (by simp)
 rw [cmp1,Yn] at hc
 refine PRet.of_vc ao [27,30,32] [2] Tryz.func212 rfl Tryz.ntmps212 rfl (by kernel_rfl) (RegG.via (fun _ h=>bq 3 1 rfl 2 rfl h) ?_)
 refine cr (LenG.of ?_)
 refine lf (ULp.step ?_)
 refine cT (IdxG.of (j:=0) (by simp) ?_)
 refine cF (OpG.mk _ _ _ 4 (aj nt (l:=[]) (a:=c) Tryz.underlying51 sz3 zr3 by3 rfl rfl rfl (az rfl rfl rfl rfl) rfl (by decide) (by decide) (by decide)) rfl rfl ?_)
 refine ⟨by omega,ULp.step ?_⟩
 refine cF (OpG.mk _ _ _ 4 (gy [(TOP,1)] Jq hs rfl rfl rfl rfl ⟨Az zd,trivial⟩ ⟨A6 zd,trivial⟩ ⟨vf zd _ _,trivial⟩ rfl rfl rfl rfl (yc zd rfl) rfl) rfl rfl ?_)
 refine OpG.mk _ _ _ 4 (gy [(TOP,1)] Ot hc rfl rfl rfl rfl ⟨Az zd,trivial⟩ ⟨⟨vf zd _ _,.inl rfl⟩,trivial⟩ ⟨vf zd _ _,trivial⟩ rfl rfl rfl rfl (yc zd rfl) rfl) rfl rfl ⟨.inr rfl,_,Kh.tmp Tryz.results212 ⟨[1],kq nt (l:=[c]) (Zj.2 rfl) rfl⟩,?_⟩
 rfl
theorem Q5 {fp:List Nat} {η:au} {id v:Nat} (hid:id∈fp) (hb:η id=some ⟨v,[.v (.slice none 0 0)],1,false⟩):FzP fp η (.sl id v 0 1) (.tree 1 ([([]:List GL1)].map llA)):=by
 refine FzP.sl (rows:=[llA []]) hid hb rfl rfl (by decide) (fun k h=>?_) (fun k h j h'=>?_)
 ·have hk:k=0:=by simp at h; omega
  subst hk; rfl
 have hk:k=0:=by simp at h; omega
 subst hk
 have hj:j=0:=by simp [llA] at h'; omega
 subst hj
 exact ⟨.v (.slice none 0 0),rfl,FzP.nil⟩
/-- The atom of a column and a value. -/
def atA (c:Int) (v:GVal):GAt1:=if v.kind_=1 then ⟨3,0,0,⟨-v.int_,[⟨1,0,c,0⟩]⟩,⟨0,0,false,⟨#[]⟩⟩⟩ else ⟨5,c,0,⟨0,[]⟩,⟨0,0,false,v.text_⟩⟩
def F8 (p:Int×GVal):GL1:=⟨atA p.1 p.2,false⟩
abbrev litT (c:Int) (s:ByteArray):GL1:=⟨⟨5,c,0,⟨0,[]⟩,⟨0,0,false,s⟩⟩,false⟩
abbrev litZ (c k:Int):GL1:=⟨⟨3,0,0,⟨k,[⟨1,0,c,0⟩]⟩,⟨0,0,false,⟨#[]⟩⟩⟩,false⟩
def iC (p:Int×GVal):List PCon:=if p.2.kind_=1 then [⟨⟨-p.2.int_,[⟨p.1,1⟩]⟩,true⟩] else []
def tC (p:Int×GVal):List PTest:=if p.2.kind_=1 then [] else [⟨p.1,0,false,p.2.text_⟩]
/-- The builder's block and the rows of its lists. -/
abbrev blB (n:Int) (N:List Int) (I:List PCon) (T:List PTest):Blk:=⟨0,[.v (.int .i64 n),.v (.slice none 0 0),.sl 1000001 N.length 0 N.length,.v (.slice none 0 0),.sl 1000002 I.length 0 I.length,.sl 1000003 T.length 0 T.length,.v (.slice none 0 0),.v (.slice none 0 0)],0,false⟩
abbrev blN (N:List Int):Blk:=⟨N.length,rF iA N,1,Nat.beq N.length 0⟩
abbrev blI (I:List PCon):Blk:=⟨I.length,rF cnA I,3,Nat.beq I.length 0⟩
theorem lenS {α:Type} {l:List α} {a:α}:l.length+1=(l++[a]).length:=by simp
abbrev blT (T:List PTest):Blk:=⟨T.length,rF teA T,4,Nat.beq T.length 0⟩
section
variable {n c:Int} {N:List Int} {I:List PCon} {T:List PTest} {i:PCon} {t:PTest}
theorem svN:some (⟨N.length+1,rF iA (N++[c]),1,Nat.beq (N++[c]).length 0⟩:Blk)=some (blN (N++[c])):=by rw [lenS (a:=c)]
theorem svI:some (⟨I.length+1,rF cnA (I++[i]),3,Nat.beq (I++[i]).length 0⟩:Blk)=some (blI (I++[i])):=by rw [lenS (a:=i)]
theorem svT:some (⟨T.length+1,rF teA (T++[t]),4,Nat.beq (T++[t]).length 0⟩:Blk)=some (blT (T++[t])):=by rw [lenS (a:=t)]
theorem svBT:some (⟨0,[.v (.int .i64 n),.v (.slice none 0 0),.sl 1000001 (N.length+1) 0 (N++[c]).length,.v (.slice none 0 0),.sl 1000002 I.length 0 I.length,.sl 1000003 (T.length+1) 0 (T++[t]).length,.v (.slice none 0 0),.v (.slice none 0 0)],0,false⟩:Blk)=some (blB n (N++[c]) I (T++[t])):=by rw [lenS (a:=c),lenS (a:=t)]
theorem svBZ:some (⟨0,[.v (.int .i64 n),.v (.slice none 0 0),.sl 1000001 (N.length+1) 0 (N++[c]).length,.v (.slice none 0 0),.sl 1000002 (I.length+1) 0 (I++[i]).length,.sl 1000003 T.length 0 T.length,.v (.slice none 0 0),.v (.slice none 0 0)],0,false⟩:Blk)=some (blB n (N++[c]) (I++[i]) T):=by rw [lenS (a:=c),lenS (a:=i)]
end
theorem Vi:co Tryz.prog 215=true:=by kernel_rfl
theorem Ys:(Tryz.prog.info? 261).map (·.bytes)=some 24:=by kernel_rfl
theorem Yh (l:List GF1) (hl:bw l (fun y=>FitF1 y)) (hat:∀ x∈l,AtOk x) (hl2:l.length<=1000):PRet Tryz.prog 151 [.agg (fmL l)] (fun q=>q=.tree 1 ([l.map ue].map llA)):=by
 refine PRet.of_vc ao [55,80] [31] Tryz.func151 rfl Tryz.ntmps151 rfl (by kernel_rfl) ?_
 refine ArgG.mk (Vb l hl hat) rfl ?_
 rintro _ rfl
 refine cF (cF ?_)
 refine cF (OpG.nw (u4 (qe Tryz.underlying259 Kv Kj rfl rfl rfl rfl) (fun η' h=>Q5 (Zj.2 rfl) h)) rfl ?_)
 refine LenG.of (LpG.on (fun k3:KLL=>(⟨fL [(6,.tree 1 (k3.L.map (fun l=>[.tree 10 (l.map l1A)]))),(57,.tree 11 (l.map f1A)),(58,.v (.int .i64 ((l.length:Nat):Int))),(59,.v (.int .i64 ((k3.k:Nat):Int)))],bl [],2⟩:St)) (fun k3=>(l.length - k3.k)) (fun k3=>(k3.k<=l.length/\(k3.L=[(l.take k3.k).map ue]))) (⟨0,[[]]⟩:KLL) (cO (.cons rfl rfl (.cons rfl rfl (.cons rfl rfl (.cons rfl rfl .nil)))) .nil) ⟨Nat.zero_le _,rfl⟩ ?_)
 rintro k3 hinv
 obtain ⟨hle_k3,hi_k3⟩:=hinv
 refine cL (fun hlt60=>?_) (fun hge60=>?_)
 ·have hk3:k3.L.length=1:=by rw [hi_k3]; rfl
  have hy:∀ y∈k3.L,y.length<=1000:=by rw [hi_k3]; intro y hy; rw [Zj.1 hy,Zl,List.length_take]; omega
  refine IdxG.of (by assumption) (ArgG.mk (Uz l[k3.k] (hl.2 _ (Ze _)) (hat _ (Ze _))) rfl ?_)
  rintro _ rfl
  refine LenG.of (LpG.via (fun _ h=>bq 9 1 rfl 4 rfl h) ?_)
  refine LpG.on (fun k5:KL (List GL1)=>(⟨fL [(9,.sl 3 k5.L.length 0 k5.L.length),(10,.tree 1 (([[ue l[k3.k]]]).map (fun l=>[.tree 10 (l.map l1A)]))),(57,.tree 11 (l.map f1A)),(58,.v (.int .i64 ((l.length:Nat):Int))),(59,.v (.int .i64 ((k3.k:Nat):Int))),(65,.tree 1 (k3.L.map (fun l=>[.tree 10 (l.map l1A)]))),(66,.v (.int .i64 ((k3.L.length:Nat):Int))),(67,.v (.int .i64 ((k5.k:Nat):Int)))],bl [(3,⟨k5.L.length,rF (fun l=>[.tree 10 (l.map l1A)]) k5.L,1,Nat.beq k5.L.length 0⟩)],4⟩:St)) (fun k5=>(k3.L.length - k5.k)) (fun k5=>(k5.k<=k3.L.length/\(k5.L=(k3.L.take k5.k).map (·++[ue l[k3.k]])/\k5.L.length=k5.k))) (⟨0,[]⟩:KL (List GL1)) (cO (.cons (by rfl) rfl (.cons rfl rfl (.cons rfl rfl (.cons rfl rfl (.cons rfl rfl (.cons rfl rfl (.cons rfl rfl (.cons rfl rfl .nil)))))))) (.cons (by rfl) rfl (ag pj _ _) .nil)) ⟨Nat.zero_le _,⟨rfl,rfl⟩⟩ ?_
  rintro k5 hinv
  obtain ⟨hle_k5,hi_k5⟩:=hinv
  refine cL (fun hlt68=>?_) (fun hge68=>?_)
  ·have hi52:=hi_k5.2
   refine IdxG.of (by assumption) (LenG.of ?_)
   refine lf (ULp.step ?_)
   refine cT (IdxG.of (j:=0) (by simp) ?_)
   refine OpG.nw (u4 (qe Tryz.underlying259 Kv Kj rfl rfl rfl rfl) (fun η' h=>jq (f:=llA) (l:=[k3.L[k5.k],[ue l[k3.k]]]) (Zj.2 rfl) h rfl rfl rfl rfl rfl (fun a _=>⟨rfl,rfl⟩))) rfl ?_
   refine ArgG.mk (Jc k3.L[k5.k] [ue l[k3.k]] (by simp) (by have:=hy _ (Ze hlt68); simp only [List.length_cons,List.length_nil]; omega)) rfl ?_
   rintro _ rfl
   refine OpG.mk _ _ _ 6 (aj pj (a:=(k3.L[k5.k]++[ue l[k3.k]])) Tryz.underlying259 Kv Kj Ys rfl rfl rfl (az rfl rfl rfl rfl) rfl (by omega) (by omega) (by unfold TV; omega)) rfl rfl ?_
   refine ⟨by omega,?_⟩
   refine ULp.step ?_
   refine cF ⟨by omega,⟨(⟨k5.k+1,k5.L++[(k3.L[k5.k]++[ue l[k3.k]])]⟩:KL (List GL1)),(by show k3.L.length - (k5.k+1) < k3.L.length - k5.k; omega),(cO (.cons (by (rw [Zi]; rfl)) rfl (.cons rfl rfl (.cons rfl rfl (.cons rfl rfl (.cons rfl rfl (.cons rfl rfl (.cons rfl rfl (.cons rfl rfl .nil)))))))) (.cons (by (rw [Zi]; rfl)) rfl (ag pj _ _) .nil)),?_⟩⟩
   refine ⟨by show k5.k+1<=_; omega,?_⟩
   exact ⟨by show k5.L++[_]=_; rw [List.take_succ_eq_append_getElem hlt68,List.map_append,<- hi_k5.1]; rfl,by show (_++[_]).length=_; rw [Zi,hi_k5.2]; rfl⟩
  refine RegG.via (fun _ h=>fg [3] 9 (.tree 1 (k5.L.map (fun l=>[.tree 10 (l.map l1A)]))) (FzP.rows pj (Zj.2 rfl) rfl) rfl h) ?_
  refine cr ?_
  refine ⟨by omega,?_⟩
  refine ⟨(⟨k3.k+1,k5.L⟩:KLL),(by show l.length - (k3.k+1) < l.length - k3.k; omega),(cO (.cons rfl rfl (.cons rfl rfl (.cons rfl rfl (.cons rfl rfl .nil)))) .nil),?_⟩
  refine ⟨by show k3.k+1<=_; omega,?_⟩
  have e:=hi_k5.1
  rw [List.take_of_length_le (by omega),hi_k3] at e
  show k5.L=_
  rw [e,List.take_succ_eq_append_getElem hlt60,List.map_append]; rfl
 refine rV Tryz.results151 rfl ?_
 rw [hi_k3,List.take_of_length_le (by omega)]
 rfl
theorem Vz (n:Int) (N:List Int) (I:List PCon) (T:List PTest) (hN:N.length<=1000) (hI:I.length<=1000) (hT:T.length<=1000) (c:Int) (s:ByteArray):Sw Tryz.prog 177 [.ptr 1000000 0 0,.agg (l1A (litT c s))] [(1000000,blB n N I T),(1000001,blN N),(1000002,blI I),(1000003,blT T)] [(1000000,some (blB n (N++[c]) I (T++[⟨c,0,false,s⟩]))),(1000001,some (blN (N++[c]))),(1000002,some (blI I)),(1000003,some (blT (T++[⟨c,0,false,s⟩])))] (fun q=>q=.tup []):=by
 refine Sw.of_vc ao [112,136] [] Tryz.func177 rfl Tryz.ntmps177 rfl (by kernel_rfl) (cF ?_)
 refine cF (cF ?_)
 refine cF (OpG.mk _ _ _ 2 (aj nt (l:=N) (a:=c) Tryz.underlying51 sz3 zr3 by3 rfl rfl rfl (az rfl rfl rfl rfl) rfl (by omega) (by omega) (by unfold TV; omega)) rfl rfl ?_)
 refine ⟨by kernel_rfl,cT ?_⟩
 refine OpG.mk _ _ _ 4 (aj l8 (l:=T) (a:=(⟨c,0,false,s⟩:PTest)) Tryz.underlying97 W4 Wo Yx rfl rfl rfl (az rfl rfl rfl rfl) rfl (by omega) (by omega) (by unfold TV; omega)) rfl rfl ⟨by kernel_rfl,⟨.inl rfl,_,M7.of [] (fw Tryz.results177 .nil) rfl ⟨.same svBT (by decide),.same svN (by decide),.same rfl (by decide),.same svT (by decide),trivial⟩ .same,?_⟩⟩
 rfl
theorem Vy (n:Int) (N:List Int) (I:List PCon) (T:List PTest) (hN:N.length<=1000) (hI:I.length<=1000) (hT:T.length<=1000) (c k:Int):Sw Tryz.prog 177 [.ptr 1000000 0 0,.agg (l1A (litZ c k))] [(1000000,blB n N I T),(1000001,blN N),(1000002,blI I),(1000003,blT T)] [(1000000,some (blB n (N++[c]) (I++[⟨⟨k,[⟨c,1⟩]⟩,true⟩]) T)),(1000001,some (blN (N++[c]))),(1000002,some (blI (I++[⟨⟨k,[⟨c,1⟩]⟩,true⟩]))),(1000003,some (blT T))] (fun q=>q=.tup []):=by
 refine Sw.of_vc ao [39,47,75] [] Tryz.func177 rfl Tryz.ntmps177 rfl (by kernel_rfl) (cF ?_)
 refine cF (cT ?_)
 refine cT (ArgG.mk (Pb c k) rfl ?_)
 rintro _ rfl
 refine OpG.mk _ _ _ 1 (aj nt (l:=N) (a:=c) Tryz.underlying51 sz3 zr3 by3 rfl rfl rfl (uz rfl) rfl (by omega) (by omega) (by unfold TV; omega)) rfl rfl ⟨by kernel_rfl,?_⟩
 obtain ⟨_,rfl,hcl1⟩:=Q6 c k
 refine OpG.lk (qc Vi (.cons .unk (.cons (.pure rfl) .nil)) hcl1) (cT ?_)
 refine OpG.mk _ _ _ 3 (aj l9 (l:=I) (a:=(⟨⟨k,[⟨c,1⟩]⟩,true⟩:PCon)) Tryz.underlying96 W3 Wn Yw rfl rfl rfl (az rfl rfl rfl rfl) rfl (by omega) (by omega) (by unfold TV; omega)) rfl rfl ⟨by kernel_rfl,⟨.inr rfl,_,M7.of [] (fw Tryz.results177 .nil) rfl ⟨.same svBZ (by decide),.same svN (by decide),.same svI (by decide),.same rfl (by decide),trivial⟩ .same,?_⟩⟩
 rfl
theorem V2 (n:Int) (N:List Int) (I:List PCon) (T:List PTest) (hN:N.length<=1000) (hI:I.length<=1000) (hT:T.length<=1000) (p:Int×GVal):ra Tryz.prog 177 [.ptr 1000000 0 0,.agg (l1A (F8 p))] [(1000000,blB n N I T),(1000001,blN N),(1000002,blI I),(1000003,blT T)] [(1000000,some (blB n (N++[p.1]) (I++iC p) (T++tC p))),(1000001,some (blN (N++[p.1]))),(1000002,some (blI (I++iC p))),(1000003,some (blT (T++tC p)))] (.tup []):=by
 by_cases h:p.2.kind_=1
 ·have e1:iC p=[⟨⟨-p.2.int_,[⟨p.1,1⟩]⟩,true⟩]:=if_pos h
  have e2:tC p=[]:=if_pos h
  have e3:F8 p=litZ p.1 (-p.2.int_):=by unfold F8 atA; rw [if_pos h]
  obtain ⟨_,rfl,hc⟩:=Vy n N I T hN hI hT p.1 (-p.2.int_)
  rw [e1,e2,e3,List.append_nil]
  exact hc
 have e1:iC p=[]:=if_neg h
 have e2:tC p=[⟨p.1,0,false,p.2.text_⟩]:=if_neg h
 have e3:F8 p=litT p.1 p.2.text_:=by unfold F8 atA; rw [if_neg h]
 obtain ⟨_,rfl,hc⟩:=Vz n N I T hN hI hT p.1 p.2.text_
 rw [e1,e2,e3,List.append_nil]
 exact hc
theorem V1 {x:GL1} {p:Int×GVal} (hx:x=F8 p) (n:Int) (N:List Int) (I:List PCon) (T:List PTest) (hN:N.length<=1000) (hI:I.length<=1000) (hT:T.length<=1000):ra Tryz.prog 177 [.ptr 1000000 0 0,.agg (l1A x)] [(1000000,blB n N I T),(1000001,blN N),(1000002,blI I),(1000003,blT T)] [(1000000,some (blB n (N++[p.1]) (I++iC p) (T++tC p))),(1000001,some (blN (N++[p.1]))),(1000002,some (blI (I++iC p))),(1000003,some (blT (T++tC p)))] (.tup []):=by
 subst hx; exact V2 n N I T hN hI hT p
theorem Ps:ep Tryz.prog 170 [.v (.slice none 0 0)] (.v (.tuple #[])):=by
 intro T w vals ⟨hvl,hv⟩ hT
 have h0:=(hv 0 (by simp) (by simp at hvl; omega)).v_inv
 have hvals:vals=#[.slice none 0 0]:=by
  apply Array.ext
  ·simpa using hvl.symm
  ·intro i hi hi'
   have:i=0:=by simp at hi'; omega
   subst this
   exact h0
 rw [hvals]
 refine (AnyM.slices_Sort_int_none Tryz.laysSlM5_f170 none 0 w).mono ?_
 rintro e w' ⟨rfl,rfl⟩
 exact ⟨_,T,rfl,.v _,fun _ h=>h,fun _ h=>.inl h,hT,Below.refl _ _⟩
theorem K1 (l:List Int) (v:Nat) (hpos:0 < l.length) (hl:l.length<=100000):ra Tryz.prog 178 [.sl TOP v 0 l.length] [(TOP,⟨v,rF iA l,1,Nat.beq l.length 0⟩)] [(TOP,none)] (isA (Ee l)):=by
 obtain ⟨_,rfl,h⟩:=Gw l v hpos hl
 have e:Nat.beq l.length 0=false:=jo (by omega)
 rw [e,<- Ey]
 exact h
/-- The clause of equalities. -/
def jt (P:List (Int×GVal)):PCl:=⟨[],Ee (P.map (·.1)),[],(P.map iC).flatten,(P.map tC).flatten,[],[]⟩
structure KBd where
 k:Nat
 N:List Int
 I:List PCon
 T:List PTest
structure BI (P:List (Int×GVal)) (s:KBd):Prop where
 n:s.N=(P.take s.k).map (·.1)
 i:s.I=((P.take s.k).map iC).flatten
 t:s.T=((P.take s.k).map tC).flatten
 l:s.N.length=s.k/\s.I.length<=s.k/\s.T.length<=s.k
theorem iC1 (p:Int×GVal):(iC p).length<=1:=by unfold iC; split <;> simp
theorem tC1 (p:Int×GVal):(tC p).length<=1:=by unfold tC; split <;> simp
theorem R8 {P:List (Int×GVal)} {s:KBd} (h:BI P s) (hk:s.k < P.length):BI P ⟨s.k+1,s.N++[P[s.k].1],s.I++iC P[s.k],s.T++tC P[s.k]⟩:=by
 have l1:=h.l
 have a1:=iC1 P[s.k]
 have a2:=tC1 P[s.k]
 refine ⟨?_,?_,?_,?_⟩
 ·show s.N++_=_; rw [List.take_succ_eq_append_getElem hk,List.map_append,<- h.n]; rfl
 ·show s.I++_=_; rw [List.take_succ_eq_append_getElem hk,List.map_append,List.flatten_append,<- h.i]; simp
 ·show s.T++_=_; rw [List.take_succ_eq_append_getElem hk,List.map_append,List.flatten_append,<- h.t]; simp
 show (s.N++[P[s.k].1]).length=s.k+1/\(s.I++iC P[s.k]).length<=s.k+1/\(s.T++tC P[s.k]).length<=s.k+1
 simp only [Zi,List.length_cons,List.length_nil]
 omega
abbrev bo1 (n:Int) (N:List Int) (I:List PCon) (T:List PTest):Blk:=⟨0,[.v (.int .i64 n),.v (.slice none 0 0),.sl 2 N.length 0 N.length,.v (.slice none 0 0),.sl 3 I.length 0 I.length,.sl 4 T.length 0 T.length,.v (.slice none 0 0),.v (.slice none 0 0)],0,false⟩
theorem xd:RowF clA 7:=⟨fun _=>rfl,fun _=>rfl,fun _ _=>rfl,fun _ _=>rfl,fun _ _=>rfl,fun _=>rfl⟩
theorem del4 {n:Int} {N:List Int} {I:List PCon} {T:List PTest}:jn [(1000000,1),(1000001,2),(1000002,3),(1000003,4)] [(1000000,some (blB n N I T)),(1000001,some (blN N)),(1000002,some (blI I)),(1000003,some (blT T))]=[(1,some (bo1 n N I T)),(2,some (blN N)),(3,some (blI I)),(4,some (blT T))]:=by
 simp only [jn,List.map_cons,List.map_nil,Option.map_some,v6 nt,v6 l9,v6 l8]
 rfl
theorem Vl:co Tryz.prog 177=true:=by kernel_rfl
theorem Vk:co Tryz.prog 178=true:=by kernel_rfl
theorem Tl:el Tryz.prog 100=some (some 7):=by kernel_rfl
theorem Gx :PRet Tryz.prog 178 [.v (.slice none 0 0)] (fun q=>q=.v (.slice none 0 0)):=by
 refine PRet.of_vc ao [] [] Tryz.func178 rfl Tryz.ntmps178 rfl (by kernel_rfl) (ArgG.mk (PRet.of_call Ps) rfl ?_)
 rintro _ rfl
 refine ArgG.mk (PRet.of_call Ff) rfl ?_
 rintro _ rfl
 exact rV Tryz.results178 rfl rfl
theorem wq (P:List (Int×GVal)) (n:Int) (hP:0 < P.length) (hP2:P.length<=1000):PRet Tryz.prog 152 [.tree 10 (((P.map F8)).map l1A),.v (.int .i64 n)] (fun q=>q=.agg (clA (jt P))):=by
 have hml:(P.map F8).length=P.length:=Zl _
 refine PRet.of_vc ao [12,19,34] [8] Tryz.func152 rfl Tryz.ntmps152 rfl (by kernel_rfl) (OpG.lk (M9 Tryz.underlying261 rfl rfl) ?_)
 refine LpG.via (fun _ h=>g7 1 2 1 rfl rfl rfl rfl rfl 3 rfl h) (LpG.via (fun _ h=>g7 1 4 3 rfl rfl rfl rfl rfl 4 rfl h) ?_)
 refine LpG.via (fun _ h=>g7 1 5 4 rfl rfl rfl rfl rfl 5 rfl h) (LpG.on (fun k0:KBd=>(⟨fL [(4,.ptr 0 0 0),(5,.ptr 1 0 0),(11,.tree 10 (((P.map F8)).map l1A)),(12,.v (.int .i64 ((P.length:Nat):Int))),(13,.v (.int .i64 ((k0.k:Nat):Int)))],bl [(0,⟨0,[.v (.slice none 0 0),.v (.slice none 0 0),.v (.slice none 0 0),.v (.slice none 0 0),.v (.slice none 0 0),.v (.slice none 0 0),.v (.slice none 0 0)],0,false⟩),(1,bo1 n k0.N k0.I k0.T),(2,⟨k0.N.length,rF iA k0.N,1,Nat.beq k0.N.length 0⟩),(3,⟨k0.I.length,rF cnA k0.I,3,Nat.beq k0.I.length 0⟩),(4,⟨k0.T.length,rF teA k0.T,4,Nat.beq k0.T.length 0⟩)],5⟩:St)) (fun k0=>(P.length - k0.k)) (fun k0=>(k0.k<=P.length/\BI P k0)) (⟨0,[],[],[]⟩:KBd) (cO (.cons rfl rfl (.cons rfl rfl (.cons rfl rfl (.cons rfl rfl (.cons rfl rfl .nil))))) (.cons rfl rfl rfl (.cons (by rfl) rfl rfl (.cons (by rfl) rfl (ag nt _ _) (.cons (by rfl) rfl (ag l9 _ _) (.cons (by rfl) rfl (ag l8 _ _) .nil)))))) ⟨Nat.zero_le _,⟨rfl,rfl,rfl,by simp⟩⟩ ?_)
 rintro k0 hinv
 obtain ⟨hle_k0,hi_k0⟩:=hinv
 refine cL (fun hlt14=>?_) (fun hge14=>?_)
 ·obtain ⟨a2,he_a2,hae⟩:∃ a2,l1A ((P.map F8)[k0.k]'(by rw [Zl]; exact hlt14))=l1A a2/\a2=F8 P[k0.k]:=⟨_,rfl,List.getElem_map _⟩
  have hll:=hi_k0.l
  refine aw (j:=k0.k) (by omega) he_a2 (OpG.mk _ _ _ 6 (gy [(1000000,1),(1000001,2),(1000002,3),(1000003,4)] Vl (V1 hae n k0.N k0.I k0.T (by omega) (by omega) (by omega)) rfl rfl rfl rfl ⟨rfl,sX nt,sX l9,sX l8,trivial⟩ ⟨⟨rfl,.inl rfl⟩,A6 nt,A6 l9,A6 l8,trivial⟩ ⟨rfl,vf nt _ _,vf l9 _ _,vf l8 _ _,trivial⟩ rfl rfl rfl rfl del4 rfl) rfl rfl ?_)
  refine ⟨by omega,⟨(⟨k0.k+1,k0.N++[P[k0.k].1],k0.I++iC P[k0.k],k0.T++tC P[k0.k]⟩:KBd),(by show P.length - (k0.k+1) < P.length - k0.k; omega),(cO (.cons rfl rfl (.cons rfl rfl (.cons rfl rfl (.cons rfl rfl (.cons rfl rfl .nil))))) (.cons rfl rfl rfl (.cons (by rfl) rfl rfl (.cons (by rfl) rfl (ag nt _ _) (.cons (by rfl) rfl (ag l9 _ _) (.cons (by rfl) rfl (ag l8 _ _) .nil)))))),?_⟩⟩
  exact ⟨by show k0.k+1<=_; omega,R8 hi_k0 hlt14⟩
 have hll:=hi_k0.l
 have hkk:k0.k=P.length:=by omega
 refine ArgG.mk (Gx) rfl ?_
 rintro _ rfl
 refine OpG.mk _ _ _ 5 (gy [(TOP,2)] Vk (K1 k0.N k0.N.length (by omega) (by omega)) rfl rfl rfl rfl ⟨sX nt,trivial⟩ ⟨A6 nt,trivial⟩ ⟨trivial,trivial⟩ rfl rfl rfl rfl rfl rfl) rfl rfl ⟨by kernel_rfl,RegG.via (fun _ h=>gg [3,4] 1 0 0 [.v (.int .i64 n),.v (.slice none 0 0),.tree 1 ((Ee k0.N).map iA),.v (.slice none 0 0),.sl 3 k0.I.length 0 k0.I.length,.sl 4 k0.T.length 0 k0.T.length,.v (.slice none 0 0),.v (.slice none 0 0)] [.v (.int .i64 n),.tree 1 [],.tree 1 ((Ee k0.N).map iA),.tree 4 [],.tree 3 (k0.I.map cnA),.tree 4 (k0.T.map teA),.tree 2 [],.tree 2 []] rfl rfl (.keep (.fz FzP.nil (.keep (.fz FzP.nil (.fz (FzP.rows l9 (by simp) rfl) (.fz (FzP.rows l8 (by simp) rfl) (.fz FzP.nil (.fz FzP.nil (.same _))))))))) rfl h) ?_⟩
 refine cr ⟨.inr rfl,_,Kh.cell Tryz.results152 Tl rfl rfl rfl rfl rfl ⟨[],FzP.pure rfl⟩,?_⟩
 have e1:=hi_k0.n
 have e2:=hi_k0.i
 have e3:=hi_k0.t
 rw [hkk,List.take_length] at e1 e2 e3
 rw [e1,e2,e3]; rfl
def fA2 (p:Int×GVal):GF1:=⟨2,atA p.1 p.2⟩
/-- The formula of equalities. -/
def fmP:List (Int×GVal)->List AV
 | [p]=>f1A (fA2 p)
 | P=>fmL (P.map fA2)
theorem Fk (p:Int×GVal):AtOk (fA2 p):=⟨rfl,by
 show (atA p.1 p.2).kind_=3\/(atA p.1 p.2).kind_=5
 unfold atA; split
 ·exact .inl rfl
 exact .inr rfl⟩
theorem ul (p:Int×GVal):FitF1 (fA2 p):=⟨⟨⟨by
 show (atA p.1 p.2).term_.parts_.length<=_
 unfold atA; split
 ·exact (by decide:1<=140737488355328)
 exact (by decide:0<=140737488355328),fun _ _=>⟨⟩⟩⟩⟩
theorem Iu {P:List (Int×GVal)} (h:¬ P.length=1):fmP P=fmL (P.map fA2):=by
 match P,h with
 | [],_=>rfl
 | [_],h=>exact absurd rfl h
 | _ :: _ :: _,_=>rfl
theorem Mi (P:List (Int×GVal)):ay (fmP P)=true:=by
 by_cases h:P.length=1
 ·obtain ⟨p,rfl⟩:=List.length_eq_one_iff.1 h; rfl
 rw [Iu h]; rfl
theorem Yi (P:List (Int×GVal)) (hP:P.length<=1000):PRet Tryz.prog 151 [.agg (fmL (P.map fA2))] (fun q=>q=.tree 1 ([P.map F8].map llA)):=by
 have:=Yh (P.map fA2) ⟨by rw [Zl]; omega,fun x hx=>by obtain ⟨p,hp,rfl⟩:=List.mem_map.1 hx; exact ul p⟩ (fun x hx=>by obtain ⟨p,_,rfl⟩:=List.mem_map.1 hx; exact Fk p) (by rw [Zl]; exact hP)
 rwa [List.map_map] at this
theorem rd_1 {cs:List Int} {vals:List GVal} {s:KL GF1} (h:s.k < cs.length) (h2:s.k < vals.length) (hi:s.L=((cs.zip vals).take s.k).map fA2) (hk:vals[s.k].kind_=1):s.L++[⟨2,⟨3,0,0,⟨-vals[s.k].int_,[⟨1,0,cs[s.k],0⟩]⟩,⟨0,0,false,⟨#[]⟩⟩⟩⟩]=((cs.zip vals).take (s.k+1)).map fA2:=by
 have hz:s.k < (cs.zip vals).length:=by rw [List.length_zip]; omega
 rw [List.take_succ_eq_append_getElem hz,List.map_append,<- hi,List.map_singleton,List.getElem_zip]
 unfold fA2 atA
 simp only [hk,if_true]
theorem rd_0 {cs:List Int} {vals:List GVal} {s:KL GF1} (h:s.k < cs.length) (h2:s.k < vals.length) (hi:s.L=((cs.zip vals).take s.k).map fA2) (hk:¬ vals[s.k].kind_=1):s.L++[⟨2,⟨5,cs[s.k],0,⟨0,[]⟩,⟨0,0,false,vals[s.k].text_⟩⟩⟩]=((cs.zip vals).take (s.k+1)).map fA2:=by
 have hz:s.k < (cs.zip vals).length:=by rw [List.length_zip]; omega
 rw [List.take_succ_eq_append_getElem hz,List.map_append,<- hi,List.map_singleton,List.getElem_zip]
 unfold fA2 atA
 simp only [if_neg hk]
theorem Vg:(Tryz.prog.info? 100).map (·.bytes)=some 168:=by kernel_rfl
theorem Nw:el Tryz.prog 136=some (some 9):=by kernel_rfl
theorem Xc:el Tryz.prog 65=some (some 5):=by kernel_rfl
theorem Ta:aa Tryz.prog 100=some 7:=by kernel_rfl
theorem S0:ax Tryz.prog 100=some (.agg #[.slice none 0 0,.slice none 0 0,.slice none 0 0,.slice none 0 0,.slice none 0 0,.slice none 0 0,.slice none 0 0]):=by kernel_rfl
theorem Jj (vs:List PVar) (hvs:bw vs (fun y=>True)) (P:List (Int×GVal)) (hP0:0 < P.length) (hP:P.length<=1000):PRet Tryz.prog 104 [.agg (fmL (P.map fA2)),.tree 5 (vs.map vA)] (fun q=>q=.tup [.tree 7 ([jt P].map clA),.v (.int .i64 0)]):=by
 refine PRet.of_vc ao [28] [5] Tryz.func104 rfl Tryz.ntmps104 rfl (by kernel_rfl) (ArgG.mk (W8 vs hvs (P.map fA2) ⟨by rw [Zl]; omega,fun x hx=>by obtain ⟨p,hp,rfl⟩:=List.mem_map.1 hx; exact ul p⟩ (fun x hx=>by obtain ⟨p,_,rfl⟩:=List.mem_map.1 hx; exact Fk p) (by rw [Zl]; exact hP)) rfl ?_)
 rintro _ rfl
 refine ArgG.mk (Vb (P.map fA2) ⟨by rw [Zl]; omega,fun x hx=>by obtain ⟨p,hp,rfl⟩:=List.mem_map.1 hx; exact ul p⟩ (fun x hx=>by obtain ⟨p,_,rfl⟩:=List.mem_map.1 hx; exact Fk p)) rfl ?_
 rintro _ rfl
 refine cF (RegG.via (fun _ h=>bq 6 7 rfl 2 rfl h) ?_)
 refine cr (ArgG.mk (Yi P hP) rfl ?_)
 rintro _ rfl
 refine LenG.of (lf (ULp.step ?_))
 refine cT (IdxG.of (j:=0) (by simp) ?_)
 refine LenG.of (ArgG.mk (wq P ((vs.length:Nat):Int) hP0 hP) rfl ?_)
 rintro _ rfl
 refine OpG.mk _ _ _ 3 (aj xd (l:=[]) (a:=jt P) Tryz.underlying61 Ta S0 Vg rfl rfl rfl (az rfl rfl rfl rfl) rfl (by decide) (by decide) (by decide)) rfl rfl ⟨by omega,ULp.step ?_⟩
 refine cF ⟨.inr rfl,_,ab Tryz.results104 (O3.tmp ⟨[1],kq xd (l:=[jt P]) (Zj.2 rfl) rfl⟩) (O3.tmp ⟨[],FzP.pure rfl⟩),?_⟩
 rfl
theorem Jk (vs:List PVar) (hvs:bw vs (fun y=>True)) (p:Int×GVal) (P:List (Int×GVal)) (hPp:P=[p]) (hP0:0 < P.length) (hP:P.length<=1000):PRet Tryz.prog 104 [.agg (f1A (fA2 p)),.tree 5 (vs.map vA)] (fun q=>q=.tup [.tree 7 ([jt P].map clA),.v (.int .i64 0)]):=by
 subst hPp
 have hpf:=ul p
 refine PRet.of_vc ao [28] [5] Tryz.func104 rfl Tryz.ntmps104 rfl (by kernel_rfl) (ArgG.mk (Te (fA2 p) hpf vs hvs (Fk p)) rfl ?_)
 rintro _ rfl
 refine ArgG.mk (Rr (fA2 p) hpf (Fk p)) rfl ?_
 rintro _ rfl
 refine cF (RegG.via (fun _ h=>bq 6 7 rfl 2 rfl h) ?_)
 refine cr (ArgG.mk (Uz (fA2 p) hpf (Fk p)) rfl ?_)
 rintro _ rfl
 refine LenG.of (lf (ULp.step ?_))
 refine cT (IdxG.of (j:=0) (by assumption) ?_)
 refine LenG.of (ArgG.mk (wq [p] ((vs.length:Nat):Int) hP0 hP) rfl ?_)
 rintro _ rfl
 refine OpG.mk _ _ _ 3 (aj xd (l:=[]) (a:=jt [p]) Tryz.underlying61 Ta S0 Vg rfl rfl rfl (az rfl rfl rfl rfl) rfl (by decide) (by decide) (by decide)) rfl rfl ⟨by omega,ULp.step ?_⟩
 refine cF ⟨.inr rfl,_,ab Tryz.results104 (O3.tmp ⟨[1],kq xd (l:=[jt [p]]) (Zj.2 rfl) rfl⟩) (O3.tmp ⟨[],FzP.pure rfl⟩),?_⟩
 rfl
theorem Ae (P:List (Int×GVal)) (hP0:0 < P.length) (hP:P.length<=1000) (vs:List PVar) (hvs:bw vs (fun y=>True)):PRet Tryz.prog 104 [.agg (fmP P),.tree 5 (vs.map vA)] (fun q=>q=.tup [.tree 7 ([jt P].map clA),.v (.int .i64 0)]):=by
 by_cases h:P.length=1
 ·obtain ⟨p,rfl⟩:=List.length_eq_one_iff.1 h
  exact Jk vs hvs p [p] rfl hP0 hP
 rw [Iu h]; exact Jj vs hvs P hP0 hP
theorem of_n (tb:Int) (nc:Int) (vs:List PVar) (hvs:bw vs (fun y=>True)) (P:List (Int×GVal)) (hPn:¬ P.length=1) (hP0:0 < P.length) (hP:P.length<=1000) (hv1:vs.length<=1000):PRet Tryz.prog 57 [.v (.int .i64 tb),.v (.int .i64 nc),.tree 5 (vs.map vA),.agg (fmL (P.map fA2))] (fun q=>q=.tup [.agg (prA ⟨tb,nc,vs,[jt P]⟩),.v (.int .i64 0)]):=by
 have hcl:=Ae P hP0 hP vs hvs
 rw [Iu hPn] at hcl
 refine PRet.of_vc ao [] [] Tryz.func57 rfl Tryz.ntmps57 rfl (by kernel_rfl) (ArgG.mk (hcl) rfl ?_)
 rintro _ rfl
 refine cF (ArgG.mk (PRet.of_call (CloneL.tree cl_V (fun _=>rfl) vs (by omega))) rfl ?_)
 rintro _ rfl
 refine ⟨.inr rfl,_,ab Tryz.results57 (O3.cellN Tryz.f57 Tj rfl rfl rfl rfl rfl ⟨[],FzP.pure rfl⟩) (O3.tmp ⟨[],FzP.pure rfl⟩),?_⟩
 rfl
theorem of_1 (tb:Int) (nc:Int) (vs:List PVar) (hvs:bw vs (fun y=>True)) (p:Int×GVal) (P:List (Int×GVal)) (hPp:P=[p]) (hP0:0 < P.length) (hP:P.length<=1000) (hv1:vs.length<=1000):PRet Tryz.prog 57 [.v (.int .i64 tb),.v (.int .i64 nc),.tree 5 (vs.map vA),.agg (f1A (fA2 p))] (fun q=>q=.tup [.agg (prA ⟨tb,nc,vs,[jt P]⟩),.v (.int .i64 0)]):=by
 subst hPp
 have hcl:=Ae [p] hP0 hP vs hvs
 refine PRet.of_vc ao [] [] Tryz.func57 rfl Tryz.ntmps57 rfl (by kernel_rfl) (ArgG.mk (hcl) rfl ?_)
 rintro _ rfl
 refine cF (ArgG.mk (PRet.of_call (CloneL.tree cl_V (fun _=>rfl) vs (by omega))) rfl ?_)
 rintro _ rfl
 refine ⟨.inr rfl,_,ab Tryz.results57 (O3.cellN Tryz.f57 Tj rfl rfl rfl rfl rfl ⟨[],FzP.pure rfl⟩) (O3.tmp ⟨[],FzP.pure rfl⟩),?_⟩
 rfl
theorem Xn (tb:Int) (nc:Int) (vs:List PVar) (hvs:bw vs (fun y=>True)) (P:List (Int×GVal)) (hP0:0 < P.length) (hP:P.length<=1000) (hv1:vs.length<=1000):PRet Tryz.prog 57 [.v (.int .i64 tb),.v (.int .i64 nc),.tree 5 (vs.map vA),.agg (fmP P)] (fun q=>q=.tup [.agg (prA ⟨tb,nc,vs,[jt P]⟩),.v (.int .i64 0)]):=by
 by_cases h:P.length=1
 ·obtain ⟨p,rfl⟩:=List.length_eq_one_iff.1 h
  exact of_1 tb nc vs hvs p [p] rfl hP0 hP hv1
 rw [Iu h]; exact of_n tb nc vs hvs P h hP0 hP hv1
theorem Zc (L:List GF1) (P:List (Int×GVal)) (hL:L=P.map fA2) (hP:P.length<=1000):PRet Tryz.prog 80 [.tree 11 (L.map f1A)] (fun q=>q=.agg (fmP P)):=by
 subst hL
 by_cases h:P.length=1
 ·obtain ⟨p,rfl⟩:=List.length_eq_one_iff.1 h
  exact Zd (fA2 p)
 rw [Iu h]; exact Zb _ ⟨by rw [Zl]; omega,fun x hx=>by obtain ⟨p,hp,rfl⟩:=List.mem_map.1 hx; exact ul p⟩ (by rw [Zl]; exact h)
theorem mc (s:List GTab) (hs:bw s (fun y=>FitTab y)) (tb:Int) (cs:List Int) (hcs:bw cs (fun y=>True)) (vals:List GVal) (hvals:bw vals (fun y=>FitVal y)) (j:Nat) (htb:tb=((j:Nat):Int)) (hjs:j < s.length) (hcl:s[j].columns_.length<=1000) (hvl:vals.length=cs.length) (hcs0:0 < cs.length) (hcs2:cs.length<=1000) (hin:∀ v∈vals,v.kind_=1->-2147483648<=v.int_/\v.int_<=2147483647):PRet Tryz.prog 38 [.tree 5 (s.map ef),.v (.int .i64 tb),.tree 1 (cs.map iA),.tree 3 (vals.map gvA)] (fun q=>q=.agg (acA ⟨false,⟨tb,((s[j].columns_.length:Nat):Int),ap s[j],[jt (cs.zip vals)]⟩⟩)):=by
 have htf:=hs.2 _ (Ze hjs)
 have hzl:(cs.zip vals).length=cs.length:=by rw [List.length_zip]; omega
 have hvv:(ap s[j]).length<=1000:=by simp only [ap,Zl]; omega
 refine PRet.of_vc ao [41,44,48,57,63] [10] Tryz.func38 rfl Tryz.ntmps38 rfl (by kernel_rfl) ?_
 refine LenG.of (LpG.via (fun _ h=>bq 9 11 rfl 2 rfl h) ?_)
 refine LpG.on (fun k0:KL GF1=>(⟨fL [(0,.tree 5 (s.map ef)),(1,.v (.int .i64 tb)),(3,.tree 3 (vals.map gvA)),(8,.ptr 0 0 0),(9,.sl 1 k0.L.length 0 k0.L.length),(15,.tree 1 (cs.map iA)),(16,.v (.int .i64 ((cs.length:Nat):Int))),(17,.v (.int .i64 ((k0.k:Nat):Int)))],bl [(0,⟨0,[.v (.bool false),.v (.int .i64 0),.v (.int .i64 0),.v (.slice none 0 0),.v (.slice none 0 0)],0,false⟩),(1,⟨k0.L.length,rF f1A k0.L,11,Nat.beq k0.L.length 0⟩)],2⟩:St)) (fun k0=>(cs.length - k0.k)) (fun k0=>(k0.k<=cs.length/\(k0.L=((cs.zip vals).take k0.k).map fA2/\k0.L.length=k0.k))) (⟨0,[]⟩:KL GF1) (cO (.cons rfl rfl (.cons rfl rfl (.cons rfl rfl (.cons rfl rfl (.cons (by rfl) rfl (.cons rfl rfl (.cons rfl rfl (.cons rfl rfl .nil)))))))) (.cons rfl rfl rfl (.cons (by rfl) rfl (ag j6 _ _) .nil))) ⟨Nat.zero_le _,⟨rfl,rfl⟩⟩ ?_
 rintro k0 hinv
 have hgr_k0:cs.length<=140737488355328:=hcs.1
 obtain ⟨hle_k0,hi_k0⟩:=hinv
 refine cL (fun hlt18=>?_) (fun hge18=>?_)
 ·have hvk:k0.k < vals.length:=by omega
  have hll:=hi_k0.2
  refine IdxG.of (by assumption) (IdxG.of (by assumption) ?_)
  refine IdxG.of (by assumption) (cE (fun hq35=>?_) (fun hq35=>?_))
  ·have hnb:=hin _ (Ze hvk) hq35
   refine IdxG.of (by assumption) (OpG.lk (sv rfl (by omega) (by omega)) ?_)
   refine OpG.nw (u4 (qe Tryz.underlying130 y4 yn rfl rfl rfl rfl) (fun η' h=>jq (f:=p1A) (l:=[(⟨1,0,cs[k0.k],0⟩:GP1)]) (Zj.2 rfl) h rfl rfl rfl rfl rfl (fun a _=>⟨rfl,rfl⟩))) rfl ?_
   refine OpG.lk (q9 Nw rfl rfl rfl rfl rfl) ?_
   refine OpG.mk _ _ _ 5 (aj j6 (a:=(⟨2,⟨3,0,0,⟨-vals[k0.k].int_,[⟨1,0,cs[k0.k],0⟩]⟩,⟨0,0,false,⟨#[]⟩⟩⟩⟩:GF1)) Tryz.underlying127 Pl O9 Ry rfl rfl rfl (az rfl rfl rfl rfl) rfl (by omega) (by omega) (by unfold TV; omega)) rfl rfl ?_
   refine ⟨by omega,?_⟩
   refine ⟨(⟨k0.k+1,k0.L++[(⟨2,⟨3,0,0,⟨-vals[k0.k].int_,[⟨1,0,cs[k0.k],0⟩]⟩,⟨0,0,false,⟨#[]⟩⟩⟩⟩:GF1)]⟩:KL GF1),(by show cs.length - (k0.k+1) < cs.length - k0.k; omega),(cO (.cons rfl rfl (.cons rfl rfl (.cons rfl rfl (.cons rfl rfl (.cons (by (rw [Zi]; rfl)) rfl (.cons rfl rfl (.cons rfl rfl (.cons rfl rfl .nil)))))))) (.cons rfl rfl rfl (.cons (by (rw [Zi]; rfl)) rfl (ag j6 _ _) .nil))),?_⟩
   refine ⟨by show k0.k+1<=_; omega,?_⟩
   exact ⟨rd_1 hlt18 hvk hi_k0.1 hq35,by show (_++[_]).length=_; rw [Zi,hi_k0.2]; rfl⟩
  refine OpG.lk (J5 (q9 Nw rfl rfl rfl rfl rfl) (fun _=>FzP.aggL (.cons (.pure rfl) (.cons (.pure rfl) (.cons (.pure rfl) (.cons (.pure rfl) (.cons (FzP.nil (n:=5)) (.cons (.pure rfl) (.cons (.pure rfl) (.cons (.pure rfl) (.cons (.pure rfl) .nil))))))))))) ?_
  refine OpG.mk _ _ _ 4 (aj j6 (a:=(⟨2,⟨5,cs[k0.k],0,⟨0,[]⟩,⟨0,0,false,vals[k0.k].text_⟩⟩⟩:GF1)) Tryz.underlying127 Pl O9 Ry rfl rfl rfl (az rfl rfl rfl rfl) rfl (by omega) (by omega) (by unfold TV; omega)) rfl rfl ?_
  refine ⟨by omega,?_⟩
  refine ⟨(⟨k0.k+1,k0.L++[(⟨2,⟨5,cs[k0.k],0,⟨0,[]⟩,⟨0,0,false,vals[k0.k].text_⟩⟩⟩:GF1)]⟩:KL GF1),(by show cs.length - (k0.k+1) < cs.length - k0.k; omega),(cO (.cons rfl rfl (.cons rfl rfl (.cons rfl rfl (.cons rfl rfl (.cons (by (rw [Zi]; rfl)) rfl (.cons rfl rfl (.cons rfl rfl (.cons rfl rfl .nil)))))))) (.cons rfl rfl rfl (.cons (by (rw [Zi]; rfl)) rfl (ag j6 _ _) .nil))),?_⟩
  refine ⟨by show k0.k+1<=_; omega,?_⟩
  exact ⟨rd_0 hlt18 hvk hi_k0.1 hq35,by show (_++[_]).length=_; rw [Zi,hi_k0.2]; rfl⟩
 have hLz:k0.L=(cs.zip vals).map fA2:=by rw [hi_k0.1,List.take_of_length_le (by omega)]
 refine RegG.via (fun _ h=>fg [1] 9 (.tree 11 (k0.L.map f1A)) (FzP.rows j6 (Zj.2 rfl) rfl) rfl h) ?_
 refine cr ?_
 refine OpG.lk (ah Tryz.underlying23 sy rfl rfl htb hjs) ?_
 refine LenG.of (OpG.lk (ah Tryz.underlying23 sy rfl rfl htb hjs) ?_)
 refine ArgG.mk (ql (s[j]) (hs.2 _ (Ze _)) (by omega)) rfl ?_
 rintro _ rfl
 refine ArgG.mk (Zc k0.L (cs.zip vals) hLz (by omega)) rfl ?_
 rintro _ rfl
 refine ArgG.mk (Xn tb ((s[j].columns_.length:Nat):Int) (ap s[j]) (wy hcl) (cs.zip vals) (by omega) (by omega) hvv) (show ay [.v (.int .i64 tb),.v (.int .i64 ((s[j].columns_.length:Nat):Int)),.tree 5 ((ap s[j]).map vA),.agg (fmP (cs.zip vals))]=true by simp [ay,AV.pureB,Mi]) ?_
 rintro _ rfl
 refine ⟨by kernel_rfl,?_⟩
 refine ⟨.inr rfl,_,Kh.cell Tryz.results38 Xc rfl rfl rfl rfl rfl ⟨[],FzP.pure rfl⟩,?_⟩
 rfl
/-- The access that reads a set. -/
def rdS (s:List GTab) (x:GRd):PAcc:=⟨false,⟨x.table_,(((s.getD x.table_.toNat default).columns_.length:Nat):Int),ap (s.getD x.table_.toNat default),[jt (x.columns_.zip x.values_)]⟩⟩
structure KLb where
 k:Nat
 L:List PAcc
 b:Bool
section
variable {s:List GTab} {tb:Int} {j:Nat} {cs:List Int} {v:List GVal}
theorem vz (h:tb=((j:Nat):Int)) (hj:j < s.length):(⟨false,⟨tb,((s[j].columns_.length:Nat):Int),ap s[j],[jt (cs.zip v)]⟩⟩:PAcc)=rdS s ⟨tb,cs,v⟩:=by
 unfold rdS
 have e:s.getD tb.toNat default=s[j]:=by rw [h,Int.toNat_natCast,gD hj]
 simp only [e]
theorem Td {α β:Type} {f:α->β} {L L0:List β} {A B:List α} {x:α} {y:β} (hL:L=L0++A.map f) (hy:y=f x) (hB:A++[x]=B):L++[y]=L0++B.map f:=by rw [hL,hy,<- hB]; simp
theorem Ti {α β:Type} {f:α->β} {L L0:List β} {A B:List α} (hL:L=L0++A.map f) (hB:A=B):L=L0++B.map f:=by rw [hL,hB]
/-- The part of the third loop so far. -/
theorem Yc {L L0:List PAcc} {R:List GRd} {b:Bool} {X x:GRd} {y1 y2:PAcc} {R2:List GRd} (h:L=L0++(js X R).map (rdS s)/\(b=true↔R≠[])) (hb:b=false) (h1:y1=rdS s X) (h2:y2=rdS s x) (hR:R2=R++[x]):L++[y1]++[y2]=L0++(js X R2).map (rdS s)/\((true:Bool)=true↔R2≠[]):=by
 have e:R=[]:=by
  cases R with
  | nil=>rfl
  | cons a r=>rw [h.2.2 (by simp)] at hb; cases hb
 subst e
 rw [hR,h.1,h1,h2]; simp [js]
theorem Yb {L L0:List PAcc} {R:List GRd} {b:Bool} {X x:GRd} {y2:PAcc} {R2:List GRd} (h:L=L0++(js X R).map (rdS s)/\(b=true↔R≠[])) (hb:b=true) (h2:y2=rdS s x) (hR:R2=R++[x]):L++[y2]=L0++(js X R2).map (rdS s)/\(b=true↔R2≠[]):=by
 have hne:=h.2.1 hb
 cases R with
 | nil=>exact absurd rfl hne
 | cons a r=>
  rw [hR,h.1,h2]
  refine ⟨by simp [js],?_⟩
  simp [hb]
theorem Yd {L L0:List PAcc} {R:List GRd} {b:Bool} {X:GRd} {R2:List GRd} (h:L=L0++(js X R).map (rdS s)/\(b=true↔R≠[])) (hR:R2=R):L=L0++(js X R2).map (rdS s)/\(b=true↔R2≠[]):=by rw [hR]; exact h
theorem Ya {L:List PAcc} {X:GRd} {q:Nat} {R:List (Int×Int)}:L=L++(js X (rA s v q R 0)).map (rdS s)/\((false:Bool)=true↔rA s v q R 0≠[]):=by simp [rA,js]
theorem Xx {c:GChg} {K:List (List Int)} {R:List (Int×Int)} {L L0 L8:List PAcc} {k m:Nat} {b:Bool} (h:k < K.length) (hL:L=L0++(oA s c K R k).map (rdS s)) (hf:cw c.old_ c.new_ K[k]=some v) (h8:L8=L++(js ⟨c.table_,K[k],v⟩ (rA s v k R m)).map (rdS s)/\(b=true↔rA s v k R m≠[])) (hm:m=R.length):L8=L0++(oA s c K R (k+1)).map (rdS s):=by
 subst hm
 rw [oA,gD h,hf,h8.1,hL]; simp [wc]
theorem Xy {c:GChg} {K:List (List Int)} {R:List (Int×Int)} {L L0:List PAcc} {k:Nat} (h:k < K.length) (hL:L=L0++(oA s c K R k).map (rdS s)) (hf:cw c.old_ c.new_ K[k]=none):L=L0++(oA s c K R (k+1)).map (rdS s):=by
 rw [oA,gD h,hf,hL]; simp [wc]
theorem Jb {l:List GChg} {k:Nat} {L0 L2 L4 L6:List PAcc} (hk:k < l.length) (hj:l[k].table_=((j:Nat):Int)) (hs:j < s.length) (h0:L0=(ka s (l.take k)).map (rdS s)) (h2:L2=L0++(kA l[k] s[j].keys_ s[j].keys_.length).map (rdS s)) (h4:L4=L2++(fA s l[k] s[j].foreign_ s[j].foreign_.length).map (rdS s)) (h6:L6=L4++(oA s l[k] s[j].keys_ (gl s l[k].table_) s[j].keys_.length).map (rdS s)):L6=(ka s (l.take (k+1))).map (rdS s):=by
 have:=Dw hk hj hs (L0:=ka s (l.take k)) rfl rfl rfl rfl
 rw [<- this,h6,h4,h2,h0]; simp
end
/-- Numbers of a row of a valid table. -/
theorem pw {t:GTab} {r:List GVal} {cs:List Int} {v:List GVal} (h:0 < r.length->B2 t r) (hl:LOk (ap t)) (hv:de r cs=some v):∀ y∈v,y.kind_=1->-2147483648<=y.int_/\y.int_<=2147483647:=by
 intro y hy hk
 unfold de at hv
 split at hv
 ·cases hv
 rename_i hn
 rw [<- Option.some.inj hv] at hy
 obtain ⟨c,hc,rfl⟩:=List.mem_map.1 hy
 have h0:0 < r.length:=by omega
 have hb:=Y7.2 (h h0).1
 unfold a8 at hk ⊢
 by_cases hj:c.toNat < r.length
 ·have e:r.getD c.toNat zV=r[c.toNat]:=by simp [List.getD,hj]
  rw [e] at hk ⊢
  exact Bz hb hl hj hk
 have e:r.getD c.toNat zV=zV:=by simp [List.getD,List.getElem?_eq_none (Nat.le_of_not_lt hj)]
 rw [e] at hk; exact absurd hk (by decide)
theorem mt {r o v:List GVal} {cs:List Int} (h:cw r o cs=some v):de r cs=some v:=by
 unfold cw at h
 split at h
 ·cases h
 exact h
/-- A foreign key that refers to key k has as many columns. -/
theorem P2 {s:List GTab} {t:Int} {j1 j3 m3 k n:Nat} (hss:SchS s) (h1:t=((j1:Nat):Int)) (hjs:j1 < s.length) (hjs3:j3 < s.length) (hms3:m3 < s[j3].foreign_.length) (ht:s[j3].foreign_[m3].table_=t) (hk:s[j3].foreign_[m3].key_=((k:Nat):Int)) (hkl:k < s[j1].keys_.length) (hn:n=s[j1].keys_[k].length):n=s[j3].foreign_[m3].columns_.length:=by
 obtain ⟨j,q,e1,e2,hj,hq,e3,_⟩:=(hss.w.fork _ (Ze hjs3) _ (Ze hms3)).tab
 have a:j=j1:=by omega
 subst a
 have b:q=k:=by omega
 subst b
 rw [hn,e3]
theorem U9 (s:List GTab) (hs:bw s (fun y=>FitTab y)) (l:List GChg) (hl:bw l (fun y=>FitChg y)) (hss:SchS s) (hcl:∀ c∈l,O6 s c) (hl6:l.length<=6):PRet Tryz.prog 15 [.tree 5 (s.map ef),.tree 4 (l.map o6)] (fun q=>q=.tree 5 (((ka s l).map (rdS s)).map acA)):=by
 have hf10:∀ x∈s,x.foreign_.length<=10:=fun x hx=>(hss.tab x hx).sm.fors
 have hs4:=hss.len
 refine PRet.of_vc ao [34,88,93,129,131,134,136,155] [] Tryz.func15 rfl Tryz.ntmps15 rfl (by kernel_rfl) ?_
 refine LenG.of (LpG.via (fun _ h=>bq 5 5 rfl 1 rfl h) ?_)
 refine LpG.on (fun k0:KL PAcc=>(⟨fL [(0,.tree 5 (s.map ef)),(5,.sl 0 k0.L.length 0 k0.L.length),(25,.tree 4 (l.map o6)),(26,.v (.int .i64 ((l.length:Nat):Int))),(27,.v (.int .i64 ((k0.k:Nat):Int)))],bl [(0,⟨k0.L.length,rF acA k0.L,5,Nat.beq k0.L.length 0⟩)],1⟩:St)) (fun k0=>(l.length - k0.k)) (fun k0=>(k0.k<=l.length/\(k0.L=(ka s (l.take k0.k)).map (rdS s)/\k0.L.length<=500 * k0.k))) (⟨0,[]⟩:KL PAcc) (cO (.cons rfl rfl (.cons (by rfl) rfl (.cons rfl rfl (.cons rfl rfl (.cons rfl rfl .nil))))) (.cons (by rfl) rfl (ag dn _ _) .nil)) ⟨Nat.zero_le _,⟨rfl,Nat.le_refl _⟩⟩ ?_
 rintro k0 hinv
 have hgr_k0:l.length<=140737488355328:=hl.1
 obtain ⟨hle_k0,hi_k0⟩:=hinv
 refine cL (fun hlt28=>?_) (fun hge28=>?_)
 ·obtain ⟨j1,hj1,hjs,hold,hnew⟩:=hcl _ (Ze hlt28)
  have hcf:=hl.2 _ (Ze hlt28)
  have htb:=hss.tab _ (Ze hjs)
  have hm2:=htb.sm.keys
  have hm3:=htb.sm.fors
  have hvk:=(hss.v j1 hjs).keys
  have hvf:=(hss.v j1 hjs).fors
  have hlk:=htb.to.lk
  have hlt0:=hi_k0.2
  refine IdxG.of (by assumption) (OpG.lk (ah Tryz.underlying23 sy rfl rfl hj1 hjs) ?_)
  refine LenG.of (LpG.on (fun k2:KL PAcc=>(⟨fL [(0,.tree 5 (s.map ef)),(5,.sl 0 k2.L.length 0 k2.L.length),(7,.ptr 1 0 0),(8,.ptr 2 0 0),(25,.tree 4 (l.map o6)),(26,.v (.int .i64 ((l.length:Nat):Int))),(27,.v (.int .i64 ((k0.k:Nat):Int))),(37,.tree 1 ((s[j1].keys_).map (fun l=>[.tree 1 (l.map iA)]))),(38,.v (.int .i64 ((s[j1].keys_.length:Nat):Int))),(39,.v (.int .i64 ((k2.k:Nat):Int)))],bl [(0,⟨k2.L.length,rF acA k2.L,5,Nat.beq k2.L.length 0⟩),(1,⟨0,o6 l[k0.k],0,false⟩),(2,⟨0,ef s[j1],0,false⟩)],3⟩:St)) (fun k2=>(s[j1].keys_.length - k2.k)) (fun k2=>(k2.k<=s[j1].keys_.length/\(k2.L=k0.L++(kA l[k0.k] s[j1].keys_ k2.k).map (rdS s)))) (⟨0,k0.L⟩:KL PAcc) (cO (.cons rfl rfl (.cons (by rfl) rfl (.cons rfl rfl (.cons rfl rfl (.cons rfl rfl (.cons rfl rfl (.cons rfl rfl (.cons rfl rfl (.cons rfl rfl (.cons rfl rfl .nil)))))))))) (.cons (by rfl) rfl (ag dn _ _) (.cons rfl rfl rfl (.cons rfl rfl rfl .nil)))) ⟨Nat.zero_le _,(List.append_nil _).symm⟩ ?_)
  rintro k2 hinv
  have hgr_k2:s[j1].keys_.length<=140737488355328:=(hs.2 _ (Ze _)).keys_.1
  obtain ⟨hle_k2,hi_k2⟩:=hinv
  refine cL (fun hlt40=>?_) (fun hge40=>?_)
  ·have hkf:=(hs.2 _ (Ze hjs)).keys_.2 _ (Ze hlt40)
   have hkc:=hvk _ (Ze hlt40)
   have hk20:=htb.sm.key _ (Ze hlt40)
   have hkp:0 < s[j1].keys_[k2.k].length:=by have:=hss.w.key _ (Ze hjs) _ (Ze hlt40); omega
   have hin1:=lq hnew hkc
   have hin2:=lq hold hkc
   have hLl:k2.L.length<=k0.L.length+k2.k:=by rw [hi_k2,Zi,Zl]; have:=wh (c:=l[k0.k]) (K:=s[j1].keys_) k2.k; omega
   refine IdxG.of (by assumption) (ArgG.mk (Bc l[k0.k].new_ hcf.new_ l[k0.k].old_ hcf.old_ s[j1].keys_[k2.k] hkf hin1 hin2 (by omega) hkp) rfl ?_)
   rintro _ ⟨b0,rfl,hf0⟩
   refine cB (fun hc52=>?_) (fun hc52=>?_)
   ·have hfr:=Tt hf0 hc52
    have hvs:=mt hfr
    have hve:=ml hvs
    have hve:((de l[k0.k].new_ s[j1].keys_[k2.k]).getD []).length=s[j1].keys_[k2.k].length:=ml hvs
    refine ArgG.mk (mc s hs l[k0.k].table_ s[j1].keys_[k2.k] hkf ((de l[k0.k].new_ s[j1].keys_[k2.k]).getD []) (la hcf.new_ (by omega)) j1 hj1 hjs (hss.tab _ (Ze hjs)).to.cl hve hkp (by omega) (pw hnew hlk hvs)) rfl ?_
    rintro _ rfl
    refine OpG.mk _ _ _ 4 (aj dn (a:=(⟨false,⟨l[k0.k].table_,((s[j1].columns_.length:Nat):Int),ap s[j1],[jt ((s[j1].keys_[k2.k]).zip ((de l[k0.k].new_ s[j1].keys_[k2.k]).getD []))]⟩⟩:PAcc)) Tryz.underlying56 S7 Sx Vd rfl rfl rfl (az rfl rfl rfl rfl) rfl (by omega) (by omega) (by unfold TV; omega)) rfl rfl ?_
    refine ⟨by omega,?_⟩
    refine ⟨(⟨k2.k+1,k2.L++[(⟨false,⟨l[k0.k].table_,((s[j1].columns_.length:Nat):Int),ap s[j1],[jt ((s[j1].keys_[k2.k]).zip ((de l[k0.k].new_ s[j1].keys_[k2.k]).getD []))]⟩⟩:PAcc)]⟩:KL PAcc),(by show s[j1].keys_.length - (k2.k+1) < s[j1].keys_.length - k2.k; omega),(cO (.cons rfl rfl (.cons (by (rw [Zi]; rfl)) rfl (.cons rfl rfl (.cons rfl rfl (.cons rfl rfl (.cons rfl rfl (.cons rfl rfl (.cons rfl rfl (.cons rfl rfl (.cons rfl rfl .nil)))))))))) (.cons (by (rw [Zi]; rfl)) rfl (ag dn _ _) (.cons rfl rfl rfl (.cons rfl rfl rfl .nil)))),?_⟩
    refine ⟨by show k2.k+1<=_; omega,?_⟩
    exact Td hi_k2 (vz hj1 hjs) (kA_1 (L0:=[]) hlt40 rfl hfr)
   have hfr:=Tu hf0 hc52
   refine ⟨by omega,?_⟩
   refine ⟨(⟨k2.k+1,k2.L⟩:KL PAcc),(by show s[j1].keys_.length - (k2.k+1) < s[j1].keys_.length - k2.k; omega),(cO (.cons rfl rfl (.cons (by rfl) rfl (.cons rfl rfl (.cons rfl rfl (.cons rfl rfl (.cons rfl rfl (.cons rfl rfl (.cons rfl rfl (.cons rfl rfl (.cons rfl rfl .nil)))))))))) (.cons (by rfl) rfl (ag dn _ _) (.cons rfl rfl rfl (.cons rfl rfl rfl .nil)))),?_⟩
   refine ⟨by show k2.k+1<=_; omega,?_⟩
   exact Ti hi_k2 (kA_0 (L0:=[]) hlt40 rfl hfr)
  have hL2:k2.L.length<=k0.L.length+k2.k:=by rw [hi_k2,Zi,Zl]; have:=wh (c:=l[k0.k]) (K:=s[j1].keys_) k2.k; omega
  refine LenG.of (LpG.on (fun k4:KL PAcc=>(⟨fL [(0,.tree 5 (s.map ef)),(5,.sl 0 k4.L.length 0 k4.L.length),(7,.ptr 1 0 0),(8,.ptr 2 0 0),(25,.tree 4 (l.map o6)),(26,.v (.int .i64 ((l.length:Nat):Int))),(27,.v (.int .i64 ((k0.k:Nat):Int))),(64,.tree 3 ((s[j1].foreign_).map Mh)),(65,.v (.int .i64 ((s[j1].foreign_.length:Nat):Int))),(66,.v (.int .i64 ((k4.k:Nat):Int)))],bl [(0,⟨k4.L.length,rF acA k4.L,5,Nat.beq k4.L.length 0⟩),(1,⟨0,o6 l[k0.k],0,false⟩),(2,⟨0,ef s[j1],0,false⟩)],3⟩:St)) (fun k4=>(s[j1].foreign_.length - k4.k)) (fun k4=>(k4.k<=s[j1].foreign_.length/\(k4.L=k2.L++(fA s l[k0.k] s[j1].foreign_ k4.k).map (rdS s)))) (⟨0,k2.L⟩:KL PAcc) (cO (.cons rfl rfl (.cons (by rfl) rfl (.cons rfl rfl (.cons rfl rfl (.cons rfl rfl (.cons rfl rfl (.cons rfl rfl (.cons rfl rfl (.cons rfl rfl (.cons rfl rfl .nil)))))))))) (.cons (by rfl) rfl (ag dn _ _) (.cons rfl rfl rfl (.cons rfl rfl rfl .nil)))) ⟨Nat.zero_le _,(List.append_nil _).symm⟩ ?_)
  rintro k4 hinv
  have hgr_k4:s[j1].foreign_.length<=140737488355328:=(hs.2 _ (Ze _)).foreign_.1
  obtain ⟨hle_k4,hi_k4⟩:=hinv
  refine cL (fun hlt67=>?_) (fun hge67=>?_)
  ·have hff:=((hs.2 _ (Ze hjs)).foreign_.2 _ (Ze hlt67)).columns_
   have hkc:=(hvf _ (Ze hlt67)).cols
   have hk20:=htb.sm.fcol _ (Ze hlt67)
   have hin1:=lq hnew hkc
   have hin2:=lq hold hkc
   have hfk:=hss.w.fork _ (Ze hjs) _ (Ze hlt67)
   have hkp:0 < s[j1].foreign_[k4.k].columns_.length:=by have:=hfk.ne; omega
   obtain ⟨j2,q2,hj2,hq2,hjs2,hqs2,hlen2,htyp2⟩:=hfk.tab
   have hk2f:=(hs.2 _ (Ze hjs2)).keys_.2 _ (Ze hqs2)
   have hkp2:0 < s[j2].keys_[q2].length:=by omega
   have hLl:k4.L.length<=k2.L.length+k4.k:=by rw [hi_k4,Zi,Zl]; have:=wn (s:=s) (c:=l[k0.k]) (F:=s[j1].foreign_) k4.k; omega
   refine IdxG.of (by assumption) (ArgG.mk (Bc l[k0.k].new_ hcf.new_ l[k0.k].old_ hcf.old_ s[j1].foreign_[k4.k].columns_ hff hin1 hin2 (by omega) hkp) rfl ?_)
   rintro _ ⟨b2,rfl,hf2⟩
   refine cB (fun hc80=>?_) (fun hc80=>?_)
   ·have hfr:=Tt hf2 hc80
    have hvs:=mt hfr
    have hve:=ml hvs
    have hve:((de l[k0.k].new_ s[j1].foreign_[k4.k].columns_).getD []).length=s[j1].foreign_[k4.k].columns_.length:=ml hvs
    refine OpG.lk (ah Tryz.underlying23 sy rfl rfl hj2 hjs2) ?_
    refine OpG.lk (ah Tryz.underlying31 Wa rfl rfl hq2 hqs2) ?_
    refine ArgG.mk (mc s hs s[j1].foreign_[k4.k].table_ s[j2].keys_[q2] hk2f ((de l[k0.k].new_ s[j1].foreign_[k4.k].columns_).getD []) (la hcf.new_ (by omega)) j2 hj2 hjs2 (hss.tab _ (Ze hjs2)).to.cl (hve.trans hlen2.symm) hkp2 (by omega) (pw hnew hlk hvs)) rfl ?_
    rintro _ rfl
    refine OpG.mk _ _ _ 5 (aj dn (a:=(⟨false,⟨s[j1].foreign_[k4.k].table_,((s[j2].columns_.length:Nat):Int),ap s[j2],[jt ((s[j2].keys_[q2]).zip ((de l[k0.k].new_ s[j1].foreign_[k4.k].columns_).getD []))]⟩⟩:PAcc)) Tryz.underlying56 S7 Sx Vd rfl rfl rfl (az rfl rfl rfl rfl) rfl (by omega) (by omega) (by unfold TV; omega)) rfl rfl ?_
    refine ⟨by kernel_rfl,?_⟩
    refine ⟨by omega,?_⟩
    refine ⟨(⟨k4.k+1,k4.L++[(⟨false,⟨s[j1].foreign_[k4.k].table_,((s[j2].columns_.length:Nat):Int),ap s[j2],[jt ((s[j2].keys_[q2]).zip ((de l[k0.k].new_ s[j1].foreign_[k4.k].columns_).getD []))]⟩⟩:PAcc)]⟩:KL PAcc),(by show s[j1].foreign_.length - (k4.k+1) < s[j1].foreign_.length - k4.k; omega),(cO (.cons rfl rfl (.cons (by (rw [Zi]; rfl)) rfl (.cons rfl rfl (.cons rfl rfl (.cons rfl rfl (.cons rfl rfl (.cons rfl rfl (.cons rfl rfl (.cons rfl rfl (.cons rfl rfl .nil)))))))))) (.cons (by (rw [Zi]; rfl)) rfl (ag dn _ _) (.cons rfl rfl rfl (.cons rfl rfl rfl .nil)))),?_⟩
    refine ⟨by show k4.k+1<=_; omega,?_⟩
    exact Td hi_k4 (vz hj2 hjs2) (fA_1 (L0:=[]) hlt67 rfl hfr hj2 hq2 hjs2 hqs2)
   have hfr:=Tu hf2 hc80
   refine ⟨by omega,?_⟩
   refine ⟨(⟨k4.k+1,k4.L⟩:KL PAcc),(by show s[j1].foreign_.length - (k4.k+1) < s[j1].foreign_.length - k4.k; omega),(cO (.cons rfl rfl (.cons (by rfl) rfl (.cons rfl rfl (.cons rfl rfl (.cons rfl rfl (.cons rfl rfl (.cons rfl rfl (.cons rfl rfl (.cons rfl rfl (.cons rfl rfl .nil)))))))))) (.cons (by rfl) rfl (ag dn _ _) (.cons rfl rfl rfl (.cons rfl rfl rfl .nil)))),?_⟩
   refine ⟨by show k4.k+1<=_; omega,?_⟩
   exact Ti hi_k4 (fA_0 (L0:=[]) hlt67 rfl hfr)
  have hL4:k4.L.length<=k2.L.length+k4.k:=by rw [hi_k4,Zi,Zl]; have:=wn (s:=s) (c:=l[k0.k]) (F:=s[j1].foreign_) k4.k; omega
  have hrl:(gl s l[k0.k].table_).length<=40:=by have:=m8 (t:=l[k0.k].table_) hf10 s.length; have h4:=hss.len; unfold gl; omega
  refine LenG.of (LpG.on (fun k6:KL PAcc=>(⟨fL [(0,.tree 5 (s.map ef)),(5,.sl 0 k6.L.length 0 k6.L.length),(7,.ptr 1 0 0),(25,.tree 4 (l.map o6)),(26,.v (.int .i64 ((l.length:Nat):Int))),(27,.v (.int .i64 ((k0.k:Nat):Int))),(101,.tree 1 ((s[j1].keys_).map (fun l=>[.tree 1 (l.map iA)]))),(102,.v (.int .i64 ((s[j1].keys_.length:Nat):Int))),(103,.v (.int .i64 ((k6.k:Nat):Int)))],bl [(0,⟨k6.L.length,rF acA k6.L,5,Nat.beq k6.L.length 0⟩),(1,⟨0,o6 l[k0.k],0,false⟩)],3⟩:St)) (fun k6=>(s[j1].keys_.length - k6.k)) (fun k6=>(k6.k<=s[j1].keys_.length/\(k6.L=k4.L++(oA s l[k0.k] s[j1].keys_ (gl s l[k0.k].table_) k6.k).map (rdS s)))) (⟨0,k4.L⟩:KL PAcc) (cO (.cons rfl rfl (.cons (by rfl) rfl (.cons rfl rfl (.cons rfl rfl (.cons rfl rfl (.cons rfl rfl (.cons rfl rfl (.cons rfl rfl (.cons rfl rfl .nil))))))))) (.cons (by rfl) rfl (ag dn _ _) (.cons rfl rfl rfl .nil))) ⟨Nat.zero_le _,(List.append_nil _).symm⟩ ?_)
  rintro k6 hinv
  have hgr_k6:s[j1].keys_.length<=140737488355328:=(hs.2 _ (Ze _)).keys_.1
  obtain ⟨hle_k6,hi_k6⟩:=hinv
  refine cL (fun hlt104=>?_) (fun hge104=>?_)
  ·have hkf:=(hs.2 _ (Ze hjs)).keys_.2 _ (Ze hlt104)
   have hkc:=hvk _ (Ze hlt104)
   have hk20:=htb.sm.key _ (Ze hlt104)
   have hkp:0 < s[j1].keys_[k6.k].length:=by have:=hss.w.key _ (Ze hjs) _ (Ze hlt104); omega
   have hin1:=lq hnew hkc
   have hin2:=lq hold hkc
   have hLl:k6.L.length<=k4.L.length+41 * k6.k:=by rw [hi_k6,Zi,Zl]; have:=we (s:=s) (c:=l[k0.k]) (K:=s[j1].keys_) (R:=(gl s l[k0.k].table_)) k6.k; have h2:((gl s l[k0.k].table_).length+1) * k6.k<=41 * k6.k:=Nat.mul_le_mul_right _ (by omega); omega
   refine IdxG.of (by assumption) (ArgG.mk (Bc l[k0.k].old_ hcf.old_ l[k0.k].new_ hcf.new_ s[j1].keys_[k6.k] hkf hin2 hin1 (by omega) hkp) rfl ?_)
   rintro _ ⟨b4,rfl,hf4⟩
   refine cB (fun hc118=>?_) (fun hc118=>?_)
   ·have hfr:=Tu hf4 (by simpa using hc118)
    refine ⟨by omega,?_⟩
    refine ⟨(⟨k6.k+1,k6.L⟩:KL PAcc),(by show s[j1].keys_.length - (k6.k+1) < s[j1].keys_.length - k6.k; omega),(cO (.cons rfl rfl (.cons (by rfl) rfl (.cons rfl rfl (.cons rfl rfl (.cons rfl rfl (.cons rfl rfl (.cons rfl rfl (.cons rfl rfl (.cons rfl rfl .nil))))))))) (.cons (by rfl) rfl (ag dn _ _) (.cons rfl rfl rfl .nil))),?_⟩
    refine ⟨by show k6.k+1<=_; omega,?_⟩
    exact Xy hlt104 hi_k6 hfr
   have hfr:=Tt hf4 (by simpa using hc118)
   have hvs:=mt hfr
   have hve:((de l[k0.k].old_ s[j1].keys_[k6.k]).getD []).length=s[j1].keys_[k6.k].length:=ml hvs
   refine ArgG.mk (ze s hs l[k0.k].table_ (by omega) hf10) rfl ?_
   rintro _ rfl
   refine LenG.of (LpG.on (fun k8:KLb=>(⟨fL [(0,.tree 5 (s.map ef)),(5,.sl 0 k8.L.length 0 k8.L.length),(7,.ptr 1 0 0),(17,.v (.int .i64 ((k6.k:Nat):Int))),(18,.tree 1 ((s[j1].keys_[k6.k]).map iA)),(19,.tree 3 ((((de l[k0.k].old_ s[j1].keys_[k6.k]).getD [])).map gvA)),(21,.v (.bool k8.b)),(25,.tree 4 (l.map o6)),(26,.v (.int .i64 ((l.length:Nat):Int))),(27,.v (.int .i64 ((k0.k:Nat):Int))),(101,.tree 1 ((s[j1].keys_).map (fun l=>[.tree 1 (l.map iA)]))),(102,.v (.int .i64 ((s[j1].keys_.length:Nat):Int))),(103,.v (.int .i64 ((k6.k:Nat):Int))),(122,.tree 2 (((gl s l[k0.k].table_)).map paA)),(123,.v (.int .i64 ((((gl s l[k0.k].table_)).length:Nat):Int))),(124,.v (.int .i64 ((k8.k:Nat):Int)))],bl [(0,⟨k8.L.length,rF acA k8.L,5,Nat.beq k8.L.length 0⟩),(1,⟨0,o6 l[k0.k],0,false⟩)],3⟩:St)) (fun k8=>(((gl s l[k0.k].table_)).length - k8.k)) (fun k8=>(k8.k<=((gl s l[k0.k].table_)).length/\(k8.L=k6.L++(js ⟨l[k0.k].table_,s[j1].keys_[k6.k],((de l[k0.k].old_ s[j1].keys_[k6.k]).getD [])⟩ (rA s ((de l[k0.k].old_ s[j1].keys_[k6.k]).getD []) k6.k (gl s l[k0.k].table_) k8.k)).map (rdS s)/\(k8.b=true↔rA s ((de l[k0.k].old_ s[j1].keys_[k6.k]).getD []) k6.k (gl s l[k0.k].table_) k8.k≠[])))) (⟨0,k6.L,false⟩:KLb) (cO (.cons rfl rfl (.cons (by rfl) rfl (.cons rfl rfl (.cons rfl rfl (.cons rfl rfl (.cons rfl rfl (.cons rfl rfl (.cons rfl rfl (.cons rfl rfl (.cons rfl rfl (.cons rfl rfl (.cons rfl rfl (.cons rfl rfl (.cons rfl rfl (.cons rfl rfl (.cons rfl rfl .nil)))))))))))))))) (.cons (by rfl) rfl (ag dn _ _) (.cons rfl rfl rfl .nil))) ⟨Nat.zero_le _,Ya⟩ ?_)
   rintro k8 hinv
   obtain ⟨hle_k8,hi_k8⟩:=hinv
   refine cL (fun hlt125=>?_) (fun hge125=>?_)
   ·obtain ⟨j3,m3,hj3,hm3,hjs3,hms3,htab3⟩:=si (Nat.le_refl _) (Ze (l:=(gl s l[k0.k].table_)) hlt125)
    have hf3f:=((hs.2 _ (Ze hjs3)).foreign_.2 _ (Ze hms3)).columns_
    have hf320:=(hss.tab _ (Ze hjs3)).sm.fcol _ (Ze hms3)
    have hfk3:=hss.w.fork _ (Ze hjs3) _ (Ze hms3)
    have hkp3:0 < s[j3].foreign_[m3].columns_.length:=by have:=hfk3.ne; omega
    have hl8:k8.L.length<=k6.L.length+k8.k+1:=by rw [hi_k8.1,Zi,Zl]; have:=Ce (x:=⟨l[k0.k].table_,s[j1].keys_[k6.k],((de l[k0.k].old_ s[j1].keys_[k6.k]).getD [])⟩) (l:=rA s ((de l[k0.k].old_ s[j1].keys_[k6.k]).getD []) k6.k (gl s l[k0.k].table_) k8.k); have:=v7 (s:=s) (v:=((de l[k0.k].old_ s[j1].keys_[k6.k]).getD [])) (q:=k6.k) (R:=(gl s l[k0.k].table_)) k8.k; omega
    refine IdxG.of (by assumption) (OpG.lk (jf Tryz.underlying113 sz3 rfl rfl rfl rfl rfl rfl) ?_)
    refine OpG.lk (ah Tryz.underlying23 sy rfl rfl hj3 hjs3) ?_
    refine OpG.lk (jf Tryz.underlying113 sz3 rfl rfl rfl rfl rfl rfl) ?_
    refine OpG.lk (ah Tryz.underlying32 Kw rfl rfl hm3 hms3) ?_
    refine ⟨by kernel_rfl,?_⟩
    refine cB (fun hc141=>?_) (fun hc141=>?_)
    ·have hq141:¬ ((s[j3].foreign_[m3].key_:Int)=((k6.k:Nat):Int)):=by simpa using hc141
     refine ⟨by omega,?_⟩
     refine ⟨(⟨k8.k+1,k8.L,k8.b⟩:KLb),(by show ((gl s l[k0.k].table_)).length - (k8.k+1) < ((gl s l[k0.k].table_)).length - k8.k; omega),(cO (.cons rfl rfl (.cons (by rfl) rfl (.cons rfl rfl (.cons rfl rfl (.cons rfl rfl (.cons rfl rfl (.cons rfl rfl (.cons rfl rfl (.cons rfl rfl (.cons rfl rfl (.cons rfl rfl (.cons rfl rfl (.cons rfl rfl (.cons rfl rfl (.cons rfl rfl (.cons rfl rfl .nil)))))))))))))))) (.cons (by rfl) rfl (ag dn _ _) (.cons rfl rfl rfl .nil))),?_⟩
     refine ⟨by show k8.k+1<=_; omega,?_⟩
     exact Yd hi_k8 (rA_0 hlt125 hj3 hm3 hjs3 hms3 (by simpa using hc141))
    have hq141:(s[j3].foreign_[m3].key_:Int)=((k6.k:Nat):Int):=by simpa using hc141
    have hve3:((de l[k0.k].old_ s[j1].keys_[k6.k]).getD []).length=s[j3].foreign_[m3].columns_.length:=P2 hss hj1 hjs hjs3 hms3 htab3 (by simpa using hc141) hlt104 hve
    refine cB (fun hc143=>?_) (fun hc143=>?_)
    ·refine ArgG.mk (mc s hs l[k0.k].table_ s[j1].keys_[k6.k] hkf ((de l[k0.k].old_ s[j1].keys_[k6.k]).getD []) (la hcf.old_ (by omega)) j1 hj1 hjs (hss.tab _ (Ze hjs)).to.cl hve hkp (by omega) (pw hold hlk hvs)) rfl ?_
     rintro _ rfl
     refine OpG.mk _ _ _ 6 (aj dn (a:=(⟨false,⟨l[k0.k].table_,((s[j1].columns_.length:Nat):Int),ap s[j1],[jt ((s[j1].keys_[k6.k]).zip ((de l[k0.k].old_ s[j1].keys_[k6.k]).getD []))]⟩⟩:PAcc)) Tryz.underlying56 S7 Sx Vd rfl rfl rfl (az rfl rfl rfl rfl) rfl (by omega) (by omega) (by unfold TV; omega)) rfl rfl ?_
     refine OpG.lk (jf Tryz.underlying113 sz3 rfl rfl rfl rfl rfl rfl) ?_
     refine ArgG.mk (mc s hs (gl s l[k0.k].table_)[k8.k].1 s[j3].foreign_[m3].columns_ hf3f ((de l[k0.k].old_ s[j1].keys_[k6.k]).getD []) (la hcf.old_ (by omega)) j3 hj3 hjs3 (hss.tab _ (Ze hjs3)).to.cl hve3 hkp3 (by omega) (pw hold hlk hvs)) rfl ?_
     rintro _ rfl
     refine OpG.mk _ _ _ 7 (aj dn (a:=(⟨false,⟨(gl s l[k0.k].table_)[k8.k].1,((s[j3].columns_.length:Nat):Int),ap s[j3],[jt ((s[j3].foreign_[m3].columns_).zip ((de l[k0.k].old_ s[j1].keys_[k6.k]).getD []))]⟩⟩:PAcc)) Tryz.underlying56 S7 Sx Vd rfl rfl rfl (az rfl rfl rfl rfl) rfl (by (simp only [Zi,List.length_cons,List.length_nil]; omega)) (by (simp only [Zi,List.length_cons,List.length_nil]; omega)) (by unfold TV; omega)) rfl rfl ?_
     refine ⟨by omega,?_⟩
     refine ⟨(⟨k8.k+1,k8.L++[(⟨false,⟨l[k0.k].table_,((s[j1].columns_.length:Nat):Int),ap s[j1],[jt ((s[j1].keys_[k6.k]).zip ((de l[k0.k].old_ s[j1].keys_[k6.k]).getD []))]⟩⟩:PAcc)]++[(⟨false,⟨(gl s l[k0.k].table_)[k8.k].1,((s[j3].columns_.length:Nat):Int),ap s[j3],[jt ((s[j3].foreign_[m3].columns_).zip ((de l[k0.k].old_ s[j1].keys_[k6.k]).getD []))]⟩⟩:PAcc)],true⟩:KLb),(by show ((gl s l[k0.k].table_)).length - (k8.k+1) < ((gl s l[k0.k].table_)).length - k8.k; omega),(cO (.cons rfl rfl (.cons (by (rw [Zi,Zi,Zi]; rfl)) rfl (.cons rfl rfl (.cons rfl rfl (.cons rfl rfl (.cons rfl rfl (.cons rfl rfl (.cons rfl rfl (.cons rfl rfl (.cons rfl rfl (.cons rfl rfl (.cons rfl rfl (.cons rfl rfl (.cons rfl rfl (.cons rfl rfl (.cons rfl rfl .nil)))))))))))))))) (.cons (by (rw [Zi,Zi,Zi]; rfl)) rfl (ag dn _ _) (.cons rfl rfl rfl .nil))),?_⟩
     refine ⟨by show k8.k+1<=_; omega,?_⟩
     exact Yc hi_k8 (by simpa using hc143) (vz hj1 hjs) (vz hj3 hjs3) (Xh hlt125 hj3 hm3 hjs3 hms3 (by simpa using hc141))
    refine OpG.lk (jf Tryz.underlying113 sz3 rfl rfl rfl rfl rfl rfl) ?_
    refine ArgG.mk (mc s hs (gl s l[k0.k].table_)[k8.k].1 s[j3].foreign_[m3].columns_ hf3f ((de l[k0.k].old_ s[j1].keys_[k6.k]).getD []) (la hcf.old_ (by omega)) j3 hj3 hjs3 (hss.tab _ (Ze hjs3)).to.cl hve3 hkp3 (by omega) (pw hold hlk hvs)) rfl ?_
    rintro _ rfl
    refine OpG.mk _ _ _ 6 (aj dn (a:=(⟨false,⟨(gl s l[k0.k].table_)[k8.k].1,((s[j3].columns_.length:Nat):Int),ap s[j3],[jt ((s[j3].foreign_[m3].columns_).zip ((de l[k0.k].old_ s[j1].keys_[k6.k]).getD []))]⟩⟩:PAcc)) Tryz.underlying56 S7 Sx Vd rfl rfl rfl (az rfl rfl rfl rfl) rfl (by omega) (by omega) (by unfold TV; omega)) rfl rfl ?_
    refine ⟨by omega,?_⟩
    refine ⟨(⟨k8.k+1,k8.L++[(⟨false,⟨(gl s l[k0.k].table_)[k8.k].1,((s[j3].columns_.length:Nat):Int),ap s[j3],[jt ((s[j3].foreign_[m3].columns_).zip ((de l[k0.k].old_ s[j1].keys_[k6.k]).getD []))]⟩⟩:PAcc)],k8.b⟩:KLb),(by show ((gl s l[k0.k].table_)).length - (k8.k+1) < ((gl s l[k0.k].table_)).length - k8.k; omega),(cO (.cons rfl rfl (.cons (by (rw [Zi]; rfl)) rfl (.cons rfl rfl (.cons rfl rfl (.cons rfl rfl (.cons rfl rfl (.cons rfl rfl (.cons rfl rfl (.cons rfl rfl (.cons rfl rfl (.cons rfl rfl (.cons rfl rfl (.cons rfl rfl (.cons rfl rfl (.cons rfl rfl (.cons rfl rfl .nil)))))))))))))))) (.cons (by (rw [Zi]; rfl)) rfl (ag dn _ _) (.cons rfl rfl rfl .nil))),?_⟩
    refine ⟨by show k8.k+1<=_; omega,?_⟩
    exact Yb hi_k8 (by simpa using hc143) (vz hj3 hjs3) (Xh hlt125 hj3 hm3 hjs3 hms3 (by simpa using hc141))
   refine ⟨by omega,?_⟩
   refine ⟨(⟨k6.k+1,k8.L⟩:KL PAcc),(by show s[j1].keys_.length - (k6.k+1) < s[j1].keys_.length - k6.k; omega),(cO (.cons rfl rfl (.cons (by rfl) rfl (.cons rfl rfl (.cons rfl rfl (.cons rfl rfl (.cons rfl rfl (.cons rfl rfl (.cons rfl rfl (.cons rfl rfl .nil))))))))) (.cons (by rfl) rfl (ag dn _ _) (.cons rfl rfl rfl .nil))),?_⟩
   refine ⟨by show k6.k+1<=_; omega,?_⟩
   exact Xx hlt104 hi_k6 hfr hi_k8 (by omega)
  have hL6:k6.L.length<=k4.L.length+41 * k6.k:=by rw [hi_k6,Zi,Zl]; have:=we (s:=s) (c:=l[k0.k]) (K:=s[j1].keys_) (R:=(gl s l[k0.k].table_)) k6.k; have h2:((gl s l[k0.k].table_).length+1) * k6.k<=41 * k6.k:=Nat.mul_le_mul_right _ (by omega); omega
  refine ⟨by omega,?_⟩
  refine ⟨(⟨k0.k+1,k6.L⟩:KL PAcc),(by show l.length - (k0.k+1) < l.length - k0.k; omega),(cO (.cons rfl rfl (.cons (by rfl) rfl (.cons rfl rfl (.cons rfl rfl (.cons rfl rfl .nil))))) (.cons (by rfl) rfl (ag dn _ _) .nil)),?_⟩
  refine ⟨by show k0.k+1<=_; omega,?_⟩
  have e2:k2.k=s[j1].keys_.length:=by omega
  have e4:k4.k=s[j1].foreign_.length:=by omega
  have e6:k6.k=s[j1].keys_.length:=by omega
  have g2:=hi_k2; have g4:=hi_k4; have g6:=hi_k6
  rw [e2] at g2; rw [e4] at g4; rw [e6] at g6
  refine ⟨Jb hlt28 hj1 hjs hi_k0.1 g2 g4 g6,?_⟩
  show k6.L.length<=500 * (k0.k+1); omega
 refine ⟨.inr rfl,_,Kh.tmp Tryz.results15 ⟨[0],FzP.rows dn (Zj.2 rfl) rfl⟩,?_⟩
 rw [hi_k0.1,List.take_of_length_le (by omega)]
end Go.Proofs.YthpangmpihkniaaGreatDoor
