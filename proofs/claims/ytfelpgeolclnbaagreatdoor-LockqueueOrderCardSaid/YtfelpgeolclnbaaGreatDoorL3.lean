/- Texts of the claim. -/
import Derived.Deep.Slices
import Derived.Deep.Fields
import Derived.ChangeSame
import Derived.ChangeArms
import Derived.SizedLaws
import Derived.OpenShut
import Derived.Test.YtfelpgeolclnbaaGreatDoorL2
namespace Go.Proofs.YtfelpgeolclnbaaGreatDoor
set_option linter.unusedVariables false
set_option linter.unusedSimpArgs false
open Go.RowKit
section
variable {P:Program} {τ:Nat→AV} {η:Heap} {d:Option Tmp} {ty:TypeId} {pos:String} {af:Array Edge} {g:Option (Nat×Bool)}
theorem LOp.eqNilP {t t' e:Nat} {x y:Operand} {id ver o:Nat} {b:Blk} (hu:P.underlying t=some (.pointer e)) (hx:aev τ x=.ptr id ver o) (hb:η id=some b) (hv:b.ver=ver) (hy:aev τ y=.v (.pointer none)) :
  LOp P ⟨d,.binOp .eql t x y t',ty,pos,af,g⟩ τ η [id] [] (.v (.bool false)) :=
 .look [id] fun C a hg hxs hfp=>by
  have e1:=hxs x (by simp [Op.operands])
  have e2:=hxs y (by simp [Op.operands])
  rw [hx] at e1
  rw [hy] at e2
  have e3:=e1.ptr_inv ((hfp id (by simp)).trans hb) hv
  have hne:NE P t (a.eval x) (a.eval y):=by rw [e3,e2.v_inv]; exact .pt hu
  obtain ⟨q1,q2,q3,q4⟩:=hne.op1 x y C.w
  exact ⟨_,by simp only [execOp,Sem.run_bind,q1,q3,Result.andThen_ok,Sem.run_pure],VR.v C _⟩
end
section
variable {P:Program} {τ:Nat→AV} {η:Heap} {d:Option Tmp} {ty:TypeId} {pos:String} {af:Array Edge} {g:Option (Nat×Bool)}
theorem LOp.indexTo {α:Type} {t e n j:Nat} {x i:Operand} {k:IntKind} {f:α→List AV} {l:List α} {a:α} (he:P.underlying t=some (.slice e)) (hs:sizeInfo P e=some n) (hx:aev τ x=.tree n (l.map f)) (hi:aev τ i=.v (.int k (Int.ofNat j))) (hj:j < l.length) (ha:l[j]=a) :
  LOp P ⟨d,.indexAddr t x i,ty,pos,af,g⟩ τ η [] [] (.tp (f a) 0):=by
 subst ha
 exact lI he hs hx hi hj
end
structure POp where
 rm:Bool
 t:Int
 l:List PAcc
instance:Inhabited POp:=⟨⟨false,0,[]⟩⟩
abbrev opA (o:POp):List AV:=[.v (.bool o.rm),.v (.int .i64 o.t),.tree 5 (o.l.map acA)]
def stepQ (q:List PReq) (o:POp):List PReq:=if o.rm=true then remL q o.t else pushL q o.t o.l
def qAt (l:List POp) (k:Nat):List PReq:=(l.take k).foldl stepQ []
theorem qAt_next {l:List POp} {k:Nat} (h:k < l.length):qAt l (k+1)=stepQ (qAt l k) l[k]:=by
 unfold qAt
 rw [List.take_succ_eq_append_getElem h,List.foldl_append]; rfl
theorem push_or (q:List PReq) (t:Int) (a:List PAcc):pushL q t a=q∨(pushL q t a=q++[⟨t,a⟩]∧∀ r∈q,r.t≠t):=by
 unfold pushL
 by_cases h:pushE q t a=0
 ·right
  rw [if_pos h]
  refine ⟨rfl,?_⟩
  rcases findI_cases q t with ⟨_,h2⟩ | ⟨i,hi,h2,_⟩
  ·exact h2
  ·exfalso
   unfold pushE at h
   rw [h2] at h
   split at h
   ·cases h
   ·split at h
    ·rw [if_neg (by omega)] at h; cases h
    ·cases h
 ·left; rw [if_neg h]
theorem rem_sub (q:List PReq) (t:Int):(remL q t).Sublist q:=by
 unfold remL
 split
 ·exact List.Sublist.refl _
 ·have h1:(q.take (findI q t).toNat++q.drop ((findI q t).toNat+1)).Sublist (q.take (findI q t).toNat++q.drop (findI q t).toNat) :=
   List.Sublist.append (List.Sublist.refl _) (List.drop_sublist_drop_left q (Nat.le_succ _))
  rwa [List.take_append_drop] at h1
/-- What the list of requests is like. -/
structure QInv (q:List PReq) (n:Nat):Prop where
 len:q.length≤n
 small:∀ r∈q,r.l.length≤4
 ok:∀ r∈q,∀ a∈r.l,a.p.Ok
 nodup:(q.map (·.t)).Nodup
def goodO (o:POp):Prop:=o.l.length≤4∧∀ a∈o.l,a.p.Ok
theorem QInv.step {q:List PReq} {n:Nat} {o:POp} (h:QInv q n) (ho:goodO o):QInv (stepQ q o) (n+1):=by
 unfold stepQ
 split
 ·have hs:=rem_sub q o.t
  have hm:∀ r∈remL q o.t,r∈q:=fun r hr=>hs.subset hr
  exact ⟨Nat.le_trans hs.length_le (Nat.le_trans h.len (Nat.le_succ _)),fun r hr=>h.small r (hm r hr),fun r hr=>h.ok r (hm r hr),(hs.map _).nodup h.nodup⟩
 ·rcases push_or q o.t o.l with e | ⟨e,hne⟩
  ·rw [e]
   exact ⟨Nat.le_trans h.len (Nat.le_succ _),h.small,h.ok,h.nodup⟩
  ·rw [e]
   refine ⟨by have:=h.len; simp; omega,fun r hr=>?_,fun r hr=>?_,?_⟩
   ·rcases List.mem_append.1 hr with hr | hr
    ·exact h.small r hr
    ·rw [List.mem_singleton.1 hr]; exact ho.1
   ·rcases List.mem_append.1 hr with hr | hr
    ·exact h.ok r hr
    ·rw [List.mem_singleton.1 hr]; exact ho.2
   ·rw [List.map_append,List.nodup_append]
    refine ⟨h.nodup,by simp,fun a ha b hb=>?_⟩
    obtain ⟨r,hr,rfl⟩:=List.mem_map.1 ha
    have:b=o.t:=by simpa using hb
    rw [this]; exact hne r hr
theorem qAt_inv {l:List POp} (hl:∀ o∈l,goodO o):∀ k,k≤l.length→QInv (qAt l k) k
 | 0,_=>by
  have e:qAt l 0=[]:=rfl
  rw [e]
  exact ⟨Nat.le_refl _,by simp,by simp,by simp⟩
 | k+1,h=>by
  rw [qAt_next (show k < l.length by omega)]
  exact (qAt_inv hl k (by omega)).step (hl _ (List.getElem_mem _))
theorem QInv.qok {q:List PReq} {n:Nat} (h:QInv q n):QOk q:=⟨fun r hr=>Nat.le_trans (h.small r hr) (by decide),h.ok⟩
theorem find_at {q:List PReq} {n i:Nat} (h:QInv q n) (hi:i < q.length):findI q q[i].t=((i:Nat):Int):=by
 rcases findI_cases q q[i].t with ⟨_,h2⟩ | ⟨j,hj,h2,h3⟩
 ·exact absurd rfl (h2 _ (List.getElem_mem hi))
 ·have hn:=List.pairwise_iff_getElem.1 h.nodup
  rcases Nat.lt_trichotomy j i with h4 | h4 | h4
  ·exact absurd (by rw [List.getElem_map,List.getElem_map]; exact h3) (hn j i (by simpa using hj) (by simpa using hi) h4)
  ·rw [h2,h4]
  ·exact absurd (by rw [List.getElem_map,List.getElem_map]; exact h3.symm) (hn i j (by simpa using hi) (by simpa using hj) h4)
theorem waiting2_h (l:List PReq) (v:Nat) (b:Bool) (hb:b=true→l=[]) (hl:l.length≤1000) (hv:v≤1000):HCall Tryz.prog 13 [.ptr TOP 0 0] [(TOP,⟨0,[.sl (TOP+1) v 0 l.length],0,false⟩),(TOP+1,⟨v,rF rqA l,2,b⟩)] [(TOP,some (⟨0,[.sl (TOP+1) v 0 l.length],0,false⟩)),(TOP+1,some (⟨v,rF rqA l,2,b⟩))] (.tree 1 (l.map fun r=>iA r.t)):=by
 have:=waiting_h l v b hb hl hv
 rw [show isA (l.map (·.t))=.tree 1 (l.map fun r=>iA r.t) by unfold isA; rw [List.map_map]; rfl] at this
 exact this
theorem request2_h {n:Nat} (i:Nat) (l:List PReq) (v:Nat) (b:Bool) (hi:i < l.length) (hb:b=true→l=[]) (hl:l.length≤1000) (hv:v≤1000) (hq:QInv l n):HCall Tryz.prog 14 [.ptr TOP 0 0,.v (.int .i64 l[i].t)] [(TOP,⟨0,[.sl (TOP+1) v 0 l.length],0,false⟩),(TOP+1,⟨v,rF rqA l,2,b⟩)] [(TOP,some (⟨0,[.sl (TOP+1) v 0 l.length],0,false⟩)),(TOP+1,some (⟨v,rF rqA l,2,b⟩))] (.tup [.tree 5 (l[i].l.map acA),.v (.bool true)]):=by
 have:=request_h l[i].t l v b hb hl hv hq.qok
 rw [req_yes (find_at hq hi) hi,(rem_yes (find_at hq hi)).1] at this
 exact this
structure LS2 where
 k:Nat
 L:List PPred
 v:Nat
structure LSt where
 k:Nat
 v1:Nat
 v2:Nat
 b1:Bool
 b2:Bool
theorem step_rm {l:List POp} {k:Nat} {t:Int} {a:List PAcc} (h:k < l.length) (e:l[k]=⟨true,t,a⟩):remL (qAt l k) t=qAt l (k+1):=by rw [qAt_next h,e]; rfl
theorem step_pu {l:List POp} {k:Nat} {t:Int} {a:List PAcc} (h:k < l.length) (e:l[k]=⟨false,t,a⟩):pushL (qAt l k) t a=qAt l (k+1):=by rw [qAt_next h,e]; rfl
theorem pushV_le {l:List PReq} {t:Int} {a:List PAcc} {v:Nat}:v≤pushV l t a v∧pushV l t a v≤v+1:=by unfold pushV; split <;> omega
theorem pushF_ok {l:List PReq} {t:Int} {a:List PAcc} {b:Bool} (h:b=true→l=[]):pushF l t a b=true→pushL l t a=[]:=by
 unfold pushF pushL
 split
 ·intro h; cases h
 ·exact h
theorem remF_ok {l:List PReq} {t:Int} {b:Bool} (h:b=true→l=[]):remF l t b=true→remL l t=[]:=by
 unfold remF
 split
 ·rename_i h0
  rw [(rem_no h0).2]; exact h
 ·intro h1
  exact List.eq_nil_of_length_eq_zero (Nat.eq_of_beq_eq_true h1)
theorem remb_ok {l:List PReq} {t:Int} {b:Bool} (h:b=true→l=[]):b=true→remL l t=[]:=fun hb=>by
 have e:=h hb
 subst e
 exact List.sublist_nil.1 (rem_sub [] t)
theorem put_rqX {l:List PReq} {v i:Nat} {b:Bool} (hb:b=false) (h:i < l.length):(Blk.mk v (rF rqA l) 2 b)=⟨v,rF rqA (l.take i)++(rqA l[i]++rF rqA (l.drop (i+1))),2,false⟩:=by rw [hb,← rF_at h]
theorem allO {l:List POp} {k:Nat} (hk:k≤l.length) (hge:¬ k < l.length) (h:∀ j,j < k→goodO (l.getD j default)):∀ o∈l,goodO o:=fun o ho=>by
 obtain ⟨j,hj,rfl⟩:=List.getElem_of_mem ho
 have:=h j (by omega)
 rwa [getD_at hj] at this
theorem bod10:bodied Tryz.prog 10=true:=by kernel_rfl
theorem bod11:bodied Tryz.prog 11=true:=by kernel_rfl
theorem bod12:bodied Tryz.prog 12=true:=by kernel_rfl
theorem bod13:bodied Tryz.prog 13=true:=by kernel_rfl
theorem bod14:bodied Tryz.prog 14=true:=by kernel_rfl
theorem bod15:bodied Tryz.prog 15=true:=by kernel_rfl
theorem bod4:bodied Tryz.prog 4=true:=by kernel_rfl
theorem bod5:bodied Tryz.prog 5=true:=by kernel_rfl
theorem bod8:bodied Tryz.prog 8=true:=by kernel_rfl
theorem bod9:bodied Tryz.prog 9=true:=by kernel_rfl
theorem by37:(Tryz.prog.info? 37).map (·.bytes)=some 64:=by kernel_rfl
theorem fi33_0:fieldInfo Tryz.prog 33 0=some (0,1):=by kernel_rfl
theorem fi33_1:fieldInfo Tryz.prog 33 1=some (1,1):=by kernel_rfl
theorem fi33_2:fieldInfo Tryz.prog 33 2=some (2,1):=by kernel_rfl
theorem fi51_1:fieldInfo Tryz.prog 51 1=some (1,1):=by kernel_rfl
theorem pl29:placesOf Tryz.prog 29=some [(0,1)]:=by kernel_rfl
theorem row33:rowOf Tryz.prog 33=some (some 3):=by kernel_rfl
theorem sz33:sizeInfo Tryz.prog 33=some 3:=by kernel_rfl
theorem zr29:zeroOf Tryz.prog 29=some (.agg #[.slice none 0 0]):=by kernel_rfl
theorem zr33:zeroOf Tryz.prog 33=some (.agg #[.bool false,.int .i64 0,.slice none 0 0]):=by kernel_rfl
set_option maxRecDepth 100000 in
set_option maxHeartbeats 4000000 in
theorem law_p (l:List POp) (hln:l.length≤140737488355328) (hF:∀ o∈l,∀ a∈o.l,o.l.length≤140737488355328∧a.p.Fits∧a.p.R) (hL2:∀ o∈l,o.l.length≤140737488355328) (awake_p:PCall Tryz.prog 4 [] (.v (.bool true))):PCall Tryz.prog 3 [.tree 3 (l.map opA)] (.v (.bool true)):=by
 refine pB Tryz.func3 rfl Tryz.ntmps3 (Nat.le_of_ble_eq_true rfl) ?_
 refine wS (wR ?_)
 refine oL (lA (a:=.v _) rfl) rfl rfl ?_
 refine oN (aN (wS (wS (wR ?_))))
 refine oL (LOp.call bod4 rfl awake_p) rfl rfl ?_
 refine oL (lP rfl (fun _ _=>nofun) (fun _=>rfl)) rfl rfl ?_
 refine oL (lM (a:=.v _) rfl) rfl rfl ?_
 refine oL (lM (a:=.tree _ _) rfl) rfl rfl ?_
 refine oL (lT rfl Tryz.underlying22 rfl) rfl rfl ?_
 refine oL (lP rfl (fun _ _=>nofun) (fun _=>rfl)) rfl rfl ?_
 refine oL (lK rfl rfl rfl) rfl rfl ?_
 refine oN (aN ?_)
 refine wC rfl (fun hc27=>?_) (fun hc27=>?_)
 ·skip
  refine wS (wR ?_)
  refine oL (LOp.call bod4 rfl awake_p) rfl rfl ?_
  refine oL (lA (a:=.v _) rfl) rfl rfl ?_
  refine oN (aN ?_)
  refine wT (aR (?_))
  refine ⟨.inr rfl,oV Tryz.results3 rfl rfl ?_⟩
  rfl
 ·skip
  have hn40:l.length≤40:=by have:=of_decide_eq_false hc27; omega
  refine wK (aN (wS (wR ?_)))
  refine AOps.gv (LOp.callH [(0,0)] bod5 new_h rfl rfl rfl rfl trivial trivial ⟨rfl,trivial⟩ rfl rfl rfl rfl rfl rfl) rfl rfl 1 rfl rfl ?_
  refine oL (LOp.bd zr29 pl29 rfl rfl) rfl rfl ?_
  refine oW (LOp.bx rfl) rfl rfl 2 rfl ?_
  refine oL (lA (a:=.ptr _ _ _) rfl) rfl rfl ?_
  refine oL (lA (a:=.ptr _ _ _) rfl) rfl rfl ?_
  refine oN (aN (wS (wS ?_)))
  refine AWP.lazyC 0 0 2 rfl rfl rfl rfl rfl 3 rfl ?_
  refine AWP.lazyC 1 0 2 rfl rfl rfl rfl rfl 4 rfl ?_
  refine wR ?_
  refine oL (lM (a:=.ptr _ _ _) rfl) rfl rfl ?_
  refine oL (LOp.eqNilP Tryz.underlying24 rfl rfl rfl rfl) rfl rfl ?_
  refine oN (aN ?_)
  refine AWP.condF rfl ?_
  refine wK (aN (wS (wR ?_)))
  refine oL (lA (a:=.v _) rfl) rfl rfl ?_
  refine oN (aN (wS (wS (wR ?_))))
  refine oL (lM (a:=.tree _ _) rfl) rfl rfl ?_
  refine oL (lT rfl Tryz.underlying22 rfl) rfl rfl ?_
  refine oL (lM (a:=.v _) rfl) rfl rfl ?_
  refine oN (aN (wB ?_))
  refine AWP.lazyT 5 4 rfl 5 rfl ?_
  refine wL (fun n s=>∃ k:LS2,n=(l.length - k.k)∧s=⟨fL [(0,.tree 3 (l.map opA)),(3,.ptr 0 0 0),(4,.ptr 1 0 0),(5,.sl 4 k.v 0 k.L.length),(34,.tree 3 (l.map opA)),(35,.v (.int .i64 ((l.length:Nat):Int))),(36,.v (.int .i64 ((k.k:Nat):Int)))],hLz [(0,⟨0,[.sl 2 0 0 0],0,false⟩),(1,⟨0,[.sl 3 0 0 0],0,false⟩),(2,⟨0,[],2,true⟩),(3,⟨0,[],2,true⟩),(4,⟨k.v,rF prA k.L,4,Nat.beq k.L.length 0⟩)],5⟩∧(k.k≤l.length∧(∀ j,j < k.k→goodO (l.getD j default))∧(∀ p∈k.L,p.Ok∧p.Fits)∧k.L.length≤4 * k.k∧k.v≤4 * k.k)) (n:=(l.length - (⟨0,[],0⟩:LS2).k)) (s1:=⟨fL [(0,.tree 3 (l.map opA)),(3,.ptr 0 0 0),(4,.ptr 1 0 0),(5,.sl 4 (⟨0,[],0⟩:LS2).v 0 (⟨0,[],0⟩:LS2).L.length),(34,.tree 3 (l.map opA)),(35,.v (.int .i64 ((l.length:Nat):Int))),(36,.v (.int .i64 (((⟨0,[],0⟩:LS2).k:Nat):Int)))],hLz [(0,⟨0,[.sl 2 0 0 0],0,false⟩),(1,⟨0,[.sl 3 0 0 0],0,false⟩),(2,⟨0,[],2,true⟩),(3,⟨0,[],2,true⟩),(4,⟨(⟨0,[],0⟩:LS2).v,rF prA (⟨0,[],0⟩:LS2).L,4,Nat.beq (⟨0,[],0⟩:LS2).L.length 0⟩)],5⟩) (cO (.cons rfl rfl (.cons rfl rfl (.cons rfl rfl (.cons rfl rfl (.cons rfl rfl (.cons rfl rfl (.cons rfl rfl .nil))))))) (.cons rfl rfl rfl (.cons rfl rfl rfl (.cons rfl rfl rfl (.cons rfl rfl rfl (.cons rfl rfl (rF_low rowPr _ _) .nil)))))) ⟨(⟨0,[],0⟩:LS2),rfl,rfl,⟨Nat.zero_le _,fun j h=>absurd h (Nat.not_lt_zero j),by simp,by simp,Nat.le_refl _⟩⟩ ?_
  rintro n s ⟨k,rfl,rfl,hinv⟩
  obtain ⟨hk,hgo,hall,hlen,hver⟩:=hinv
  refine wS (wR ?_)
  refine oL (lP rfl (fun _ _=>nofun) (fun _=>rfl)) rfl rfl ?_
  refine oN (aN (wS ?_))
  refine wC rfl (fun hc37=>?_) (fun hc37=>?_)
  ·skip
   have hlt:k.k < l.length:=Int.ofNat_lt.1 (of_decide_eq_true hc37)
   refine wK (aN (wS (wB (wS (wR ?_)))))
   refine oL (lI Tryz.underlying22 sz33 rfl rfl (by first | assumption | omega)) rfl rfl ?_
   refine oL (LOp.ldTN row33 rfl rfl) rfl rfl ?_
   refine oW (LOp.al zr33 rfl) rfl rfl 6 rfl ?_
   refine AOps.wr (LOp.st sz33 rfl rfl rfl rfl rfl rfl rfl rfl) rfl rfl rfl ?_
   refine oN (aN (wS (wS (wR ?_))))
   refine oL (lF fi33_2 rfl rfl rfl rfl rfl) rfl rfl ?_
   refine oL (lD row31 rfl rfl rfl rfl rfl) rfl rfl ?_
   refine oL (lT rfl Tryz.underlying31 rfl) rfl rfl ?_
   refine oL (lP rfl (fun _ _=>nofun) (fun _=>rfl)) rfl rfl ?_
   refine oN (aN ?_)
   refine wC rfl (fun hc43=>?_) (fun hc43=>?_)
   ·skip
    refine wS (wR ?_)
    refine oL (lA (a:=.v _) rfl) rfl rfl ?_
    refine oN (aN ?_)
    refine wT (aR (bR (aR (aR (bR (aR (?_)))))))
    refine ⟨.inr rfl,oV Tryz.results3 rfl rfl ?_⟩
    rfl
   ·skip
    have h4:l[k.k].l.length≤4:=by have:=of_decide_eq_false hc43; omega
    refine wK (aN (wS (wR ?_)))
    refine oL (lF fi33_2 rfl rfl rfl rfl rfl) rfl rfl ?_
    refine oL (lD row31 rfl rfl rfl rfl rfl) rfl rfl ?_
    refine oL (lT rfl Tryz.underlying31 rfl) rfl rfl ?_
    refine oL (lM (a:=.v _) rfl) rfl rfl ?_
    refine oN (aN (wB ?_))
    refine wL (fun n s=>∃ k2:LS2,n=(l[k.k].l.length - k2.k)∧s=⟨fL [(0,.tree 3 (l.map opA)),(3,.ptr 0 0 0),(4,.ptr 1 0 0),(5,.sl 4 k2.v 0 k2.L.length),(7,.ptr 5 0 0),(34,.tree 3 (l.map opA)),(35,.v (.int .i64 ((l.length:Nat):Int))),(36,.v (.int .i64 ((k.k:Nat):Int))),(45,.tree 5 (l[k.k].l.map acA)),(46,.v (.int .i64 ((l[k.k].l.length:Nat):Int))),(47,.v (.int .i64 ((k2.k:Nat):Int)))],hLz [(0,⟨0,[.sl 2 0 0 0],0,false⟩),(1,⟨0,[.sl 3 0 0 0],0,false⟩),(2,⟨0,[],2,true⟩),(3,⟨0,[],2,true⟩),(4,⟨k2.v,rF prA k2.L,4,Nat.beq k2.L.length 0⟩),(5,⟨0,opA l[k.k],0,false⟩)],6⟩∧(k2.k≤l[k.k].l.length∧(∀ j,j < k2.k→((l[k.k].l.getD j default).p.Ok))∧(∀ p∈k2.L,p.Ok∧p.Fits)∧k2.L.length≤4 * k.k+k2.k∧k2.v≤4 * k.k+k2.k)) (n:=(l[k.k].l.length - (⟨0,k.L,k.v⟩:LS2).k)) (s1:=⟨fL [(0,.tree 3 (l.map opA)),(3,.ptr 0 0 0),(4,.ptr 1 0 0),(5,.sl 4 (⟨0,k.L,k.v⟩:LS2).v 0 (⟨0,k.L,k.v⟩:LS2).L.length),(7,.ptr 5 0 0),(34,.tree 3 (l.map opA)),(35,.v (.int .i64 ((l.length:Nat):Int))),(36,.v (.int .i64 ((k.k:Nat):Int))),(45,.tree 5 (l[k.k].l.map acA)),(46,.v (.int .i64 ((l[k.k].l.length:Nat):Int))),(47,.v (.int .i64 (((⟨0,k.L,k.v⟩:LS2).k:Nat):Int)))],hLz [(0,⟨0,[.sl 2 0 0 0],0,false⟩),(1,⟨0,[.sl 3 0 0 0],0,false⟩),(2,⟨0,[],2,true⟩),(3,⟨0,[],2,true⟩),(4,⟨(⟨0,k.L,k.v⟩:LS2).v,rF prA (⟨0,k.L,k.v⟩:LS2).L,4,Nat.beq (⟨0,k.L,k.v⟩:LS2).L.length 0⟩),(5,⟨0,opA l[k.k],0,false⟩)],6⟩) (cO (.cons rfl rfl (.cons rfl rfl (.cons rfl rfl (.cons rfl rfl (.cons rfl rfl (.cons rfl rfl (.cons rfl rfl (.cons rfl rfl (.cons rfl rfl (.cons rfl rfl (.cons rfl rfl .nil))))))))))) (.cons rfl rfl rfl (.cons rfl rfl rfl (.cons rfl rfl rfl (.cons rfl rfl rfl (.cons rfl rfl (rF_low rowPr _ _) (.cons rfl rfl rfl .nil))))))) ⟨(⟨0,k.L,k.v⟩:LS2),rfl,rfl,⟨Nat.zero_le _,fun j h=>absurd h (Nat.not_lt_zero j),hall,hlen,hver⟩⟩ ?_
    rintro n s ⟨k2,rfl,rfl,hinv⟩
    obtain ⟨hk2,hgo2,hall2,hlen2,hver2⟩:=hinv
    refine wS (wR ?_)
    refine oL (lP rfl (fun _ _=>nofun) (fun _=>rfl)) rfl rfl ?_
    refine oN (aN (wS ?_))
    refine wC rfl (fun hc48=>?_) (fun hc48=>?_)
    ·skip
     have hlt2:k2.k < l[k.k].l.length:=Int.ofNat_lt.1 (of_decide_eq_true hc48)
     refine wK (aN (wS (wB (wS (wR ?_)))))
     refine oL (lI Tryz.underlying31 sz39 rfl rfl (by first | assumption | omega)) rfl rfl ?_
     refine oL (LOp.ldTN row39 rfl rfl) rfl rfl ?_
     refine oW (LOp.al zr39 rfl) rfl rfl 7 rfl ?_
     refine AOps.wr (LOp.st sz39 rfl rfl rfl rfl rfl rfl rfl rfl) rfl rfl rfl ?_
     refine oN (aN (wS (wS (wR ?_))))
     refine oL (lF fi39_1 rfl rfl rfl rfl rfl) rfl rfl ?_
     refine oL (LOp.ldN row37 rfl rfl rfl rfl rfl) rfl rfl ?_
     refine oL (LOp.call bod6 rfl (fewp_p l[k.k].l[k2.k].p (hF _ (List.getElem_mem hlt) _ (List.getElem_mem hlt2)).2.1)) rfl rfl ?_
     refine oL (lP rfl (fun _ _=>nofun) (fun _=>rfl)) rfl rfl ?_
     refine oN (aN ?_)
     refine wC rfl (fun hc54=>?_) (fun hc54=>?_)
     ·skip
      refine wS (wR ?_)
      refine oL (lA (a:=.v _) rfl) rfl rfl ?_
      refine oN (aN ?_)
      refine wT (aR (bR (aR (aR (bR (bR (aR (aR (bR (aR (?_)))))))))))
      refine ⟨.inr rfl,oV Tryz.results3 rfl rfl ?_⟩
      rfl
     ·skip
      have hpo:=fewP_ok (p:=l[k.k].l[k2.k].p) (by simpa using hc54)
      have hgn:∀ j,j < k2.k+1→(l[k.k].l.getD j default).p.Ok:=fun j h=>by
       rcases Nat.lt_succ_iff_lt_or_eq.1 h with h | rfl
       ·exact hgo2 j h
       ·rw [getD_at hlt2]; exact hpo.1
      refine wK (aN (wS (wR ?_)))
      refine oL (lF fi39_1 rfl rfl rfl rfl rfl) rfl rfl ?_
      refine oL (LOp.ldN row37 rfl rfl rfl rfl rfl) rfl rfl ?_
      refine oL (lF fi39_1 rfl rfl rfl rfl rfl) rfl rfl ?_
      refine oL (lF fi37_1 rfl rfl rfl rfl rfl) rfl rfl ?_
      refine oL (lD row3 rfl rfl rfl rfl rfl) rfl rfl ?_
      refine oL (LOp.call bod7 rfl (ref_p l[k.k].l[k2.k].p l[k.k].l[k2.k].p.cols hpo.1)) rfl rfl ?_
      refine oN (aN ?_)
      refine wC rfl (fun hc60=>?_) (fun hc60=>?_)
      ·skip
       -- valid
       have hap:∀ p∈k2.L++[l[k.k].l[k2.k].p],p.Ok∧p.Fits:=fun p hp=>by
        rcases List.mem_append.1 hp with hp | hp
        ·exact hall2 p hp
        ·rw [List.mem_singleton.1 hp]; exact ⟨hpo.1,(hF _ (List.getElem_mem hlt) _ (List.getElem_mem hlt2)).2.1⟩
       refine wR ?_
       refine oL (lM (a:=.sl _ _ _ _) rfl) rfl rfl ?_
       refine oL (lF fi39_1 rfl rfl rfl rfl rfl) rfl rfl ?_
       refine oL (LOp.ldN row37 rfl rfl rfl rfl rfl) rfl rfl ?_
       refine oW (LOp.bs Tryz.underlying30 sz37 zr37 rfl rfl rfl rfl) rfl rfl 8 rfl ?_
       refine AOps.gv (LOp.appRow rowPr (a:=l[k.k].l[k2.k].p) Tryz.underlying30 sz37 zr37 by37 rfl rfl rfl (Src.slB rfl rfl rfl rfl) rfl (by omega) (by omega) (by unfold TV; omega)) rfl rfl 8 rfl rfl ?_
       refine oL (lA (a:=.sl _ _ _ _) rfl) rfl rfl ?_
       refine oN (bN (aN (wR ?_)))
       refine oL (lJ rfl rfl (by omega) (by omega)) rfl rfl ?_
       refine oL (lM (a:=.v _) rfl) rfl rfl ?_
       refine oN (aN ?_)
       refine ⟨(l[k.k].l.length - (⟨k2.k+1,k2.L++[l[k.k].l[k2.k].p],k2.v+1⟩:LS2).k),⟨fL [(0,.tree 3 (l.map opA)),(3,.ptr 0 0 0),(4,.ptr 1 0 0),(5,.sl 4 (⟨k2.k+1,k2.L++[l[k.k].l[k2.k].p],k2.v+1⟩:LS2).v 0 (⟨k2.k+1,k2.L++[l[k.k].l[k2.k].p],k2.v+1⟩:LS2).L.length),(7,.ptr 5 0 0),(34,.tree 3 (l.map opA)),(35,.v (.int .i64 ((l.length:Nat):Int))),(36,.v (.int .i64 ((k.k:Nat):Int))),(45,.tree 5 (l[k.k].l.map acA)),(46,.v (.int .i64 ((l[k.k].l.length:Nat):Int))),(47,.v (.int .i64 (((⟨k2.k+1,k2.L++[l[k.k].l[k2.k].p],k2.v+1⟩:LS2).k:Nat):Int)))],hLz [(0,⟨0,[.sl 2 0 0 0],0,false⟩),(1,⟨0,[.sl 3 0 0 0],0,false⟩),(2,⟨0,[],2,true⟩),(3,⟨0,[],2,true⟩),(4,⟨(⟨k2.k+1,k2.L++[l[k.k].l[k2.k].p],k2.v+1⟩:LS2).v,rF prA (⟨k2.k+1,k2.L++[l[k.k].l[k2.k].p],k2.v+1⟩:LS2).L,4,Nat.beq (⟨k2.k+1,k2.L++[l[k.k].l[k2.k].p],k2.v+1⟩:LS2).L.length 0⟩),(5,⟨0,opA l[k.k],0,false⟩)],6⟩,(by show l[k.k].l.length - (k2.k+1) < l[k.k].l.length - k2.k; omega),(cO (.cons rfl rfl (.cons rfl rfl (.cons rfl rfl (.cons rfl rfl (.cons rfl rfl (.cons rfl rfl (.cons rfl rfl (.cons rfl rfl (.cons rfl rfl (.cons rfl rfl (.cons rfl rfl .nil))))))))))) (.cons rfl rfl rfl (.cons rfl rfl rfl (.cons rfl rfl rfl (.cons rfl rfl rfl (.cons rfl rfl (rF_low rowPr _ _) (.cons rfl rfl rfl .nil))))))),(⟨k2.k+1,k2.L++[l[k.k].l[k2.k].p],k2.v+1⟩:LS2),rfl,rfl,?_⟩
       first
       | exact ⟨by show k2.k+1≤_; omega,hgn,hall2,by show k2.L.length≤4 * k.k+(k2.k+1); omega,by show k2.v≤4 * k.k+(k2.k+1); omega⟩
       | exact ⟨by show k2.k+1≤_; omega,hgn,hap,by show (k2.L++[_]).length≤4 * k.k+(k2.k+1); rw [List.length_append]; simp only [List.length_singleton]; omega,by show k2.v+1≤4 * k.k+(k2.k+1); omega⟩
      ·skip
       -- invalid
       refine wK (bN (aN (wR ?_)))
       refine oL (lJ rfl rfl (by omega) (by omega)) rfl rfl ?_
       refine oL (lM (a:=.v _) rfl) rfl rfl ?_
       refine oN (aN ?_)
       refine ⟨(l[k.k].l.length - (⟨k2.k+1,k2.L,k2.v⟩:LS2).k),⟨fL [(0,.tree 3 (l.map opA)),(3,.ptr 0 0 0),(4,.ptr 1 0 0),(5,.sl 4 (⟨k2.k+1,k2.L,k2.v⟩:LS2).v 0 (⟨k2.k+1,k2.L,k2.v⟩:LS2).L.length),(7,.ptr 5 0 0),(34,.tree 3 (l.map opA)),(35,.v (.int .i64 ((l.length:Nat):Int))),(36,.v (.int .i64 ((k.k:Nat):Int))),(45,.tree 5 (l[k.k].l.map acA)),(46,.v (.int .i64 ((l[k.k].l.length:Nat):Int))),(47,.v (.int .i64 (((⟨k2.k+1,k2.L,k2.v⟩:LS2).k:Nat):Int)))],hLz [(0,⟨0,[.sl 2 0 0 0],0,false⟩),(1,⟨0,[.sl 3 0 0 0],0,false⟩),(2,⟨0,[],2,true⟩),(3,⟨0,[],2,true⟩),(4,⟨(⟨k2.k+1,k2.L,k2.v⟩:LS2).v,rF prA (⟨k2.k+1,k2.L,k2.v⟩:LS2).L,4,Nat.beq (⟨k2.k+1,k2.L,k2.v⟩:LS2).L.length 0⟩),(5,⟨0,opA l[k.k],0,false⟩)],6⟩,(by show l[k.k].l.length - (k2.k+1) < l[k.k].l.length - k2.k; omega),(cO (.cons rfl rfl (.cons rfl rfl (.cons rfl rfl (.cons rfl rfl (.cons rfl rfl (.cons rfl rfl (.cons rfl rfl (.cons rfl rfl (.cons rfl rfl (.cons rfl rfl (.cons rfl rfl .nil))))))))))) (.cons rfl rfl rfl (.cons rfl rfl rfl (.cons rfl rfl rfl (.cons rfl rfl rfl (.cons rfl rfl (rF_low rowPr _ _) (.cons rfl rfl rfl .nil))))))),(⟨k2.k+1,k2.L,k2.v⟩:LS2),rfl,rfl,?_⟩
       first
       | exact ⟨by show k2.k+1≤_; omega,hgn,hall2,by show k2.L.length≤4 * k.k+(k2.k+1); omega,by show k2.v≤4 * k.k+(k2.k+1); omega⟩
       | exact ⟨by show k2.k+1≤_; omega,hgn,hap,by show (k2.L++[_]).length≤4 * k.k+(k2.k+1); rw [List.length_append]; simp only [List.length_singleton]; omega,by show k2.v+1≤4 * k.k+(k2.k+1); omega⟩
    ·skip
     have hge2:¬ k2.k < l[k.k].l.length:=fun h=>of_decide_eq_false hc48 (Int.ofNat_lt.2 h)
     have hgood2:∀ a∈l[k.k].l,a.p.Ok:=fun a ha=>by
      obtain ⟨j,hj,rfl⟩:=List.getElem_of_mem ha
      have:=hgo2 j (by omega)
      rwa [getD_at hj] at this
     refine AWP.exit (aE (aE (bE ?_)))
     refine bN (aN (wR ?_))
     refine oL (lJ rfl rfl (by omega) (by omega)) rfl rfl ?_
     refine oL (lM (a:=.v _) rfl) rfl rfl ?_
     refine oN (aN ?_)
     refine ⟨(l.length - (⟨k.k+1,k2.L,k2.v⟩:LS2).k),⟨fL [(0,.tree 3 (l.map opA)),(3,.ptr 0 0 0),(4,.ptr 1 0 0),(5,.sl 4 (⟨k.k+1,k2.L,k2.v⟩:LS2).v 0 (⟨k.k+1,k2.L,k2.v⟩:LS2).L.length),(34,.tree 3 (l.map opA)),(35,.v (.int .i64 ((l.length:Nat):Int))),(36,.v (.int .i64 (((⟨k.k+1,k2.L,k2.v⟩:LS2).k:Nat):Int)))],hLz [(0,⟨0,[.sl 2 0 0 0],0,false⟩),(1,⟨0,[.sl 3 0 0 0],0,false⟩),(2,⟨0,[],2,true⟩),(3,⟨0,[],2,true⟩),(4,⟨(⟨k.k+1,k2.L,k2.v⟩:LS2).v,rF prA (⟨k.k+1,k2.L,k2.v⟩:LS2).L,4,Nat.beq (⟨k.k+1,k2.L,k2.v⟩:LS2).L.length 0⟩)],5⟩,(by show l.length - (k.k+1) < l.length - k.k; omega),(cO (.cons rfl rfl (.cons rfl rfl (.cons rfl rfl (.cons rfl rfl (.cons rfl rfl (.cons rfl rfl (.cons rfl rfl .nil))))))) (.cons rfl rfl rfl (.cons rfl rfl rfl (.cons rfl rfl rfl (.cons rfl rfl rfl (.cons rfl rfl (rF_low rowPr _ _) .nil)))))),(⟨k.k+1,k2.L,k2.v⟩:LS2),rfl,rfl,?_⟩
     refine ⟨by show k.k+1≤_; omega,fun j h=>?_,hall2,by show k2.L.length≤4 * (k.k+1); omega,by show k2.v≤4 * (k.k+1); omega⟩
     rcases Nat.lt_succ_iff_lt_or_eq.1 h with h | rfl
     ·exact hgo j h
     ·rw [getD_at hlt]; exact ⟨by omega,fun a ha=>hgood2 a ha⟩
  ·skip
   have hge:¬ k.k < l.length:=fun h=>of_decide_eq_false hc37 (Int.ofNat_lt.2 h)
   refine AWP.exit (aE (aE (bE ?_)))
   refine aN (wS (wS ?_))
   have hgood:=allO hk hge hgo
   refine AWP.freeze [4] 5 (.tree 4 (k.L.map prA)) (FzP.rows rowPr (List.mem_singleton.2 rfl) rfl) rfl ?_
   refine wR ?_
   refine oL (lM (a:=.tree _ _) rfl) rfl rfl ?_
   refine oL (lT rfl Tryz.underlying30 rfl) rfl rfl ?_
   refine oL (lM (a:=.v _) rfl) rfl rfl ?_
   refine oN (aN (wB ?_))
   refine wL (fun n s=>∃ i:Nat,n=(k.L.length - i)∧s=⟨fL [(0,.tree 3 (l.map opA)),(3,.ptr 0 0 0),(4,.ptr 1 0 0),(5,.tree 4 (k.L.map prA)),(68,.tree 4 (k.L.map prA)),(69,.v (.int .i64 ((k.L.length:Nat):Int))),(70,.v (.int .i64 ((i:Nat):Int)))],hLz [(0,⟨0,[.sl 2 0 0 0],0,false⟩),(1,⟨0,[.sl 3 0 0 0],0,false⟩),(2,⟨0,[],2,true⟩),(3,⟨0,[],2,true⟩)],5⟩∧(i≤k.L.length∧∀ j,j < i→(fun _=>true) j=true)) (n:=(k.L.length - 0)) (s1:=⟨fL [(0,.tree 3 (l.map opA)),(3,.ptr 0 0 0),(4,.ptr 1 0 0),(5,.tree 4 (k.L.map prA)),(68,.tree 4 (k.L.map prA)),(69,.v (.int .i64 ((k.L.length:Nat):Int))),(70,.v (.int .i64 ((0:Nat):Int)))],hLz [(0,⟨0,[.sl 2 0 0 0],0,false⟩),(1,⟨0,[.sl 3 0 0 0],0,false⟩),(2,⟨0,[],2,true⟩),(3,⟨0,[],2,true⟩)],5⟩) (cO (.cons rfl rfl (.cons rfl rfl (.cons rfl rfl (.cons rfl rfl (.cons rfl rfl (.cons rfl rfl (.cons rfl rfl .nil))))))) (.cons rfl rfl rfl (.cons rfl rfl rfl (.cons rfl rfl rfl (.cons rfl rfl rfl .nil))))) ⟨0,rfl,rfl,⟨Nat.zero_le _,fun j h=>absurd h (Nat.not_lt_zero j)⟩⟩ ?_
   rintro n s ⟨i,rfl,rfl,hinv⟩
   obtain ⟨hk4,_⟩:=hinv
   refine wS (wR ?_)
   refine oL (lP rfl (fun _ _=>nofun) (fun _=>rfl)) rfl rfl ?_
   refine oN (aN (wS ?_))
   refine wC rfl (fun hc71=>?_) (fun hc71=>?_)
   ·skip
    have hlt4:i < k.L.length:=Int.ofNat_lt.1 (of_decide_eq_true hc71)
    refine wK (aN (wS (wB (wS (wR ?_)))))
    refine oL (lM (a:=.v _) rfl) rfl rfl ?_
    refine oL (lA (a:=.v _) rfl) rfl rfl ?_
    refine oN (aN (wS (wR ?_)))
    refine oL (lM (a:=.tree _ _) rfl) rfl rfl ?_
    refine oL (lM (a:=.v _) rfl) rfl rfl ?_
    refine oL (LOp.takeT2 Tryz.underlying30 sz37 rfl rfl rfl (Nat.le_of_lt hlt4)) rfl rfl ?_
    refine oL (lT rfl Tryz.underlying30 rfl) rfl rfl ?_
    refine oL (lM (a:=.v _) rfl) rfl rfl ?_
    refine oN (aN (wB ?_))
    refine wL (fun n s=>∃ i2:Nat,n=((k.L.take i).length - i2)∧s=⟨fL [(0,.tree 3 (l.map opA)),(3,.ptr 0 0 0),(4,.ptr 1 0 0),(5,.tree 4 (k.L.map prA)),(10,.v (.int .i64 ((i:Nat):Int))),(68,.tree 4 (k.L.map prA)),(69,.v (.int .i64 ((k.L.length:Nat):Int))),(70,.v (.int .i64 ((i:Nat):Int))),(75,.tree 4 ((k.L.take i).map prA)),(76,.v (.int .i64 (((k.L.take i).length:Nat):Int))),(77,.v (.int .i64 ((i2:Nat):Int)))],hLz [(0,⟨0,[.sl 2 0 0 0],0,false⟩),(1,⟨0,[.sl 3 0 0 0],0,false⟩),(2,⟨0,[],2,true⟩),(3,⟨0,[],2,true⟩)],5⟩∧(i2≤(k.L.take i).length∧∀ j,j < i2→(fun _=>true) j=true)) (n:=((k.L.take i).length - 0)) (s1:=⟨fL [(0,.tree 3 (l.map opA)),(3,.ptr 0 0 0),(4,.ptr 1 0 0),(5,.tree 4 (k.L.map prA)),(10,.v (.int .i64 ((i:Nat):Int))),(68,.tree 4 (k.L.map prA)),(69,.v (.int .i64 ((k.L.length:Nat):Int))),(70,.v (.int .i64 ((i:Nat):Int))),(75,.tree 4 ((k.L.take i).map prA)),(76,.v (.int .i64 (((k.L.take i).length:Nat):Int))),(77,.v (.int .i64 ((0:Nat):Int)))],hLz [(0,⟨0,[.sl 2 0 0 0],0,false⟩),(1,⟨0,[.sl 3 0 0 0],0,false⟩),(2,⟨0,[],2,true⟩),(3,⟨0,[],2,true⟩)],5⟩) (cO (.cons rfl rfl (.cons rfl rfl (.cons rfl rfl (.cons rfl rfl (.cons rfl rfl (.cons rfl rfl (.cons rfl rfl (.cons rfl rfl (.cons rfl rfl (.cons rfl rfl (.cons rfl rfl .nil))))))))))) (.cons rfl rfl rfl (.cons rfl rfl rfl (.cons rfl rfl rfl (.cons rfl rfl rfl .nil))))) ⟨0,rfl,rfl,⟨Nat.zero_le _,fun j h=>absurd h (Nat.not_lt_zero j)⟩⟩ ?_
    rintro n s ⟨i2,rfl,rfl,hinv⟩
    obtain ⟨hk6,_⟩:=hinv
    refine wS (wR ?_)
    refine oL (lP rfl (fun _ _=>nofun) (fun _=>rfl)) rfl rfl ?_
    refine oN (aN (wS ?_))
    refine wC rfl (fun hc78=>?_) (fun hc78=>?_)
    ·skip
     have hlt6:i2 < (k.L.take i).length:=Int.ofNat_lt.1 (of_decide_eq_true hc78)
     have hlt6b:i2 < 1000:=by have:=hlt6; rw [List.length_take] at this; omega
     refine wK (aN (wS (wB (wS (wR ?_)))))
     refine oL (lI Tryz.underlying30 sz37 rfl rfl (by first | assumption | omega)) rfl rfl ?_
     refine oL (LOp.ldTN row37 rfl rfl) rfl rfl ?_
     refine oW (LOp.al zr37 rfl) rfl rfl 6 rfl ?_
     refine AOps.wr (LOp.st sz37 rfl rfl rfl rfl rfl rfl rfl rfl) rfl rfl rfl ?_
     refine oN (aN (wS (AWP.regD mixed ?_)))
     refine qL (LOp.ldN row37 rfl rfl rfl rfl rfl) rfl rfl ?_
     refine qL (lM (a:=.tree _ _) rfl) rfl rfl ?_
     refine qL (lM (a:=.v _) rfl) rfl rfl ?_
     refine qL (lI Tryz.underlying30 sz37 rfl rfl (by first | assumption | omega)) rfl rfl ?_
     refine qL (LOp.ldTN row37 rfl rfl) rfl rfl ?_
     refine qL (LOp.call bod8 rfl (comp_p ((k.L.take i)[i2]) (k.L[i]) (hall _ (List.mem_of_mem_take (List.getElem_mem _))).2 (hall _ (List.getElem_mem _)).2)) rfl rfl ?_
     refine qL (lP rfl (fun _ _=>nofun) (fun _=>rfl)) rfl rfl ?_
     refine SeqC.nil ⟨by kernel_rfl,?_⟩
     refine aN ?_
     refine wC rfl (fun hc87=>?_) (fun hc87=>?_)
     ·skip
      refine wS (wR ?_)
      refine oL (lA (a:=.v _) rfl) rfl rfl ?_
      refine oN (aN ?_)
      refine wT (bR (aR (aR (bR (bR (aR (aR (bR (aR (?_))))))))))
      refine ⟨.inr rfl,oV Tryz.results3 rfl rfl ?_⟩
      rfl
     ·skip
      refine wK (bN (aN (wR ?_)))
      refine oL (lJ rfl rfl (by omega) (by omega)) rfl rfl ?_
      refine oL (lM (a:=.v _) rfl) rfl rfl ?_
      refine oN (aN ?_)
      refine ⟨((k.L.take i).length - (i2+1)),⟨fL [(0,.tree 3 (l.map opA)),(3,.ptr 0 0 0),(4,.ptr 1 0 0),(5,.tree 4 (k.L.map prA)),(10,.v (.int .i64 ((i:Nat):Int))),(68,.tree 4 (k.L.map prA)),(69,.v (.int .i64 ((k.L.length:Nat):Int))),(70,.v (.int .i64 ((i:Nat):Int))),(75,.tree 4 ((k.L.take i).map prA)),(76,.v (.int .i64 (((k.L.take i).length:Nat):Int))),(77,.v (.int .i64 (((i2+1):Nat):Int)))],hLz [(0,⟨0,[.sl 2 0 0 0],0,false⟩),(1,⟨0,[.sl 3 0 0 0],0,false⟩),(2,⟨0,[],2,true⟩),(3,⟨0,[],2,true⟩)],5⟩,by omega,(cO (.cons rfl rfl (.cons rfl rfl (.cons rfl rfl (.cons rfl rfl (.cons rfl rfl (.cons rfl rfl (.cons rfl rfl (.cons rfl rfl (.cons rfl rfl (.cons rfl rfl (.cons rfl rfl .nil))))))))))) (.cons rfl rfl rfl (.cons rfl rfl rfl (.cons rfl rfl rfl (.cons rfl rfl rfl .nil))))),(i2+1),rfl,rfl,?_⟩
      exact ⟨by omega,fun j h=>rfl⟩
    ·skip
     refine AWP.exit (aE (aE (bE ?_)))
     refine bN (aN (wR ?_))
     refine oL (lJ rfl rfl (by omega) (by omega)) rfl rfl ?_
     refine oL (lM (a:=.v _) rfl) rfl rfl ?_
     refine oN (aN ?_)
     refine ⟨(k.L.length - (i+1)),⟨fL [(0,.tree 3 (l.map opA)),(3,.ptr 0 0 0),(4,.ptr 1 0 0),(5,.tree 4 (k.L.map prA)),(68,.tree 4 (k.L.map prA)),(69,.v (.int .i64 ((k.L.length:Nat):Int))),(70,.v (.int .i64 (((i+1):Nat):Int)))],hLz [(0,⟨0,[.sl 2 0 0 0],0,false⟩),(1,⟨0,[.sl 3 0 0 0],0,false⟩),(2,⟨0,[],2,true⟩),(3,⟨0,[],2,true⟩)],5⟩,by omega,(cO (.cons rfl rfl (.cons rfl rfl (.cons rfl rfl (.cons rfl rfl (.cons rfl rfl (.cons rfl rfl (.cons rfl rfl .nil))))))) (.cons rfl rfl rfl (.cons rfl rfl rfl (.cons rfl rfl rfl (.cons rfl rfl rfl .nil))))),(i+1),rfl,rfl,?_⟩
     exact ⟨by omega,fun j h=>rfl⟩
   ·skip
    refine AWP.exit (aE (aE (bE ?_)))
    refine aN (wS (wS (wR ?_)))
    refine oL (lM (a:=.tree _ _) rfl) rfl rfl ?_
    refine oL (lT rfl Tryz.underlying22 rfl) rfl rfl ?_
    refine oL (lM (a:=.v _) rfl) rfl rfl ?_
    refine oN (aN (wB ?_))
    refine wL (fun n s=>∃ z:LSt,n=(l.length - z.k)∧s=⟨fL [(0,.tree 3 (l.map opA)),(3,.ptr 0 0 0),(4,.ptr 1 0 0),(90,.tree 3 (l.map opA)),(91,.v (.int .i64 ((l.length:Nat):Int))),(92,.v (.int .i64 ((z.k:Nat):Int)))],hLz [(0,⟨0,[.sl 2 z.v1 0 (qAt l z.k).length],0,false⟩),(1,⟨0,[.sl 3 z.v2 0 (qAt l z.k).length],0,false⟩),(2,⟨z.v1,rF rqA (qAt l z.k),2,z.b1⟩),(3,⟨z.v2,rF rqA (qAt l z.k),2,z.b2⟩)],5⟩∧(z.k≤l.length∧z.v1≤4 * z.k∧z.v2≤4 * z.k∧(z.b1=true→(qAt l z.k)=[])∧(z.b2=true→(qAt l z.k)=[]))) (n:=(l.length - (⟨0,0,0,true,true⟩:LSt).k)) (s1:=⟨fL [(0,.tree 3 (l.map opA)),(3,.ptr 0 0 0),(4,.ptr 1 0 0),(90,.tree 3 (l.map opA)),(91,.v (.int .i64 ((l.length:Nat):Int))),(92,.v (.int .i64 (((⟨0,0,0,true,true⟩:LSt).k:Nat):Int)))],hLz [(0,⟨0,[.sl 2 (⟨0,0,0,true,true⟩:LSt).v1 0 (qAt l (⟨0,0,0,true,true⟩:LSt).k).length],0,false⟩),(1,⟨0,[.sl 3 (⟨0,0,0,true,true⟩:LSt).v2 0 (qAt l (⟨0,0,0,true,true⟩:LSt).k).length],0,false⟩),(2,⟨(⟨0,0,0,true,true⟩:LSt).v1,rF rqA (qAt l (⟨0,0,0,true,true⟩:LSt).k),2,(⟨0,0,0,true,true⟩:LSt).b1⟩),(3,⟨(⟨0,0,0,true,true⟩:LSt).v2,rF rqA (qAt l (⟨0,0,0,true,true⟩:LSt).k),2,(⟨0,0,0,true,true⟩:LSt).b2⟩)],5⟩) (cO (.cons rfl rfl (.cons rfl rfl (.cons rfl rfl (.cons rfl rfl (.cons rfl rfl (.cons rfl rfl .nil)))))) (.cons rfl rfl rfl (.cons rfl rfl rfl (.cons rfl rfl (rF_low rowRq _ _) (.cons rfl rfl (rF_low rowRq _ _) .nil))))) ⟨(⟨0,0,0,true,true⟩:LSt),rfl,rfl,⟨Nat.zero_le _,Nat.le_refl _,Nat.le_refl _,fun _=>rfl,fun _=>rfl⟩⟩ ?_
    rintro n s ⟨z,rfl,rfl,hinv⟩
    obtain ⟨hk8,hv1,hv2,hb1,hb2⟩:=hinv
    have hQ:=qAt_inv hgood z.k hk8
    have hQl:(qAt l z.k).length≤1000:=by have:=hQ.len; omega
    refine wS (wR ?_)
    refine oL (lP rfl (fun _ _=>nofun) (fun _=>rfl)) rfl rfl ?_
    refine oN (aN (wS ?_))
    refine wC rfl (fun hc93=>?_) (fun hc93=>?_)
    ·skip
     have hlt8:z.k < l.length:=Int.ofNat_lt.1 (of_decide_eq_true hc93)
     obtain ⟨o,ho⟩:∃ o,l[z.k]=o:=⟨_,rfl⟩
     refine wK (aN (wS (wB (wS (wR ?_)))))
     refine oL (LOp.indexTo Tryz.underlying22 sz33 rfl rfl hlt8 ho) rfl rfl ?_
     refine oL (LOp.ldTN row33 rfl rfl) rfl rfl ?_
     refine oW (LOp.al zr33 rfl) rfl rfl 6 rfl ?_
     refine AOps.wr (LOp.st sz33 rfl rfl rfl rfl rfl rfl rfl rfl) rfl rfl rfl ?_
     refine oN (aN (wS (wS ?_)))
     rcases o with ⟨_ | _,t,ac⟩
     ·skip
      have hgo:=hgood _ (List.getElem_mem hlt8)
      rw [ho] at hgo
      have hRac:∀ x∈ac,x.p.R:=fun x hx=>(hF _ (List.getElem_mem hlt8) x (by rw [ho]; exact hx)).2.2
      refine AWP.regD mixed ?_
      refine qL (lF fi33_0 rfl rfl rfl rfl rfl) rfl rfl ?_
      refine qL (lD row4 rfl rfl rfl rfl rfl) rfl rfl ?_
      refine qL (lM (a:=.v _) rfl) rfl rfl ?_
      refine qS rfl rfl ?_
      refine qS rfl rfl ?_
      refine qS rfl rfl ?_
      refine qS rfl rfl ?_
      refine qS rfl rfl ?_
      refine qS rfl rfl ?_
      refine qS rfl rfl ?_
      refine qS rfl rfl ?_
      refine qS rfl rfl ?_
      refine qL (LOp.pkF (a:=.v _) rfl (by first | rfl | assumption) rfl) rfl rfl ?_
      refine qL (lM (a:=.v _) rfl) rfl rfl ?_
      refine qL (lF fi33_0 rfl rfl rfl rfl rfl) rfl rfl ?_
      refine qL (lD row4 rfl rfl rfl rfl rfl) rfl rfl ?_
      refine qL (lP rfl (fun _ _=>nofun) (fun _=>rfl)) rfl rfl ?_
      refine qL (lM (a:=.v _) rfl) rfl rfl ?_
      refine qL (lM (a:=.ptr _ _ _) rfl) rfl rfl ?_
      refine qL (lF fi33_1 rfl rfl rfl rfl rfl) rfl rfl ?_
      refine qL (lD row2 rfl rfl rfl rfl rfl) rfl rfl ?_
      refine qL (lF fi33_2 rfl rfl rfl rfl rfl) rfl rfl ?_
      refine qL (lD row31 rfl rfl rfl rfl rfl) rfl rfl ?_
      refine SeqC.gv (LOp.callH [(TOP,0),(TOP+1,2)] bod11 (push_h t ac (Nat.le_trans hgo.1 (by decide)) hgo.2 hRac (qAt l z.k) z.v1 z.b1 hb1 hQl (by omega)) rfl rfl rfl rfl ⟨rfl,sX rowRq,trivial⟩ ⟨⟨rfl,.inl rfl⟩,okB rowRq hb1,trivial⟩ ⟨rfl,rF_in rowRq _ _,trivial⟩ rfl rfl rfl rfl (delta_q rowRq rfl rfl) rfl) rfl rfl 6 rfl rfl ?_
      refine qL (lM (a:=.ptr _ _ _) rfl) rfl rfl ?_
      refine qL (lF fi33_1 rfl rfl rfl rfl rfl) rfl rfl ?_
      refine qL (lD row2 rfl rfl rfl rfl rfl) rfl rfl ?_
      refine qL (lF fi33_2 rfl rfl rfl rfl rfl) rfl rfl ?_
      refine qL (lD row31 rfl rfl rfl rfl rfl) rfl rfl ?_
      refine SeqC.gv (LOp.callH [(TOP,1),(TOP+1,3)] bod12 (push_r t ac (Nat.le_trans hgo.1 (by decide)) hgo.2 (qAt l z.k) z.v2 z.b2 hb2 hQl (by omega)) rfl rfl rfl rfl ⟨rfl,sX rowRq,trivial⟩ ⟨⟨rfl,.inl rfl⟩,okB rowRq hb2,trivial⟩ ⟨rfl,rF_in rowRq _ _,trivial⟩ rfl rfl rfl rfl (delta_q rowRq rfl rfl) rfl) rfl rfl 6 rfl rfl ?_
      refine qL (LOp.neSame rfl rfl) rfl rfl ?_
      refine qL (lK rfl rfl rfl) rfl rfl ?_
      refine qL (lK rfl rfl rfl) rfl rfl ?_
      refine SeqC.nil ⟨by kernel_rfl,?_⟩
      refine aN ?_
      refine AWP.condF rfl ?_
      refine wK (aN (wS ?_))
      have hq':=step_pu hlt8 ho
      have hc1:=pushF_ok (t:=t) (a:=ac) hb1
      have hc2:=pushF_ok (t:=t) (a:=ac) hb2
      have hw1:=pushV_le (l:=qAt l z.k) (t:=t) (a:=ac) (v:=z.v1)
      have hw2:=pushV_le (l:=qAt l z.k) (t:=t) (a:=ac) (v:=z.v2)
      rw [hq'] at hc1 hc2
      rw [hq']
      generalize hwa:pushV (qAt l z.k) t ac z.v1=w1 at hw1 ⊢
      generalize hwb:pushV (qAt l z.k) t ac z.v2=w2 at hw2 ⊢
      generalize hca:pushF (qAt l z.k) t ac z.b1=c1 at hc1 ⊢
      generalize hcb:pushF (qAt l z.k) t ac z.b2=c2 at hc2 ⊢
      have hQ2:=qAt_inv hgood (z.k+1) hlt8
      have hQl2:(qAt l (z.k+1)).length≤1000:=by have:=hQ2.len; omega
      have hw1:w1≤4 * (z.k+1):=by omega
      have hw2:w2≤4 * (z.k+1):=by omega
      have hw1t:w1≤1000:=by omega
      refine wR ?_
      refine oL (lM (a:=.ptr _ _ _) rfl) rfl rfl ?_
      refine oL (LOp.still (LOp.callH [(TOP,0),(TOP+1,2)] bod13 (waiting2_h (qAt l (z.k+1)) w1 c1 hc1 hQl2 hw1t) rfl rfl rfl rfl ⟨rfl,sX rowRq,trivial⟩ ⟨⟨rfl,.inl rfl⟩,okB rowRq hc1,trivial⟩ ⟨rfl,rF_in rowRq _ _,trivial⟩ rfl rfl rfl rfl rfl rfl) ⟨⟨by simp [gOf],rfl,rfl⟩,⟨by simp [gOf],sX rowRq,rfl⟩,trivial⟩) rfl rfl ?_
      refine oL (lA (a:=.tree _ _) rfl) rfl rfl ?_
      refine oN (aN (wS (wS (wR ?_))))
      refine oL (lM (a:=.tree _ _) rfl) rfl rfl ?_
      refine oL (lT rfl Tryz.underlying46 rfl) rfl rfl ?_
      refine oL (lM (a:=.ptr _ _ _) rfl) rfl rfl ?_
      refine oL (lN rfl rfl rfl) rfl rfl ?_
      refine oL (lF fi29_0 rfl rfl rfl rfl rfl) rfl rfl ?_
      refine oL (lD row27 rfl rfl rfl rfl rfl) rfl rfl ?_
      refine oL (LOp.lenS rfl Tryz.underlying27 rfl rfl rfl) rfl rfl ?_
      refine oL (LOp.neSame rfl rfl) rfl rfl ?_
      refine oN (aN ?_)
      refine AWP.condF rfl ?_
      refine wK (aN (wS (wS (wR ?_))))
      refine oL (lM (a:=.tree _ _) rfl) rfl rfl ?_
      refine oL (lT rfl Tryz.underlying46 rfl) rfl rfl ?_
      refine oL (lM (a:=.v _) rfl) rfl rfl ?_
      refine oN (aN (wB ?_))
      refine wL (fun n s=>∃ i:Nat,n=((qAt l (z.k+1)).length - i)∧s=⟨fL [(0,.tree 3 (l.map opA)),(3,.ptr 0 0 0),(4,.ptr 1 0 0),(14,.ptr 5 0 0),(15,.tree 1 ((qAt l (z.k+1)).map fun r=>iA r.t)),(90,.tree 3 (l.map opA)),(91,.v (.int .i64 ((l.length:Nat):Int))),(92,.v (.int .i64 ((z.k:Nat):Int))),(140,.v (.int .i64 (((qAt l (z.k+1)).length:Nat):Int))),(141,.v (.int .i64 ((i:Nat):Int)))],hLz [(0,⟨0,[.sl 2 w1 0 (qAt l (z.k+1)).length],0,false⟩),(1,⟨0,[.sl 3 w2 0 (qAt l (z.k+1)).length],0,false⟩),(2,⟨w1,rF rqA (qAt l (z.k+1)),2,c1⟩),(3,⟨w2,rF rqA (qAt l (z.k+1)),2,c2⟩),(5,⟨0,opA ⟨false,t,ac⟩,0,false⟩)],6⟩∧(i≤(qAt l (z.k+1)).length)) (n:=((qAt l (z.k+1)).length - 0)) (s1:=⟨fL [(0,.tree 3 (l.map opA)),(3,.ptr 0 0 0),(4,.ptr 1 0 0),(14,.ptr 5 0 0),(15,.tree 1 ((qAt l (z.k+1)).map fun r=>iA r.t)),(90,.tree 3 (l.map opA)),(91,.v (.int .i64 ((l.length:Nat):Int))),(92,.v (.int .i64 ((z.k:Nat):Int))),(140,.v (.int .i64 (((qAt l (z.k+1)).length:Nat):Int))),(141,.v (.int .i64 ((0:Nat):Int)))],hLz [(0,⟨0,[.sl 2 w1 0 (qAt l (z.k+1)).length],0,false⟩),(1,⟨0,[.sl 3 w2 0 (qAt l (z.k+1)).length],0,false⟩),(2,⟨w1,rF rqA (qAt l (z.k+1)),2,c1⟩),(3,⟨w2,rF rqA (qAt l (z.k+1)),2,c2⟩),(5,⟨0,opA ⟨false,t,ac⟩,0,false⟩)],6⟩) (cO (.cons rfl rfl (.cons rfl rfl (.cons rfl rfl (.cons rfl rfl (.cons rfl rfl (.cons rfl rfl (.cons rfl rfl (.cons rfl rfl (.cons rfl rfl (.cons rfl rfl .nil)))))))))) (.cons rfl rfl rfl (.cons rfl rfl rfl (.cons rfl rfl (rF_low rowRq _ _) (.cons rfl rfl (rF_low rowRq _ _) (.cons rfl rfl rfl .nil)))))) ⟨0,rfl,rfl,(Nat.zero_le _)⟩ ?_
      rintro n s ⟨i,rfl,rfl,hinv⟩
      have hki:i≤_:=hinv
      refine wS (wR ?_)
      refine oL (lP rfl (fun _ _=>nofun) (fun _=>rfl)) rfl rfl ?_
      refine oN (aN (wS ?_))
      refine wC rfl (fun hc142=>?_) (fun hc142=>?_)
      ·skip
       have hi:i < (qAt l (z.k+1)).length:=Int.ofNat_lt.1 (of_decide_eq_true hc142)
       refine wK (aN (wS (wB (wS (wR ?_)))))
       refine oL (lM (a:=.v _) rfl) rfl rfl ?_
       refine oL (lA (a:=.v _) rfl) rfl rfl ?_
       refine oN (aN (wS (wR ?_)))
       refine oL (lM (a:=.ptr _ _ _) rfl) rfl rfl ?_
       refine oL (lM (a:=.tree _ _) rfl) rfl rfl ?_
       refine oL (lM (a:=.v _) rfl) rfl rfl ?_
       refine oL (lI Tryz.underlying46 sz2 rfl rfl (by first | assumption | omega)) rfl rfl ?_
       refine oL (lE row2 rfl rfl) rfl rfl ?_
       refine oL (LOp.still (LOp.callH [(TOP,0),(TOP+1,2)] bod14 (request2_h i (qAt l (z.k+1)) w1 c1 hi hc1 hQl2 hw1t hQ2) rfl rfl rfl rfl ⟨rfl,sX rowRq,trivial⟩ ⟨⟨rfl,.inl rfl⟩,okB rowRq hc1,trivial⟩ ⟨rfl,rF_in rowRq _ _,trivial⟩ rfl rfl rfl rfl rfl rfl) ⟨⟨by simp [gOf],rfl,rfl⟩,⟨by simp [gOf],sX rowRq,rfl⟩,trivial⟩) rfl rfl ?_
       refine oL (lM (a:=.tup _) rfl) rfl rfl ?_
       refine oL (LOp.extract rfl rfl) rfl rfl ?_
       refine oL (LOp.extract rfl rfl) rfl rfl ?_
       refine oL (lA (a:=.tree _ _) rfl) rfl rfl ?_
       refine oL (lA (a:=.v _) rfl) rfl rfl ?_
       refine oN (aN (wS ?_))
       obtain rfl:=nb hc2 hi
       refine AWP.reb 3 ⟨w2,rF rqA ((qAt l (z.k+1)).take i)++(rqA (qAt l (z.k+1))[i]++rF rqA ((qAt l (z.k+1)).drop (i+1))),2,false⟩ rfl (put_rqX rfl hi) ?_
       refine AWP.regD mixed ?_
       refine qL (lM (a:=.tree _ _) rfl) rfl rfl ?_
       refine qL (lM (a:=.v _) rfl) rfl rfl ?_
       refine qL (lI Tryz.underlying46 sz2 rfl rfl (by first | assumption | omega)) rfl rfl ?_
       refine qL (lE row2 rfl rfl) rfl rfl ?_
       refine qL (lM (a:=.ptr _ _ _) rfl) rfl rfl ?_
       refine qL (lN rfl rfl rfl) rfl rfl ?_
       refine qL (lF fi29_0 rfl rfl rfl rfl rfl) rfl rfl ?_
       refine qL (lD row27 rfl rfl rfl rfl rfl) rfl rfl ?_
       refine qL (lM (a:=.v _) rfl) rfl rfl ?_
       refine qL (LOp.indexS Tryz.underlying27 sz51 rfl rfl (by first | assumption | omega) rfl rfl rfl rfl) rfl rfl ?_
       refine qL (lF fi51_0 rfl rfl rfl rfl rfl) rfl rfl ?_
       refine qL (lZ (j:=0) row2 rfl rfl (by rw [rF_pre rowRq hi]; omega) rfl) rfl rfl ?_
       refine qL (LOp.neSame rfl rfl) rfl rfl ?_
       refine qL (lM (a:=.v _) rfl) rfl rfl ?_
       refine qL (lM (a:=.v _) rfl) rfl rfl ?_
       refine qL (lP rfl (fun _ _=>nofun) (fun _=>rfl)) rfl rfl ?_
       refine qL (lK rfl rfl rfl) rfl rfl ?_
       refine qL (lM (a:=.v _) rfl) rfl rfl ?_
       refine qL (lM (a:=.tree _ _) rfl) rfl rfl ?_
       refine qL (lM (a:=.ptr _ _ _) rfl) rfl rfl ?_
       refine qL (lN rfl rfl rfl) rfl rfl ?_
       refine qL (lF fi29_0 rfl rfl rfl rfl rfl) rfl rfl ?_
       refine qL (lD row27 rfl rfl rfl rfl rfl) rfl rfl ?_
       refine qL (lM (a:=.v _) rfl) rfl rfl ?_
       refine qL (LOp.indexS Tryz.underlying27 sz51 rfl rfl (by first | assumption | omega) rfl rfl rfl rfl) rfl rfl ?_
       refine qL (lF fi51_1 rfl rfl rfl rfl rfl) rfl rfl ?_
       refine qL (lZ (j:=1) row31 rfl rfl (by rw [rF_pre rowRq hi]; omega) rfl) rfl rfl ?_
       refine qL (LOp.call bod15 rfl (same_p (qAt l (z.k+1))[i].l (Nat.le_trans (hQ2.small _ (List.getElem_mem hi)) (by decide)) (hQ2.ok _ (List.getElem_mem hi)))) rfl rfl ?_
       refine qL (lP rfl (fun _ _=>nofun) (fun _=>rfl)) rfl rfl ?_
       refine qL (lK rfl rfl rfl) rfl rfl ?_
       refine SeqC.nil ⟨by kernel_rfl,?_⟩
       refine aN ?_
       refine AWP.condF rfl ?_
       refine wK (bN (aN ?_))
       refine AWP.reb 3 ⟨w2,rF rqA (qAt l (z.k+1)),2,false⟩ rfl (put_rqX rfl hi).symm ?_
       refine wR ?_
       refine oL (lJ rfl rfl (by omega) (by omega)) rfl rfl ?_
       refine oL (lM (a:=.v _) rfl) rfl rfl ?_
       refine oN (aN ?_)
       refine ⟨((qAt l (z.k+1)).length - (i+1)),⟨fL [(0,.tree 3 (l.map opA)),(3,.ptr 0 0 0),(4,.ptr 1 0 0),(14,.ptr 5 0 0),(15,.tree 1 ((qAt l (z.k+1)).map fun r=>iA r.t)),(90,.tree 3 (l.map opA)),(91,.v (.int .i64 ((l.length:Nat):Int))),(92,.v (.int .i64 ((z.k:Nat):Int))),(140,.v (.int .i64 (((qAt l (z.k+1)).length:Nat):Int))),(141,.v (.int .i64 (((i+1):Nat):Int)))],hLz [(0,⟨0,[.sl 2 w1 0 (qAt l (z.k+1)).length],0,false⟩),(1,⟨0,[.sl 3 w2 0 (qAt l (z.k+1)).length],0,false⟩),(2,⟨w1,rF rqA (qAt l (z.k+1)),2,c1⟩),(3,⟨w2,rF rqA (qAt l (z.k+1)),2,false⟩),(5,⟨0,opA ⟨false,t,ac⟩,0,false⟩)],6⟩,by omega,(cO (.cons rfl rfl (.cons rfl rfl (.cons rfl rfl (.cons rfl rfl (.cons rfl rfl (.cons rfl rfl (.cons rfl rfl (.cons rfl rfl (.cons rfl rfl (.cons rfl rfl .nil)))))))))) (.cons rfl rfl rfl (.cons rfl rfl rfl (.cons rfl rfl (rF_low rowRq _ _) (.cons rfl rfl (rF_low rowRq _ _) (.cons rfl rfl rfl .nil)))))),(i+1),rfl,rfl,?_⟩
       show i+1≤_
       omega
      ·skip
       refine AWP.exit (aE (aE (bE ?_)))
       refine aN (wS (wR ?_))
       refine oL (lM (a:=.ptr _ _ _) rfl) rfl rfl ?_
       refine oL (lF fi33_1 rfl rfl rfl rfl rfl) rfl rfl ?_
       refine oL (lD row2 rfl rfl rfl rfl rfl) rfl rfl ?_
       refine oL (LOp.still (LOp.callH [(TOP,0),(TOP+1,2)] bod14 (request_h t (qAt l (z.k+1)) w1 c1 hc1 hQl2 hw1t hQ2.qok) rfl rfl rfl rfl ⟨rfl,sX rowRq,trivial⟩ ⟨⟨rfl,.inl rfl⟩,okB rowRq hc1,trivial⟩ ⟨rfl,rF_in rowRq _ _,trivial⟩ rfl rfl rfl rfl rfl rfl) ⟨⟨by simp [gOf],rfl,rfl⟩,⟨by simp [gOf],sX rowRq,rfl⟩,trivial⟩) rfl rfl ?_
       refine oL (lM (a:=.tup _) rfl) rfl rfl ?_
       refine oL (LOp.extract rfl rfl) rfl rfl ?_
       refine oL (LOp.extract rfl rfl) rfl rfl ?_
       refine oL (lA (a:=.tree _ _) rfl) rfl rfl ?_
       refine oL (lA (a:=.v _) rfl) rfl rfl ?_
       refine oN (aN (wS (wR ?_)))
       refine oL (lM (a:=.v _) rfl) rfl rfl ?_
       refine oL (lM (a:=.ptr _ _ _) rfl) rfl rfl ?_
       refine oL (lF fi33_1 rfl rfl rfl rfl rfl) rfl rfl ?_
       refine oL (lD row2 rfl rfl rfl rfl rfl) rfl rfl ?_
       refine oL (LOp.still (LOp.callH [(TOP,1),(TOP+1,3)] bod16 (find_r t (qAt l (z.k+1)) w2 c2 hc2 hQl2) rfl rfl rfl rfl ⟨rfl,sX rowRq,trivial⟩ ⟨⟨rfl,.inl rfl⟩,okB rowRq hc2,trivial⟩ ⟨rfl,rF_in rowRq _ _,trivial⟩ rfl rfl rfl rfl rfl rfl) ⟨⟨by simp [gOf],rfl,rfl⟩,⟨by simp [gOf],sX rowRq,rfl⟩,trivial⟩) rfl rfl ?_
       refine oL (lP rfl (fun _ _=>nofun) (fun _=>rfl)) rfl rfl ?_
       refine oL (LOp.neSameB rfl rfl Tryz.underlying4) rfl rfl ?_
       refine oN (aN ?_)
       refine AWP.condF rfl ?_
       refine wK (bN (aN (wR ?_)))
       refine oL (lJ rfl rfl (by omega) (by omega)) rfl rfl ?_
       refine oL (lM (a:=.v _) rfl) rfl rfl ?_
       refine oN (aN ?_)
       refine ⟨(l.length - (⟨z.k+1,w1,w2,c1,c2⟩:LSt).k),⟨fL [(0,.tree 3 (l.map opA)),(3,.ptr 0 0 0),(4,.ptr 1 0 0),(90,.tree 3 (l.map opA)),(91,.v (.int .i64 ((l.length:Nat):Int))),(92,.v (.int .i64 (((⟨z.k+1,w1,w2,c1,c2⟩:LSt).k:Nat):Int)))],hLz [(0,⟨0,[.sl 2 (⟨z.k+1,w1,w2,c1,c2⟩:LSt).v1 0 (qAt l (⟨z.k+1,w1,w2,c1,c2⟩:LSt).k).length],0,false⟩),(1,⟨0,[.sl 3 (⟨z.k+1,w1,w2,c1,c2⟩:LSt).v2 0 (qAt l (⟨z.k+1,w1,w2,c1,c2⟩:LSt).k).length],0,false⟩),(2,⟨(⟨z.k+1,w1,w2,c1,c2⟩:LSt).v1,rF rqA (qAt l (⟨z.k+1,w1,w2,c1,c2⟩:LSt).k),2,(⟨z.k+1,w1,w2,c1,c2⟩:LSt).b1⟩),(3,⟨(⟨z.k+1,w1,w2,c1,c2⟩:LSt).v2,rF rqA (qAt l (⟨z.k+1,w1,w2,c1,c2⟩:LSt).k),2,(⟨z.k+1,w1,w2,c1,c2⟩:LSt).b2⟩)],5⟩,(by show l.length - (z.k+1) < l.length - z.k; omega),(cO (.cons rfl rfl (.cons rfl rfl (.cons rfl rfl (.cons rfl rfl (.cons rfl rfl (.cons rfl rfl .nil)))))) (.cons rfl rfl rfl (.cons rfl rfl rfl (.cons rfl rfl (rF_low rowRq _ _) (.cons rfl rfl (rF_low rowRq _ _) .nil))))),(⟨z.k+1,w1,w2,c1,c2⟩:LSt),rfl,rfl,?_⟩
       exact ⟨by show z.k+1≤_; omega,hw1,hw2,hc1,hc2⟩
     ·skip
      have hgo:=hgood _ (List.getElem_mem hlt8)
      rw [ho] at hgo
      refine AWP.regD mixed ?_
      refine qL (lF fi33_0 rfl rfl rfl rfl rfl) rfl rfl ?_
      refine qL (lD row4 rfl rfl rfl rfl rfl) rfl rfl ?_
      refine qL (lM (a:=.v _) rfl) rfl rfl ?_
      refine qL (lM (a:=.ptr _ _ _) rfl) rfl rfl ?_
      refine qL (lF fi33_1 rfl rfl rfl rfl rfl) rfl rfl ?_
      refine qL (lD row2 rfl rfl rfl rfl rfl) rfl rfl ?_
      refine SeqC.gv (LOp.callH [(TOP,0),(TOP+1,2)] bod9 (remove_h t (qAt l z.k) z.v1 z.b1 hb1 hQl (by omega)) rfl rfl rfl rfl ⟨rfl,sX rowRq,trivial⟩ ⟨⟨rfl,.inl rfl⟩,okB rowRq hb1,trivial⟩ ⟨rfl,rF_in rowRq _ _,trivial⟩ rfl rfl rfl rfl (delta_q rowRq rfl rfl) rfl) rfl rfl 6 rfl rfl ?_
      refine qL (lM (a:=.ptr _ _ _) rfl) rfl rfl ?_
      refine qL (lF fi33_1 rfl rfl rfl rfl rfl) rfl rfl ?_
      refine qL (lD row2 rfl rfl rfl rfl rfl) rfl rfl ?_
      refine SeqC.gv (LOp.callH [(TOP,1),(TOP+1,3)] bod10 (remove_r t (qAt l z.k) z.v2 z.b2 hb2 hQl (by omega)) rfl rfl rfl rfl ⟨rfl,sX rowRq,trivial⟩ ⟨⟨rfl,.inl rfl⟩,okB rowRq hb2,trivial⟩ ⟨rfl,rF_in rowRq _ _,trivial⟩ rfl rfl rfl rfl (delta_q rowRq rfl rfl) rfl) rfl rfl 6 rfl rfl ?_
      refine qL (LOp.neSameB rfl rfl Tryz.underlying4) rfl rfl ?_
      refine qL (lK rfl rfl rfl) rfl rfl ?_
      refine qL (lM (a:=.v _) rfl) rfl rfl ?_
      refine qL (lF fi33_0 rfl rfl rfl rfl rfl) rfl rfl ?_
      refine qL (lD row4 rfl rfl rfl rfl rfl) rfl rfl ?_
      refine qL (lP rfl (fun _ _=>nofun) (fun _=>rfl)) rfl rfl ?_
      refine qL (lM (a:=.v _) rfl) rfl rfl ?_
      refine qS rfl rfl ?_
      refine qS rfl rfl ?_
      refine qS rfl rfl ?_
      refine qS rfl rfl ?_
      refine qS rfl rfl ?_
      refine qS rfl rfl ?_
      refine qS rfl rfl ?_
      refine qS rfl rfl ?_
      refine qS rfl rfl ?_
      refine qS rfl rfl ?_
      refine qS rfl rfl ?_
      refine qS rfl rfl ?_
      refine qS rfl rfl ?_
      refine qL (LOp.pkF (a:=.v _) rfl (by first | rfl | assumption) rfl) rfl rfl ?_
      refine qL (lK rfl rfl rfl) rfl rfl ?_
      refine SeqC.nil ⟨by kernel_rfl,?_⟩
      refine aN ?_
      refine AWP.condF rfl ?_
      refine wK (aN (wS ?_))
      have hq':=step_rm hlt8 ho
      have e1:=hb1
      have hc1:=remb_ok (t:=t) hb1
      have hc2:=remF_ok (t:=t) hb2
      have hw2:=remV_le (l:=qAt l z.k) (t:=t) (v:=z.v2)
      rw [hq'] at hc1 hc2
      rw [hq']
      generalize hw:remV (qAt l z.k) t z.v2=w2 at hw2 ⊢
      generalize hcc:remF (qAt l z.k) t z.b2=c2 at hc2 ⊢
      obtain ⟨w1,hwe⟩:∃ w1,z.v1=w1:=⟨_,rfl⟩
      obtain ⟨c1,hce⟩:∃ c1,z.b1=c1:=⟨_,rfl⟩
      rw [hwe,hce]
      rw [hce] at hc1
      have hQ2:=qAt_inv hgood (z.k+1) hlt8
      have hQl2:(qAt l (z.k+1)).length≤1000:=by have:=hQ2.len; omega
      have hw1:w1≤4 * (z.k+1):=by omega
      have hw2:w2≤4 * (z.k+1):=by omega
      have hw1t:w1≤1000:=by omega
      refine wR ?_
      refine oL (lM (a:=.ptr _ _ _) rfl) rfl rfl ?_
      refine oL (LOp.still (LOp.callH [(TOP,0),(TOP+1,2)] bod13 (waiting2_h (qAt l (z.k+1)) w1 c1 hc1 hQl2 hw1t) rfl rfl rfl rfl ⟨rfl,sX rowRq,trivial⟩ ⟨⟨rfl,.inl rfl⟩,okB rowRq hc1,trivial⟩ ⟨rfl,rF_in rowRq _ _,trivial⟩ rfl rfl rfl rfl rfl rfl) ⟨⟨by simp [gOf],rfl,rfl⟩,⟨by simp [gOf],sX rowRq,rfl⟩,trivial⟩) rfl rfl ?_
      refine oL (lA (a:=.tree _ _) rfl) rfl rfl ?_
      refine oN (aN (wS (wS (wR ?_))))
      refine oL (lM (a:=.tree _ _) rfl) rfl rfl ?_
      refine oL (lT rfl Tryz.underlying46 rfl) rfl rfl ?_
      refine oL (lM (a:=.ptr _ _ _) rfl) rfl rfl ?_
      refine oL (lN rfl rfl rfl) rfl rfl ?_
      refine oL (lF fi29_0 rfl rfl rfl rfl rfl) rfl rfl ?_
      refine oL (lD row27 rfl rfl rfl rfl rfl) rfl rfl ?_
      refine oL (LOp.lenS rfl Tryz.underlying27 rfl rfl rfl) rfl rfl ?_
      refine oL (LOp.neSame rfl rfl) rfl rfl ?_
      refine oN (aN ?_)
      refine AWP.condF rfl ?_
      refine wK (aN (wS (wS (wR ?_))))
      refine oL (lM (a:=.tree _ _) rfl) rfl rfl ?_
      refine oL (lT rfl Tryz.underlying46 rfl) rfl rfl ?_
      refine oL (lM (a:=.v _) rfl) rfl rfl ?_
      refine oN (aN (wB ?_))
      refine wL (fun n s=>∃ i:Nat,n=((qAt l (z.k+1)).length - i)∧s=⟨fL [(0,.tree 3 (l.map opA)),(3,.ptr 0 0 0),(4,.ptr 1 0 0),(14,.ptr 5 0 0),(15,.tree 1 ((qAt l (z.k+1)).map fun r=>iA r.t)),(90,.tree 3 (l.map opA)),(91,.v (.int .i64 ((l.length:Nat):Int))),(92,.v (.int .i64 ((z.k:Nat):Int))),(140,.v (.int .i64 (((qAt l (z.k+1)).length:Nat):Int))),(141,.v (.int .i64 ((i:Nat):Int)))],hLz [(0,⟨0,[.sl 2 w1 0 (qAt l (z.k+1)).length],0,false⟩),(1,⟨0,[.sl 3 w2 0 (qAt l (z.k+1)).length],0,false⟩),(2,⟨w1,rF rqA (qAt l (z.k+1)),2,c1⟩),(3,⟨w2,rF rqA (qAt l (z.k+1)),2,c2⟩),(5,⟨0,opA ⟨true,t,ac⟩,0,false⟩)],6⟩∧(i≤(qAt l (z.k+1)).length)) (n:=((qAt l (z.k+1)).length - 0)) (s1:=⟨fL [(0,.tree 3 (l.map opA)),(3,.ptr 0 0 0),(4,.ptr 1 0 0),(14,.ptr 5 0 0),(15,.tree 1 ((qAt l (z.k+1)).map fun r=>iA r.t)),(90,.tree 3 (l.map opA)),(91,.v (.int .i64 ((l.length:Nat):Int))),(92,.v (.int .i64 ((z.k:Nat):Int))),(140,.v (.int .i64 (((qAt l (z.k+1)).length:Nat):Int))),(141,.v (.int .i64 ((0:Nat):Int)))],hLz [(0,⟨0,[.sl 2 w1 0 (qAt l (z.k+1)).length],0,false⟩),(1,⟨0,[.sl 3 w2 0 (qAt l (z.k+1)).length],0,false⟩),(2,⟨w1,rF rqA (qAt l (z.k+1)),2,c1⟩),(3,⟨w2,rF rqA (qAt l (z.k+1)),2,c2⟩),(5,⟨0,opA ⟨true,t,ac⟩,0,false⟩)],6⟩) (cO (.cons rfl rfl (.cons rfl rfl (.cons rfl rfl (.cons rfl rfl (.cons rfl rfl (.cons rfl rfl (.cons rfl rfl (.cons rfl rfl (.cons rfl rfl (.cons rfl rfl .nil)))))))))) (.cons rfl rfl rfl (.cons rfl rfl rfl (.cons rfl rfl (rF_low rowRq _ _) (.cons rfl rfl (rF_low rowRq _ _) (.cons rfl rfl rfl .nil)))))) ⟨0,rfl,rfl,(Nat.zero_le _)⟩ ?_
      rintro n s ⟨i,rfl,rfl,hinv⟩
      have hki:i≤_:=hinv
      refine wS (wR ?_)
      refine oL (lP rfl (fun _ _=>nofun) (fun _=>rfl)) rfl rfl ?_
      refine oN (aN (wS ?_))
      refine wC rfl (fun hc142=>?_) (fun hc142=>?_)
      ·skip
       have hi:i < (qAt l (z.k+1)).length:=Int.ofNat_lt.1 (of_decide_eq_true hc142)
       refine wK (aN (wS (wB (wS (wR ?_)))))
       refine oL (lM (a:=.v _) rfl) rfl rfl ?_
       refine oL (lA (a:=.v _) rfl) rfl rfl ?_
       refine oN (aN (wS (wR ?_)))
       refine oL (lM (a:=.ptr _ _ _) rfl) rfl rfl ?_
       refine oL (lM (a:=.tree _ _) rfl) rfl rfl ?_
       refine oL (lM (a:=.v _) rfl) rfl rfl ?_
       refine oL (lI Tryz.underlying46 sz2 rfl rfl (by first | assumption | omega)) rfl rfl ?_
       refine oL (lE row2 rfl rfl) rfl rfl ?_
       refine oL (LOp.still (LOp.callH [(TOP,0),(TOP+1,2)] bod14 (request2_h i (qAt l (z.k+1)) w1 c1 hi hc1 hQl2 hw1t hQ2) rfl rfl rfl rfl ⟨rfl,sX rowRq,trivial⟩ ⟨⟨rfl,.inl rfl⟩,okB rowRq hc1,trivial⟩ ⟨rfl,rF_in rowRq _ _,trivial⟩ rfl rfl rfl rfl rfl rfl) ⟨⟨by simp [gOf],rfl,rfl⟩,⟨by simp [gOf],sX rowRq,rfl⟩,trivial⟩) rfl rfl ?_
       refine oL (lM (a:=.tup _) rfl) rfl rfl ?_
       refine oL (LOp.extract rfl rfl) rfl rfl ?_
       refine oL (LOp.extract rfl rfl) rfl rfl ?_
       refine oL (lA (a:=.tree _ _) rfl) rfl rfl ?_
       refine oL (lA (a:=.v _) rfl) rfl rfl ?_
       refine oN (aN (wS ?_))
       obtain rfl:=nb hc2 hi
       refine AWP.reb 3 ⟨w2,rF rqA ((qAt l (z.k+1)).take i)++(rqA (qAt l (z.k+1))[i]++rF rqA ((qAt l (z.k+1)).drop (i+1))),2,false⟩ rfl (put_rqX rfl hi) ?_
       refine AWP.regD mixed ?_
       refine qL (lM (a:=.tree _ _) rfl) rfl rfl ?_
       refine qL (lM (a:=.v _) rfl) rfl rfl ?_
       refine qL (lI Tryz.underlying46 sz2 rfl rfl (by first | assumption | omega)) rfl rfl ?_
       refine qL (lE row2 rfl rfl) rfl rfl ?_
       refine qL (lM (a:=.ptr _ _ _) rfl) rfl rfl ?_
       refine qL (lN rfl rfl rfl) rfl rfl ?_
       refine qL (lF fi29_0 rfl rfl rfl rfl rfl) rfl rfl ?_
       refine qL (lD row27 rfl rfl rfl rfl rfl) rfl rfl ?_
       refine qL (lM (a:=.v _) rfl) rfl rfl ?_
       refine qL (LOp.indexS Tryz.underlying27 sz51 rfl rfl (by first | assumption | omega) rfl rfl rfl rfl) rfl rfl ?_
       refine qL (lF fi51_0 rfl rfl rfl rfl rfl) rfl rfl ?_
       refine qL (lZ (j:=0) row2 rfl rfl (by rw [rF_pre rowRq hi]; omega) rfl) rfl rfl ?_
       refine qL (LOp.neSame rfl rfl) rfl rfl ?_
       refine qL (lM (a:=.v _) rfl) rfl rfl ?_
       refine qL (lM (a:=.v _) rfl) rfl rfl ?_
       refine qL (lP rfl (fun _ _=>nofun) (fun _=>rfl)) rfl rfl ?_
       refine qL (lK rfl rfl rfl) rfl rfl ?_
       refine qL (lM (a:=.v _) rfl) rfl rfl ?_
       refine qL (lM (a:=.tree _ _) rfl) rfl rfl ?_
       refine qL (lM (a:=.ptr _ _ _) rfl) rfl rfl ?_
       refine qL (lN rfl rfl rfl) rfl rfl ?_
       refine qL (lF fi29_0 rfl rfl rfl rfl rfl) rfl rfl ?_
       refine qL (lD row27 rfl rfl rfl rfl rfl) rfl rfl ?_
       refine qL (lM (a:=.v _) rfl) rfl rfl ?_
       refine qL (LOp.indexS Tryz.underlying27 sz51 rfl rfl (by first | assumption | omega) rfl rfl rfl rfl) rfl rfl ?_
       refine qL (lF fi51_1 rfl rfl rfl rfl rfl) rfl rfl ?_
       refine qL (lZ (j:=1) row31 rfl rfl (by rw [rF_pre rowRq hi]; omega) rfl) rfl rfl ?_
       refine qL (LOp.call bod15 rfl (same_p (qAt l (z.k+1))[i].l (Nat.le_trans (hQ2.small _ (List.getElem_mem hi)) (by decide)) (hQ2.ok _ (List.getElem_mem hi)))) rfl rfl ?_
       refine qL (lP rfl (fun _ _=>nofun) (fun _=>rfl)) rfl rfl ?_
       refine qL (lK rfl rfl rfl) rfl rfl ?_
       refine SeqC.nil ⟨by kernel_rfl,?_⟩
       refine aN ?_
       refine AWP.condF rfl ?_
       refine wK (bN (aN ?_))
       refine AWP.reb 3 ⟨w2,rF rqA (qAt l (z.k+1)),2,false⟩ rfl (put_rqX rfl hi).symm ?_
       refine wR ?_
       refine oL (lJ rfl rfl (by omega) (by omega)) rfl rfl ?_
       refine oL (lM (a:=.v _) rfl) rfl rfl ?_
       refine oN (aN ?_)
       refine ⟨((qAt l (z.k+1)).length - (i+1)),⟨fL [(0,.tree 3 (l.map opA)),(3,.ptr 0 0 0),(4,.ptr 1 0 0),(14,.ptr 5 0 0),(15,.tree 1 ((qAt l (z.k+1)).map fun r=>iA r.t)),(90,.tree 3 (l.map opA)),(91,.v (.int .i64 ((l.length:Nat):Int))),(92,.v (.int .i64 ((z.k:Nat):Int))),(140,.v (.int .i64 (((qAt l (z.k+1)).length:Nat):Int))),(141,.v (.int .i64 (((i+1):Nat):Int)))],hLz [(0,⟨0,[.sl 2 w1 0 (qAt l (z.k+1)).length],0,false⟩),(1,⟨0,[.sl 3 w2 0 (qAt l (z.k+1)).length],0,false⟩),(2,⟨w1,rF rqA (qAt l (z.k+1)),2,c1⟩),(3,⟨w2,rF rqA (qAt l (z.k+1)),2,false⟩),(5,⟨0,opA ⟨true,t,ac⟩,0,false⟩)],6⟩,by omega,(cO (.cons rfl rfl (.cons rfl rfl (.cons rfl rfl (.cons rfl rfl (.cons rfl rfl (.cons rfl rfl (.cons rfl rfl (.cons rfl rfl (.cons rfl rfl (.cons rfl rfl .nil)))))))))) (.cons rfl rfl rfl (.cons rfl rfl rfl (.cons rfl rfl (rF_low rowRq _ _) (.cons rfl rfl (rF_low rowRq _ _) (.cons rfl rfl rfl .nil)))))),(i+1),rfl,rfl,?_⟩
       show i+1≤_
       omega
      ·skip
       refine AWP.exit (aE (aE (bE ?_)))
       refine aN (wS (wR ?_))
       refine oL (lM (a:=.ptr _ _ _) rfl) rfl rfl ?_
       refine oL (lF fi33_1 rfl rfl rfl rfl rfl) rfl rfl ?_
       refine oL (lD row2 rfl rfl rfl rfl rfl) rfl rfl ?_
       refine oL (LOp.still (LOp.callH [(TOP,0),(TOP+1,2)] bod14 (request_h t (qAt l (z.k+1)) w1 c1 hc1 hQl2 hw1t hQ2.qok) rfl rfl rfl rfl ⟨rfl,sX rowRq,trivial⟩ ⟨⟨rfl,.inl rfl⟩,okB rowRq hc1,trivial⟩ ⟨rfl,rF_in rowRq _ _,trivial⟩ rfl rfl rfl rfl rfl rfl) ⟨⟨by simp [gOf],rfl,rfl⟩,⟨by simp [gOf],sX rowRq,rfl⟩,trivial⟩) rfl rfl ?_
       refine oL (lM (a:=.tup _) rfl) rfl rfl ?_
       refine oL (LOp.extract rfl rfl) rfl rfl ?_
       refine oL (LOp.extract rfl rfl) rfl rfl ?_
       refine oL (lA (a:=.tree _ _) rfl) rfl rfl ?_
       refine oL (lA (a:=.v _) rfl) rfl rfl ?_
       refine oN (aN (wS (wR ?_)))
       refine oL (lM (a:=.v _) rfl) rfl rfl ?_
       refine oL (lM (a:=.ptr _ _ _) rfl) rfl rfl ?_
       refine oL (lF fi33_1 rfl rfl rfl rfl rfl) rfl rfl ?_
       refine oL (lD row2 rfl rfl rfl rfl rfl) rfl rfl ?_
       refine oL (LOp.still (LOp.callH [(TOP,1),(TOP+1,3)] bod16 (find_r t (qAt l (z.k+1)) w2 c2 hc2 hQl2) rfl rfl rfl rfl ⟨rfl,sX rowRq,trivial⟩ ⟨⟨rfl,.inl rfl⟩,okB rowRq hc2,trivial⟩ ⟨rfl,rF_in rowRq _ _,trivial⟩ rfl rfl rfl rfl rfl rfl) ⟨⟨by simp [gOf],rfl,rfl⟩,⟨by simp [gOf],sX rowRq,rfl⟩,trivial⟩) rfl rfl ?_
       refine oL (lP rfl (fun _ _=>nofun) (fun _=>rfl)) rfl rfl ?_
       refine oL (LOp.neSameB rfl rfl Tryz.underlying4) rfl rfl ?_
       refine oN (aN ?_)
       refine AWP.condF rfl ?_
       refine wK (bN (aN (wR ?_)))
       refine oL (lJ rfl rfl (by omega) (by omega)) rfl rfl ?_
       refine oL (lM (a:=.v _) rfl) rfl rfl ?_
       refine oN (aN ?_)
       refine ⟨(l.length - (⟨z.k+1,w1,w2,c1,c2⟩:LSt).k),⟨fL [(0,.tree 3 (l.map opA)),(3,.ptr 0 0 0),(4,.ptr 1 0 0),(90,.tree 3 (l.map opA)),(91,.v (.int .i64 ((l.length:Nat):Int))),(92,.v (.int .i64 (((⟨z.k+1,w1,w2,c1,c2⟩:LSt).k:Nat):Int)))],hLz [(0,⟨0,[.sl 2 (⟨z.k+1,w1,w2,c1,c2⟩:LSt).v1 0 (qAt l (⟨z.k+1,w1,w2,c1,c2⟩:LSt).k).length],0,false⟩),(1,⟨0,[.sl 3 (⟨z.k+1,w1,w2,c1,c2⟩:LSt).v2 0 (qAt l (⟨z.k+1,w1,w2,c1,c2⟩:LSt).k).length],0,false⟩),(2,⟨(⟨z.k+1,w1,w2,c1,c2⟩:LSt).v1,rF rqA (qAt l (⟨z.k+1,w1,w2,c1,c2⟩:LSt).k),2,(⟨z.k+1,w1,w2,c1,c2⟩:LSt).b1⟩),(3,⟨(⟨z.k+1,w1,w2,c1,c2⟩:LSt).v2,rF rqA (qAt l (⟨z.k+1,w1,w2,c1,c2⟩:LSt).k),2,(⟨z.k+1,w1,w2,c1,c2⟩:LSt).b2⟩)],5⟩,(by show l.length - (z.k+1) < l.length - z.k; omega),(cO (.cons rfl rfl (.cons rfl rfl (.cons rfl rfl (.cons rfl rfl (.cons rfl rfl (.cons rfl rfl .nil)))))) (.cons rfl rfl rfl (.cons rfl rfl rfl (.cons rfl rfl (rF_low rowRq _ _) (.cons rfl rfl (rF_low rowRq _ _) .nil))))),(⟨z.k+1,w1,w2,c1,c2⟩:LSt),rfl,rfl,?_⟩
       exact ⟨by show z.k+1≤_; omega,hw1,hw2,hc1,hc2⟩
    ·skip
     refine AWP.exit (aE (aE (bE ?_)))
     refine aN (wS (wR ?_))
     refine oL (lA (a:=.v _) rfl) rfl rfl ?_
     refine oN (aN ?_)
     refine wT (?_)
     refine ⟨.inr rfl,oV Tryz.results3 rfl rfl ?_⟩
     rfl
end Go.Proofs.YtfelpgeolclnbaaGreatDoor
namespace Go.Proofs.YtfelpgeolclnbaaGreatDoor
open Go.RowKit Go.ChangeShapes Go.WideShapes Go.Deep
set_option linter.unusedVariables false
set_option linter.unusedSimpArgs false
set_option maxRecDepth 100000
def LtB (n:Nat):Nat→Prop:=fun k=>k < n
/-- Cells read as plain values. -/
def TRL (T:Nat→Prop) (w:World) (xs:List AV) (cs:List Value):Prop:=xs.length=cs.length∧∀ i (h:i < xs.length) (h':i < cs.length),TR T w xs[i] cs[i]
theorem TRL.one {T:Nat→Prop} {w:World} {a:AV} {x:Value} (h:TR T w a x):TRL T w [a] [x]:=⟨rfl,fun i h1 h2=>by
 have:i=0:=by simp at h1; omega
 subst this; exact h⟩
theorem TRL.append {T:Nat→Prop} {w:World} {xs ys:List AV} {cs ds:List Value} (h1:TRL T w xs cs) (h2:TRL T w ys ds):TRL T w (xs++ys) (cs++ds):=by
 refine ⟨by simp [h1.1,h2.1],fun i h h'=>?_⟩
 have e:=h1.1
 by_cases hi:i < xs.length
 ·rw [List.getElem_append_left hi,List.getElem_append_left (by omega)]
  exact h1.2 i hi (by omega)
 ·rw [List.getElem_append_right (by omega),List.getElem_append_right (by omega)]
  simp only [← e]
  exact h2.2 _ _ _
theorem TRL.done {T:Nat→Prop} {w:World} {cs:List Value} {n:Nat} (h:cs.length=n):TRL T w [] (cs.drop n):=by
 rw [← h,List.drop_length]; exact ⟨rfl,fun i h=>absurd h (by simp)⟩
theorem TRL.piece {T:Nat→Prop} {w:World} {xs ys:List AV} {cs:List Value} {o m:Nat} (h1:TRL T w xs ((cs.drop o).take m)) (h2:TRL T w ys (cs.drop (o+m))):TRL T w (xs++ys) (cs.drop o):=by
 have:=h1.append h2
 rwa [← List.drop_drop,List.take_append_drop] at this
theorem TRL.val {T:Nat→Prop} {w:World} {cs:List Value} {x:Value} (h:cs=[x]):TRL T w [.v x] cs:=by rw [h]; exact .one (.v x)
/-- Whatever type t's cells read as, within the reach, they read as some 'a'. -/
def OpenR {α:Type} (P:Program) (R:α→List AV) (Wf:α→Prop) (t:TypeId):Prop :=
 ∀ {H:Type} (enc:TypeId×Value→H) (W:World) (fuel:Nat) (cs:List Value) (d:DataW H) (ps:List MemPlace),
  DataW.trod enc P W 0 (fun _=>true) true fuel t cs=some (d,ps)→(∀ m∈d.weights P t,m≤140737488351232)→∃ a,Wf a∧TRL (LtB W.heap.size) W (R a) cs
theorem weightsAll_mem {H:Type} {P:Program} {e:TypeId}:∀ {ds:List (DataW H)} {d:DataW H},d∈ds→∀ m∈d.weights P e,m∈DataW.weightsAll P e ds
 | x :: r,d,h,m,hm=>by
  simp only [DataW.weightsAll,List.mem_append]
  rcases List.mem_cons.1 h with rfl | h
  ·exact .inl hm
  ·exact .inr (weightsAll_mem h m hm)
theorem choose_lt' {α:Type} [Inhabited α] {m:Nat} {p:Nat→α→Prop} (h:∀ i,i < m→∃ y,p i y):∃ f:Nat→α,∀ i,i < m→p i (f i):=by
 refine ⟨fun i=>if h':i < m then Classical.choose (h i h') else default,fun i hi=>?_⟩
 simp only [hi,dif_pos]
 exact Classical.choose_spec (h i hi)
theorem OpenR.slice {α:Type} {P:Program} {R:α→List AV} {Wf:α→Prop} {t e q:Nat} (hR:OpenR P R Wf e) (ht:P.underlying t=some (.slice e)) (hn:P.cellsOf e=q) (hq:∀ a,(R a).length=q) (hpos:1≤q) (hb:1≤P.bytesOf e) :
  OpenR P (fun l:List α=>[.tree q (l.map R)]) (fun l=>l.length≤140737488355328∧∀ a∈l,Wf a) t:=by
 intro H enc W fuel cs d ps h hw
 rcases open_slice ht h with ⟨rfl,_⟩ | ⟨a,len,cap,m,n,D,Pl,rfl,_,hl,hm,hmm,hx,hi⟩
 ·exact ⟨[],⟨Nat.zero_le _,fun a h=>by cases h⟩,.one (.tree0 (Nat.zero_le _))⟩
 ·simp only [if_true] at hmm
  subst hmm
  simp only [Prod.mk.injEq] at hx
  obtain ⟨rfl,_⟩:=hx
  simp only [DataW.weights,ht,List.length_map,List.length_range,List.mem_cons,List.mem_append] at hw
  have hcap:(len+(m - len)) * P.bytesOf e≤140737488351232:=hw _ (.inl rfl)
  have hlen:len≤140737488355328:=by
   have:len * 1≤(len+(m - len)) * P.bytesOf e:=Nat.mul_le_mul (by omega) hb
   omega
  have hex:∀ i,i < len→∃ (y:α×List Value),(Wf y.1∧TRL (LtB W.heap.size) W (R y.1) y.2)∧W.cells? 0 (a.add (i * P.cellsOf e)) (P.cellsOf e)=some y.2:=by
   intro i hil
   obtain ⟨cs',hc,ht'⟩:=hi i (by omega)
   obtain ⟨y,hy⟩:=hR enc W n cs' (D i) (Pl i) ht' (fun j hj=>hw j (.inr (.inl (weightsAll_mem (List.mem_map.2 ⟨i,by simpa using hil,rfl⟩) j hj))))
   exact ⟨(y,cs'),hy,hc⟩
  by_cases h0:len=0
  ·subst h0
   exact ⟨[],⟨Nat.zero_le _,fun a h=>by cases h⟩,.one (.tree0 hm)⟩
  ·obtain ⟨y0,hy0⟩:=hex 0 (by omega)
   have:Inhabited (α×List Value):=⟨y0⟩
   obtain ⟨f,hf⟩:=choose_lt' hex
   obtain ⟨b,off,spot⟩:=a
   have hc0:=World.cells?_some hy0.2
   have hcell0:=hc0.2.2 0 (by rw [hn]; exact hpos)
   have hsome:∃ v0,W.cell? ((⟨b,off,spot⟩:Addr).add (0 * P.cellsOf e))=some v0:=by
    have hlen0:0 < y0.2.length:=by rw [hc0.2.1,hn]; exact hpos
    refine ⟨y0.2[0],?_⟩
    have:=hcell0
    rw [List.getElem?_eq_getElem hlen0] at this
    simpa [Addr.add] using this
   obtain ⟨v0,hv0⟩:=hsome
   have hspot:spot=none:=by simpa [Addr.add] using World.cell?_spot hv0
   subst hspot
   have hblk:b < W.heap.size:=by
    have:=World.block_lt_of_cell? W _ hv0
    simpa [Addr.add] using this
   refine ⟨(List.range len).map fun i=>(f i).1,⟨by simpa using hlen,fun a ha=>?_⟩,.one ?_⟩
   ·obtain ⟨i,hi',rfl⟩:=List.mem_map.1 ha
    exact (hf i (by simpa using hi')).1.1
   ·have hlr:(((List.range len).map fun i=>(f i).1).map R).length=len:=by simp
    have hrow:∀ k (h:k < (((List.range len).map fun i=>(f i).1).map R).length),(((List.range len).map fun i=>(f i).1).map R)[k]=R (f k).1:=fun k h=>by simp
    have hT:=TR.tree (T:=LtB W.heap.size) (w:=W) (n:=q) (xs:=((List.range len).map fun i=>(f i).1).map R) (b:=b) (off:=off) (cap:=m) (fun k j=>(f k).2.getD j undef) hblk (by rw [hlr]; exact hl) hm (by rw [hlr]; exact hlen)
     (fun k h=>by rw [hrow k h]; exact hq _)
     (fun k j hk hj=>by
      rw [hlr] at hk
      have hck:=World.cells?_some (hf k hk).2
      have hjl:j < P.cellsOf e:=by rw [hn]; exact hj
      have hg:=hck.2.2 j hjl
      rw [add_add,hn] at hg
      have hl2:j < (f k).2.length:=by rw [hck.2.1]; exact hjl
      have e1:(⟨b,off,none⟩:Addr).add (k * q+j)=⟨b,off+k * q+j,none⟩:=by
       by_cases hz:k * q+j=0
       ·have h1:k * q=0:=by omega
        have h2:j=0:=by omega
        rw [h1,h2]; simp [Addr.add]
       ·unfold Addr.add
        rw [if_neg hz]
        simp [Nat.add_assoc]
      rw [← e1,hg]
      simp [List.getD,hl2])
     (fun k h j h'=>by
      have hk:k < len:=by rw [hlr] at h; exact h
      have hr:=(hf k hk).1.2
      have hjr:j < (R (f k).1).length:=by rw [hrow k h] at h'; exact h'
      have hl2:j < (f k).2.length:=by rw [← hr.1]; exact hjr
      have:=hr.2 j hjr hl2
      simp only [hrow k h]
      rw [getD_at hl2]
      exact this)
    rw [hlr] at hT
    exact hT
/-- A struct, field by field. -/
theorem open_struct {P:Program} {t:TypeId} {fs:Array Field} (ht:P.underlying t=some (.struct fs)) {H:Type} {enc:TypeId×Value→H} {W:World} {fuel:Nat} {cs:List Value} {d:DataW H} {ps:List MemPlace}
  (h:DataW.trod enc P W 0 (fun _=>true) true fuel t cs=some (d,ps)) (hw:∀ m∈d.weights P t,m≤140737488351232) :
  ∃ n,cs.length=P.cellsOf t∧∀ (i:Nat) (f:Field),fs[i]? = some f →
   ∃ (d':DataW H) (ps':List MemPlace),DataW.trod enc P W 0 (fun _=>true) true n f.type ((cs.drop f.offset).take (P.cellsOf f.type))=some (d',ps')∧∀ q∈d'.weights P f.type,q≤140737488351232:=by
 obtain ⟨xs,n,_,hx,hlen,hxl,hf⟩:=DataW.trod_struct ht h
 simp only [Prod.mk.injEq] at hx
 obtain ⟨rfl,_⟩:=hx
 refine ⟨n,hlen,fun i f hi=>?_⟩
 have hil:i < fs.size:=(Array.getElem?_eq_some_iff.1 hi).1
 have hx':xs[i]? = some (xs[i]'(by omega)):=List.getElem?_eq_getElem (by omega)
 have h1:=hf i f hi
 rw [hx'] at h1
 refine ⟨_,_,h1,fun q hq=>hw q ?_⟩
 simp only [DataW.weights,ht]
 refine DataW.weights_mem_each (j:=i) (t:=f.type) (d:=(xs[i]'(by omega)).1) ?_ ?_ q hq
 ·simp only [List.getElem?_map,Array.getElem?_toList,hi,Option.map_some]
 ·simp only [List.getElem?_map,hx',Option.map_some]
theorem openR_int {P:Program} {t:TypeId} (ht:P.underlying t=some (.int .i64)):OpenR P iA (fun x=>-9223372036854775808≤x∧x≤9223372036854775807) t:=by
 intro H enc W fuel cs d ps h hw
 obtain ⟨x,h1,_,h2⟩:=DataW.trod_int ht h
 exact ⟨x,bounds_i64 h2,.val h1⟩
theorem openR_bool {P:Program} {t:TypeId} (ht:P.underlying t=some .bool):OpenR P (fun b:Bool=>[.v (.bool b)]) (fun _=>True) t:=by
 intro H enc W fuel cs d ps h hw
 obtain ⟨x,h1,_⟩:=DataW.trod_bool ht h
 exact ⟨x,trivial,.val h1⟩
theorem openR_str {P:Program} {t:TypeId} (ht:P.underlying t=some .string):OpenR P (fun s:ByteArray=>[.v (.string s)]) (fun s=>s.size≤140737488355328) t:=by
 intro H enc W fuel cs d ps h hw
 obtain ⟨x,h1,h2,_⟩:=DataW.trod_string ht h
 simp only [Prod.mk.injEq] at h2
 obtain ⟨rfl,_⟩:=h2
 refine ⟨x,?_,.val h1⟩
 have:=hw x.data.toList.length (by simp [DataW.weights])
 have e:x.data.toList.length=x.size:=by simp
 omega
theorem cl2:Tryz.prog.cellsOf 2=1:=by kernel_rfl
theorem cl3:Tryz.prog.cellsOf 3=1:=by kernel_rfl
theorem cl4:Tryz.prog.cellsOf 4=1:=by kernel_rfl
theorem cl9:Tryz.prog.cellsOf 9=1:=by kernel_rfl
theorem cl128:Tryz.prog.cellsOf 128=2:=by kernel_rfl
theorem cl95:Tryz.prog.cellsOf 95=2:=by kernel_rfl
theorem cl96:Tryz.prog.cellsOf 96=1:=by kernel_rfl
theorem cl98:Tryz.prog.cellsOf 98=2:=by kernel_rfl
theorem cl107:Tryz.prog.cellsOf 107=4:=by kernel_rfl
theorem cl100:Tryz.prog.cellsOf 100=3:=by kernel_rfl
theorem cl109:Tryz.prog.cellsOf 109=4:=by kernel_rfl
theorem cl80:Tryz.prog.cellsOf 80=5:=by kernel_rfl
theorem cl76:Tryz.prog.cellsOf 76=7:=by kernel_rfl
theorem cl34:Tryz.prog.cellsOf 34=1:=by kernel_rfl
theorem cl35:Tryz.prog.cellsOf 35=1:=by kernel_rfl
theorem cl70:Tryz.prog.cellsOf 70=1:=by kernel_rfl
theorem cl71:Tryz.prog.cellsOf 71=1:=by kernel_rfl
theorem cl72:Tryz.prog.cellsOf 72=1:=by kernel_rfl
theorem cl73:Tryz.prog.cellsOf 73=1:=by kernel_rfl
theorem cl74:Tryz.prog.cellsOf 74=1:=by kernel_rfl
theorem cl37:Tryz.prog.cellsOf 37=4:=by kernel_rfl
theorem by3_:1≤Tryz.prog.bytesOf 3:=Nat.le_of_ble_eq_true (by kernel_rfl)
theorem by128_:1≤Tryz.prog.bytesOf 128:=Nat.le_of_ble_eq_true (by kernel_rfl)
theorem by95_:1≤Tryz.prog.bytesOf 95:=Nat.le_of_ble_eq_true (by kernel_rfl)
theorem by107_:1≤Tryz.prog.bytesOf 107:=Nat.le_of_ble_eq_true (by kernel_rfl)
theorem by100_:1≤Tryz.prog.bytesOf 100:=Nat.le_of_ble_eq_true (by kernel_rfl)
theorem by109_:1≤Tryz.prog.bytesOf 109:=Nat.le_of_ble_eq_true (by kernel_rfl)
theorem by80_:1≤Tryz.prog.bytesOf 80:=Nat.le_of_ble_eq_true (by kernel_rfl)
theorem by76_:1≤Tryz.prog.bytesOf 76:=Nat.le_of_ble_eq_true (by kernel_rfl)
theorem o26:OpenR Tryz.prog paA (fun _=>True) 128:=by
 intro H enc W fuel cs d ps h hw
 obtain ⟨xs,m,_,hx,hlen,hxl,hf⟩:=DataW.trod_array Tryz.underlying128 h
 rw [cl128] at hlen
 simp only [cl3] at hf
 have h0:=hf 0 (by decide)
 have h1:=hf 1 (by decide)
 rw [List.getElem?_eq_getElem (by omega)] at h0 h1
 obtain ⟨x0,e0,_⟩:=DataW.trod_int Tryz.underlying3 h0
 obtain ⟨x1,e1,_⟩:=DataW.trod_int Tryz.underlying3 h1
 have hh:=(TRL.piece (T:=LtB W.heap.size) (w:=W) (o:=0) (m:=1) (.val e0) (TRL.piece (o:=1) (m:=1) (.val e1) (TRL.done hlen)))
 exact ⟨(x0,x1),trivial,hh⟩
theorem o111:OpenR Tryz.prog cfA (fun x=>-9223372036854775808≤x.n∧x.n≤9223372036854775807) 95:=by
 intro H enc W fuel cs d ps h hw
 obtain ⟨n,hlen,hf⟩:=open_struct Tryz.underlying95 h hw
 rw [cl95] at hlen
 obtain ⟨_,_,h0,w0⟩:=hf 0 _ rfl
 obtain ⟨x0,r0,e0⟩:=(openR_int Tryz.underlying3) enc W _ _ _ _ h0 w0
 change TRL _ _ _ (List.take (Tryz.prog.cellsOf 3) (List.drop 0 cs)) at e0
 rw [cl3] at e0
 obtain ⟨_,_,h1,w1⟩:=hf 1 _ rfl
 obtain ⟨x1,r1,e1⟩:=(openR_int Tryz.underlying2) enc W _ _ _ _ h1 w1
 change TRL _ _ _ (List.take (Tryz.prog.cellsOf 2) (List.drop 1 cs)) at e1
 rw [cl2] at e1
 refine ⟨⟨x0,x1⟩,r1,?_⟩
 have hh:=(TRL.piece (o:=0) (m:=1) e0 (TRL.piece (o:=1) (m:=1) e1 (TRL.done hlen)))
 exact hh
theorem o77:OpenR Tryz.prog (fun l:List PCoef=>[.tree 2 (l.map cfA)]) (fun l=>l.length≤140737488355328∧∀ a∈l,-9223372036854775808≤a.n∧a.n≤9223372036854775807) 96:=OpenR.slice (o111) Tryz.underlying96 cl95 (fun _=>rfl) (by decide) by95_
theorem o79:OpenR Tryz.prog liA (fun f=>f.R∧f.cs.length≤140737488355328) 98:=by
 intro H enc W fuel cs d ps h hw
 obtain ⟨n,hlen,hf⟩:=open_struct Tryz.underlying98 h hw
 rw [cl98] at hlen
 obtain ⟨_,_,h0,w0⟩:=hf 0 _ rfl
 obtain ⟨x0,r0,e0⟩:=(openR_int Tryz.underlying2) enc W _ _ _ _ h0 w0
 change TRL _ _ _ (List.take (Tryz.prog.cellsOf 2) (List.drop 0 cs)) at e0
 rw [cl2] at e0
 obtain ⟨_,_,h1,w1⟩:=hf 1 _ rfl
 obtain ⟨x1,r1,e1⟩:=(o77) enc W _ _ _ _ h1 w1
 change TRL _ _ _ (List.take (Tryz.prog.cellsOf 96) (List.drop 1 cs)) at e1
 rw [cl96] at e1
 refine ⟨⟨x0,x1⟩,⟨⟨r0,r1.2⟩,r1.1⟩,?_⟩
 have hh:=(TRL.piece (o:=0) (m:=1) e0 (TRL.piece (o:=1) (m:=1) e1 (TRL.done hlen)))
 exact hh
theorem o81:OpenR Tryz.prog axA (fun x=>x.of_.R∧x.of_.cs.length≤140737488355328) 107:=by
 intro H enc W fuel cs d ps h hw
 obtain ⟨n,hlen,hf⟩:=open_struct Tryz.underlying107 h hw
 rw [cl107] at hlen
 obtain ⟨_,_,h0,w0⟩:=hf 0 _ rfl
 obtain ⟨x0,r0,e0⟩:=(o79) enc W _ _ _ _ h0 w0
 change TRL _ _ _ (List.take (Tryz.prog.cellsOf 98) (List.drop 0 cs)) at e0
 rw [cl98] at e0
 obtain ⟨_,_,h1,w1⟩:=hf 1 _ rfl
 obtain ⟨x1,r1,e1⟩:=(openR_int Tryz.underlying2) enc W _ _ _ _ h1 w1
 change TRL _ _ _ (List.take (Tryz.prog.cellsOf 2) (List.drop 2 cs)) at e1
 rw [cl2] at e1
 obtain ⟨_,_,h2,w2⟩:=hf 2 _ rfl
 obtain ⟨x2,r2,e2⟩:=(openR_int Tryz.underlying3) enc W _ _ _ _ h2 w2
 change TRL _ _ _ (List.take (Tryz.prog.cellsOf 3) (List.drop 3 cs)) at e2
 rw [cl3] at e2
 refine ⟨⟨x0,x1,x2⟩,r0,?_⟩
 have hh:=(TRL.piece (o:=0) (m:=2) e0 (TRL.piece (o:=2) (m:=1) e1 (TRL.piece (o:=3) (m:=1) e2 (TRL.done hlen))))
 exact hh
theorem o84:OpenR Tryz.prog cnA (fun x=>x.l.R∧x.l.cs.length≤140737488355328) 100:=by
 intro H enc W fuel cs d ps h hw
 obtain ⟨n,hlen,hf⟩:=open_struct Tryz.underlying100 h hw
 rw [cl100] at hlen
 obtain ⟨_,_,h0,w0⟩:=hf 0 _ rfl
 obtain ⟨x0,r0,e0⟩:=(o79) enc W _ _ _ _ h0 w0
 change TRL _ _ _ (List.take (Tryz.prog.cellsOf 98) (List.drop 0 cs)) at e0
 rw [cl98] at e0
 obtain ⟨_,_,h1,w1⟩:=hf 1 _ rfl
 obtain ⟨x1,r1,e1⟩:=(openR_bool Tryz.underlying4) enc W _ _ _ _ h1 w1
 change TRL _ _ _ (List.take (Tryz.prog.cellsOf 4) (List.drop 2 cs)) at e1
 rw [cl4] at e1
 refine ⟨⟨x0,x1⟩,r0,?_⟩
 have hh:=(TRL.piece (o:=0) (m:=2) e0 (TRL.piece (o:=2) (m:=1) e1 (TRL.done hlen)))
 exact hh
theorem o52:OpenR Tryz.prog teA (fun x=>x.s.size≤140737488355328) 109:=by
 intro H enc W fuel cs d ps h hw
 obtain ⟨n,hlen,hf⟩:=open_struct Tryz.underlying109 h hw
 rw [cl109] at hlen
 obtain ⟨_,_,h0,w0⟩:=hf 0 _ rfl
 obtain ⟨x0,r0,e0⟩:=(openR_int Tryz.underlying3) enc W _ _ _ _ h0 w0
 change TRL _ _ _ (List.take (Tryz.prog.cellsOf 3) (List.drop 0 cs)) at e0
 rw [cl3] at e0
 obtain ⟨_,_,h1,w1⟩:=hf 1 _ rfl
 obtain ⟨x1,r1,e1⟩:=(openR_int Tryz.underlying3) enc W _ _ _ _ h1 w1
 change TRL _ _ _ (List.take (Tryz.prog.cellsOf 3) (List.drop 1 cs)) at e1
 rw [cl3] at e1
 obtain ⟨_,_,h2,w2⟩:=hf 2 _ rfl
 obtain ⟨x2,r2,e2⟩:=(openR_bool Tryz.underlying4) enc W _ _ _ _ h2 w2
 change TRL _ _ _ (List.take (Tryz.prog.cellsOf 4) (List.drop 2 cs)) at e2
 rw [cl4] at e2
 obtain ⟨_,_,h3,w3⟩:=hf 3 _ rfl
 obtain ⟨x3,r3,e3⟩:=(openR_str Tryz.underlying9) enc W _ _ _ _ h3 w3
 change TRL _ _ _ (List.take (Tryz.prog.cellsOf 9) (List.drop 3 cs)) at e3
 rw [cl9] at e3
 refine ⟨⟨x0,x1,x2,x3⟩,r3,?_⟩
 have hh:=(TRL.piece (o:=0) (m:=1) e0 (TRL.piece (o:=1) (m:=1) e1 (TRL.piece (o:=2) (m:=1) e2 (TRL.piece (o:=3) (m:=1) e3 (TRL.done hlen)))))
 exact hh
theorem o44:OpenR Tryz.prog vA (fun _=>True) 80:=by
 intro H enc W fuel cs d ps h hw
 obtain ⟨n,hlen,hf⟩:=open_struct Tryz.underlying80 h hw
 rw [cl80] at hlen
 obtain ⟨_,_,h0,w0⟩:=hf 0 _ rfl
 obtain ⟨x0,r0,e0⟩:=(openR_int Tryz.underlying3) enc W _ _ _ _ h0 w0
 change TRL _ _ _ (List.take (Tryz.prog.cellsOf 3) (List.drop 0 cs)) at e0
 rw [cl3] at e0
 obtain ⟨_,_,h1,w1⟩:=hf 1 _ rfl
 obtain ⟨x1,r1,e1⟩:=(openR_int Tryz.underlying2) enc W _ _ _ _ h1 w1
 change TRL _ _ _ (List.take (Tryz.prog.cellsOf 2) (List.drop 1 cs)) at e1
 rw [cl2] at e1
 obtain ⟨_,_,h2,w2⟩:=hf 2 _ rfl
 obtain ⟨x2,r2,e2⟩:=(openR_int Tryz.underlying2) enc W _ _ _ _ h2 w2
 change TRL _ _ _ (List.take (Tryz.prog.cellsOf 2) (List.drop 2 cs)) at e2
 rw [cl2] at e2
 obtain ⟨_,_,h3,w3⟩:=hf 3 _ rfl
 obtain ⟨x3,r3,e3⟩:=(openR_int Tryz.underlying3) enc W _ _ _ _ h3 w3
 change TRL _ _ _ (List.take (Tryz.prog.cellsOf 3) (List.drop 3 cs)) at e3
 rw [cl3] at e3
 obtain ⟨_,_,h4,w4⟩:=hf 4 _ rfl
 obtain ⟨x4,r4,e4⟩:=(openR_bool Tryz.underlying4) enc W _ _ _ _ h4 w4
 change TRL _ _ _ (List.take (Tryz.prog.cellsOf 4) (List.drop 4 cs)) at e4
 rw [cl4] at e4
 refine ⟨⟨x0,x1,x2,x3,x4⟩,trivial,?_⟩
 have hh:=(TRL.piece (o:=0) (m:=1) e0 (TRL.piece (o:=1) (m:=1) e1 (TRL.piece (o:=2) (m:=1) e2 (TRL.piece (o:=3) (m:=1) e3 (TRL.piece (o:=4) (m:=1) e4 (TRL.done hlen))))))
 exact hh
theorem o29:OpenR Tryz.prog (fun l:List Int=>[.tree 1 (l.map iA)]) (fun l=>l.length≤140737488355328∧∀ a∈l,-9223372036854775808≤a∧a≤9223372036854775807) 70:=OpenR.slice (openR_int Tryz.underlying3) Tryz.underlying70 cl3 (fun _=>rfl) (by decide) by3_
theorem o30:OpenR Tryz.prog (fun l:List PAux=>[.tree 4 (l.map axA)]) (fun l=>l.length≤140737488355328∧∀ a∈l,a.of_.R∧a.of_.cs.length≤140737488355328) 71:=OpenR.slice (o81) Tryz.underlying71 cl107 (fun _=>rfl) (by decide) by107_
theorem o31:OpenR Tryz.prog (fun l:List PCon=>[.tree 3 (l.map cnA)]) (fun l=>l.length≤140737488355328∧∀ a∈l,a.l.R∧a.l.cs.length≤140737488355328) 72:=OpenR.slice (o84) Tryz.underlying72 cl100 (fun _=>rfl) (by decide) by100_
theorem o32:OpenR Tryz.prog (fun l:List PTest=>[.tree 4 (l.map teA)]) (fun l=>l.length≤140737488355328∧∀ a∈l,a.s.size≤140737488355328) 73:=OpenR.slice (o52) Tryz.underlying73 cl109 (fun _=>rfl) (by decide) by109_
theorem o33:OpenR Tryz.prog (fun l:List (Int×Int)=>[.tree 2 (l.map paA)]) (fun l=>l.length≤140737488355328∧∀ a∈l,True) 74:=OpenR.slice (o26) Tryz.underlying74 cl128 (fun _=>rfl) (by decide) by128_
theorem o22:OpenR Tryz.prog (fun l:List PVar=>[.tree 5 (l.map vA)]) (fun l=>l.length≤140737488355328∧∀ a∈l,True) 34:=OpenR.slice (o44) Tryz.underlying34 cl80 (fun _=>rfl) (by decide) by80_
theorem o35:OpenR Tryz.prog clA (fun c=>c.Fits∧c.R) 76:=by
 intro H enc W fuel cs d ps h hw
 obtain ⟨n,hlen,hf⟩:=open_struct Tryz.underlying76 h hw
 rw [cl76] at hlen
 obtain ⟨_,_,h0,w0⟩:=hf 0 _ rfl
 obtain ⟨x0,r0,e0⟩:=(o29) enc W _ _ _ _ h0 w0
 change TRL _ _ _ (List.take (Tryz.prog.cellsOf 70) (List.drop 0 cs)) at e0
 rw [cl70] at e0
 obtain ⟨_,_,h1,w1⟩:=hf 1 _ rfl
 obtain ⟨x1,r1,e1⟩:=(o29) enc W _ _ _ _ h1 w1
 change TRL _ _ _ (List.take (Tryz.prog.cellsOf 70) (List.drop 1 cs)) at e1
 rw [cl70] at e1
 obtain ⟨_,_,h2,w2⟩:=hf 2 _ rfl
 obtain ⟨x2,r2,e2⟩:=(o30) enc W _ _ _ _ h2 w2
 change TRL _ _ _ (List.take (Tryz.prog.cellsOf 71) (List.drop 2 cs)) at e2
 rw [cl71] at e2
 obtain ⟨_,_,h3,w3⟩:=hf 3 _ rfl
 obtain ⟨x3,r3,e3⟩:=(o31) enc W _ _ _ _ h3 w3
 change TRL _ _ _ (List.take (Tryz.prog.cellsOf 72) (List.drop 3 cs)) at e3
 rw [cl72] at e3
 obtain ⟨_,_,h4,w4⟩:=hf 4 _ rfl
 obtain ⟨x4,r4,e4⟩:=(o32) enc W _ _ _ _ h4 w4
 change TRL _ _ _ (List.take (Tryz.prog.cellsOf 73) (List.drop 4 cs)) at e4
 rw [cl73] at e4
 obtain ⟨_,_,h5,w5⟩:=hf 5 _ rfl
 obtain ⟨x5,r5,e5⟩:=(o33) enc W _ _ _ _ h5 w5
 change TRL _ _ _ (List.take (Tryz.prog.cellsOf 74) (List.drop 5 cs)) at e5
 rw [cl74] at e5
 obtain ⟨_,_,h6,w6⟩:=hf 6 _ rfl
 obtain ⟨x6,r6,e6⟩:=(o33) enc W _ _ _ _ h6 w6
 change TRL _ _ _ (List.take (Tryz.prog.cellsOf 74) (List.drop 6 cs)) at e6
 rw [cl74] at e6
 refine ⟨⟨x0,x1,x2,x3,x4,x5,x6⟩,⟨⟨r0.1,r1.1,r2.1,r3.1,r4.1,r5.1,r6.1,fun a h=>(r2.2 a h).2,fun a h=>(r3.2 a h).2,r4.2⟩,⟨fun a h=>(r2.2 a h).1,fun a h=>(r3.2 a h).1⟩⟩,?_⟩
 have hh:=(TRL.piece (o:=0) (m:=1) e0 (TRL.piece (o:=1) (m:=1) e1 (TRL.piece (o:=2) (m:=1) e2 (TRL.piece (o:=3) (m:=1) e3 (TRL.piece (o:=4) (m:=1) e4 (TRL.piece (o:=5) (m:=1) e5 (TRL.piece (o:=6) (m:=1) e6 (TRL.done hlen))))))))
 exact hh
theorem o23:OpenR Tryz.prog (fun l:List PCl=>[.tree 7 (l.map clA)]) (fun l=>l.length≤140737488355328∧∀ a∈l,a.Fits∧a.R) 35:=OpenR.slice (o35) Tryz.underlying35 cl76 (fun _=>rfl) (by decide) by76_
theorem o25:OpenR Tryz.prog prA (fun p=>p.Fits∧p.R) 37:=by
 intro H enc W fuel cs d ps h hw
 obtain ⟨n,hlen,hf⟩:=open_struct Tryz.underlying37 h hw
 rw [cl37] at hlen
 obtain ⟨_,_,h0,w0⟩:=hf 0 _ rfl
 obtain ⟨x0,r0,e0⟩:=(openR_int Tryz.underlying3) enc W _ _ _ _ h0 w0
 change TRL _ _ _ (List.take (Tryz.prog.cellsOf 3) (List.drop 0 cs)) at e0
 rw [cl3] at e0
 obtain ⟨_,_,h1,w1⟩:=hf 1 _ rfl
 obtain ⟨x1,r1,e1⟩:=(openR_int Tryz.underlying3) enc W _ _ _ _ h1 w1
 change TRL _ _ _ (List.take (Tryz.prog.cellsOf 3) (List.drop 1 cs)) at e1
 rw [cl3] at e1
 obtain ⟨_,_,h2,w2⟩:=hf 2 _ rfl
 obtain ⟨x2,r2,e2⟩:=(o22) enc W _ _ _ _ h2 w2
 change TRL _ _ _ (List.take (Tryz.prog.cellsOf 34) (List.drop 2 cs)) at e2
 rw [cl34] at e2
 obtain ⟨_,_,h3,w3⟩:=hf 3 _ rfl
 obtain ⟨x3,r3,e3⟩:=(o23) enc W _ _ _ _ h3 w3
 change TRL _ _ _ (List.take (Tryz.prog.cellsOf 35) (List.drop 3 cs)) at e3
 rw [cl35] at e3
 refine ⟨⟨x0,x1,x2,x3⟩,⟨⟨r2.1,r3.1,fun a h=>(r3.2 a h).1⟩,⟨fun a h=>(r3.2 a h).2⟩⟩,?_⟩
 have hh:=(TRL.piece (o:=0) (m:=1) e0 (TRL.piece (o:=1) (m:=1) e1 (TRL.piece (o:=2) (m:=1) e2 (TRL.piece (o:=3) (m:=1) e3 (TRL.done hlen)))))
 exact hh
theorem oAc:OpenR Tryz.prog acA (fun a=>a.p.Fits∧a.p.R) 39:=by
 intro H enc W fuel cs d ps h hw
 obtain ⟨n,hlen,hf⟩:=open_struct Tryz.underlying39 h hw
 rw [show Tryz.prog.cellsOf 39=5 by kernel_rfl] at hlen
 obtain ⟨_,_,h0,w0⟩:=hf 0 _ rfl
 obtain ⟨x0,r0,e0⟩:=(openR_bool Tryz.underlying4) enc W _ _ _ _ h0 w0
 change TRL _ _ _ (List.take (Tryz.prog.cellsOf 4) (List.drop 0 cs)) at e0
 rw [show Tryz.prog.cellsOf 4=1 by kernel_rfl] at e0
 obtain ⟨_,_,h1,w1⟩:=hf 1 _ rfl
 obtain ⟨x1,r1,e1⟩:=(o25) enc W _ _ _ _ h1 w1
 change TRL _ _ _ (List.take (Tryz.prog.cellsOf 37) (List.drop 1 cs)) at e1
 rw [show Tryz.prog.cellsOf 37=4 by kernel_rfl] at e1
 refine ⟨⟨x0,x1⟩,r1,?_⟩
 have hh:=(TRL.piece (o:=0) (m:=1) e0 (TRL.piece (o:=1) (m:=4) e1 (TRL.done hlen)))
 exact hh
theorem oAcs:OpenR Tryz.prog (fun l:List PAcc=>[.tree 5 (l.map acA)]) (fun l=>l.length≤140737488355328∧∀ a∈l,a.p.Fits∧a.p.R) 31:=OpenR.slice oAc Tryz.underlying31 (show Tryz.prog.cellsOf 39=5 by kernel_rfl) (fun _=>rfl) (by decide) (Nat.le_of_ble_eq_true (by kernel_rfl))
theorem oOp:OpenR Tryz.prog opA (fun o=>o.l.length≤140737488355328∧∀ a∈o.l,a.p.Fits∧a.p.R) 33:=by
 intro H enc W fuel cs d ps h hw
 obtain ⟨n,hlen,hf⟩:=open_struct Tryz.underlying33 h hw
 rw [show Tryz.prog.cellsOf 33=3 by kernel_rfl] at hlen
 obtain ⟨_,_,h0,w0⟩:=hf 0 _ rfl
 obtain ⟨x0,r0,e0⟩:=(openR_bool Tryz.underlying4) enc W _ _ _ _ h0 w0
 change TRL _ _ _ (List.take (Tryz.prog.cellsOf 4) (List.drop 0 cs)) at e0
 rw [show Tryz.prog.cellsOf 4=1 by kernel_rfl] at e0
 obtain ⟨_,_,h1,w1⟩:=hf 1 _ rfl
 obtain ⟨x1,r1,e1⟩:=(openR_int Tryz.underlying2) enc W _ _ _ _ h1 w1
 change TRL _ _ _ (List.take (Tryz.prog.cellsOf 2) (List.drop 1 cs)) at e1
 rw [show Tryz.prog.cellsOf 2=1 by kernel_rfl] at e1
 obtain ⟨_,_,h2,w2⟩:=hf 2 _ rfl
 obtain ⟨x2,r2,e2⟩:=(oAcs) enc W _ _ _ _ h2 w2
 change TRL _ _ _ (List.take (Tryz.prog.cellsOf 31) (List.drop 2 cs)) at e2
 rw [show Tryz.prog.cellsOf 31=1 by kernel_rfl] at e2
 refine ⟨⟨x0,x1,x2⟩,r2,?_⟩
 have hh:=(TRL.piece (o:=0) (m:=1) e0 (TRL.piece (o:=1) (m:=1) e1 (TRL.piece (o:=2) (m:=1) e2 (TRL.done hlen))))
 exact hh
theorem oOps:OpenR Tryz.prog (fun l:List POp=>[.tree 3 (l.map opA)]) (fun l=>l.length≤140737488355328∧∀ a∈l,a.l.length≤140737488355328∧∀ b∈a.l,b.p.Fits∧b.p.R) 22:=OpenR.slice oOp Tryz.underlying22 (show Tryz.prog.cellsOf 33=3 by kernel_rfl) (fun _=>rfl) (by decide) (Nat.le_of_ble_eq_true (by kernel_rfl))
/-- The operations that come as an argument. -/
theorem open_ops {r:Reach} {b0:Nat} {H:Type} {enc:TypeId×Value→H} {W:World} {v:Value} {d:DataW H} {ps:List MemPlace} (hv:Value.okWide Tryz.prog W r b0 22 v)
  (h:DataW.Trod enc Tryz.prog W 0 (fun _=>true) true 22 v d ps) (hw:∀ m∈d.weights Tryz.prog 22,m≤140737488351232) :
  ∃ l:List POp,l.length≤140737488355328∧(∀ a∈l,a.l.length≤140737488355328∧∀ b∈a.l,b.p.Fits∧b.p.R)∧TR (LtB W.heap.size) W (.tree 3 (l.map opA)) v:=by
 obtain ⟨a,len,cap,rfl⟩:=okWide_slice Tryz.underlying22 hv
 obtain ⟨fuel,hf⟩:=h
 obtain ⟨l,⟨h1,h2⟩,h3⟩:=oOps enc W fuel _ d ps hf hw
 exact ⟨l,h1,h2,h3.2 0 (by simp) (by simp [Value.cells])⟩
end Go.Proofs.YtfelpgeolclnbaaGreatDoor
