/- Texts of the claim. -/
import Derived.Test.YtfelpgeolclnbaaGreatDoorL1
import Derived.Test.YtfelpgeolclnbaaGreatDoorP1
import Derived.Test.YtfelpgeolclnbaaGreatDoorQ1
namespace Go.Proofs.YtfelpgeolclnbaaGreatDoor
set_option linter.unusedVariables false
set_option linter.unusedSimpArgs false
open Go.RowKit
instance:Inhabited PPred:=⟨⟨0,0,[],[]⟩⟩
instance:Inhabited PAcc:=⟨⟨false,default⟩⟩
structure PReq where
 t:Int
 l:List PAcc
instance:Inhabited PReq:=⟨⟨0,[]⟩⟩
abbrev rqA (r:PReq):List AV:=[.v (.int .i64 r.t),.tree 5 (r.l.map acA)]
theorem rowRq:RowF rqA 2:=⟨fun _=>rfl,fun _=>rfl,fun _ _=>rfl,fun _ _=>rfl,fun _ _=>rfl,fun _=>rfl⟩
/-- The place of a transaction's request, or -1. -/
def findI (l:List PReq) (t:Int):Int:=match l.findIdx? (fun r=>r.t==t) with | some i=>(i:Int) | none=>-1
def notT (l:List PReq) (t:Int) (j:Nat):Bool:=!((l.getD j default).t==t)
theorem findI_hit {l:List PReq} {t:Int} {k:Nat} (hk:k < l.length) (h:l[k].t=t) (hj:∀ j,j < k→notT l t j=true):findI l t=((k:Nat):Int):=by
 have e:l.findIdx? (fun r=>r.t==t)=some k:=by
  rw [List.findIdx?_eq_some_iff_getElem]
  refine ⟨hk,by simp [h],fun j hj'=>?_⟩
  have:=hj j hj'
  unfold notT at this
  rw [getD_at (by omega)] at this
  simpa using this
 unfold findI; rw [e]
theorem findI_end {l:List PReq} {t:Int} {k:Nat} (hk:k≤l.length) (hge:¬ k < l.length) (hj:∀ j,j < k→notT l t j=true):findI l t=-1:=by
 have e:l.findIdx? (fun r=>r.t==t)=none:=by
  rw [List.findIdx?_eq_none_iff]
  intro x hx
  obtain ⟨j,hj',rfl⟩:=List.getElem_of_mem hx
  have:=hj j (by omega)
  unfold notT at this
  rw [getD_at hj'] at this
  simpa using this
 unfold findI; rw [e]
theorem findI_cases (l:List PReq) (t:Int):(findI l t=-1∧∀ r∈l,r.t≠t)∨∃ i,∃ h:i < l.length,findI l t=((i:Nat):Int)∧l[i].t=t:=by
 unfold findI
 cases e:l.findIdx? (fun r=>r.t==t) with
 | none=>
  left
  rw [List.findIdx?_eq_none_iff] at e
  exact ⟨rfl,fun r hr=>by simpa using e r hr⟩
 | some i=>
  right
  rw [List.findIdx?_eq_some_iff_getElem] at e
  obtain ⟨h1,h2,_⟩:=e
  exact ⟨i,h1,rfl,by simpa using h2⟩
theorem nb {b:Bool} {l:List PReq} (he:b=true→l=[]) {k:Nat} (h:k < l.length):b=false:=by
 cases b with
 | false=>rfl
 | true=>rw [he rfl] at h; exact absurd h (by simp)
theorem put_rq {l:List PReq} {v i:Nat} (h:i < l.length):(Blk.mk v (rF rqA l) 2 false)=⟨v,rF rqA (l.take i)++(rqA l[i]++rF rqA (l.drop (i+1))),2,false⟩:=by rw [← rF_at h]
theorem sX {α:Type} {f:α→List AV} {q:Nat} (h:RowF f q) {g:Nat→Nat} {v:Nat} {l:List α} {n:Bool}:some (⟨v,rF f l,q,n⟩:Blk)=some ((Blk.mk v (rF f l) q n).ren g):=by rw [rF_blk h]
theorem delta_q {α:Type} {f:α→List AV} {q:Nat} (h:RowF f q) {m:List (Nat×Nat)} {i j v w n:Nat} {r:List α} {b:Bool} (e1:gOf m TOP=i) (e2:gOf m (TOP+1)=j) :
  deltaH m [(TOP,some ⟨0,[.sl (TOP+1) v 0 n],0,false⟩),(TOP+1,some ⟨w,rF f r,q,b⟩)]=[(i,some ⟨0,[.sl j v 0 n],0,false⟩),(j,some ⟨w,rF f r,q,b⟩)]:=by
 simp only [deltaH,List.map_cons,List.map_nil,e1,e2,Option.map_some,rF_blk h]
 simp only [Blk.ren,renL,AV.ren,e2]
/-- Are all predicates valid? -/
def rightP (a:List PAcc) (j:Nat):Bool:=refB (a.getD j default).p (a.getD j default).p.cols
def rightB (a:List PAcc):Bool:=allN a.length (rightP a)
def pushE (l:List PReq) (t:Int) (a:List PAcc):Int:=if t < 1 then 1 else if rightB a=true then (if findI l t < 0 then 0 else 13) else 1
def pushL (l:List PReq) (t:Int) (a:List PAcc):List PReq:=if pushE l t a=0 then l++[⟨t,a⟩] else l
def remB (l:List PReq) (t:Int):Bool:=decide (0≤findI l t)
def remL (l:List PReq) (t:Int):List PReq:=if findI l t < 0 then l else l.take (findI l t).toNat++l.drop ((findI l t).toNat+1)
theorem push0 {l:List PReq} {t:Int} {a:List PAcc} (h1:¬ t < 1) (h2:rightB a=true) (h3:findI l t < 0):pushE l t a=0∧pushL l t a=l++[⟨t,a⟩]:=by
 have e:pushE l t a=0:=by unfold pushE; rw [if_neg h1,if_pos h2,if_pos h3]
 exact ⟨e,by unfold pushL; rw [if_pos e]⟩
theorem push13 {l:List PReq} {t:Int} {a:List PAcc} (h1:¬ t < 1) (h2:rightB a=true) (h3:¬ findI l t < 0):pushE l t a=13∧pushL l t a=l:=by
 have e:pushE l t a=13:=by unfold pushE; rw [if_neg h1,if_pos h2,if_neg h3]
 exact ⟨e,by unfold pushL; rw [e]; rfl⟩
theorem push1 {l:List PReq} {t:Int} {a:List PAcc} (h:t < 1∨rightB a=false):pushE l t a=1∧pushL l t a=l:=by
 have e:pushE l t a=1:=by
  unfold pushE
  rcases h with h | h
  ·rw [if_pos h]
  ·rw [h]; simp
 exact ⟨e,by unfold pushL; rw [e]; rfl⟩
theorem rem_no {l:List PReq} {t:Int} (h:findI l t < 0):remB l t=false∧remL l t=l:=⟨by unfold remB; simp; omega,by unfold remL; rw [if_pos h]⟩
theorem rem_yes {l:List PReq} {t:Int} {i:Nat} (h:findI l t=((i:Nat):Int)):remB l t=true∧remL l t=l.take i++l.drop (i+1):=⟨by unfold remB; rw [h]; simp,by unfold remL; rw [h,if_neg (by omega)]; rfl⟩
def pushV (l:List PReq) (t:Int) (a:List PAcc) (v:Nat):Nat:=if pushE l t a=0 then v+1 else v
def pushF (l:List PReq) (t:Int) (a:List PAcc) (b:Bool):Bool:=if pushE l t a=0 then false else b
theorem pv0 {l:List PReq} {t:Int} {a:List PAcc} {v:Nat} {b:Bool} (h:pushE l t a=0):pushV l t a v=v+1∧pushF l t a b=false:=by unfold pushV pushF; rw [if_pos h,if_pos h]; exact ⟨rfl,rfl⟩
theorem pvn {l:List PReq} {t:Int} {a:List PAcc} {v:Nat} {b:Bool} (h:¬ pushE l t a=0):pushV l t a v=v∧pushF l t a b=b:=by unfold pushV pushF; rw [if_neg h,if_neg h]; exact ⟨rfl,rfl⟩
theorem push_keep {l:List PReq} {t:Int} {a:List PAcc} {v:Nat} {b:Bool} {e:Int} (h:pushE l t a=e∧pushL l t a=l) (h0:¬ e=0) :
  AV.v (.int .i64 e)=.v (.int .i64 (pushE l t a))∧([(TOP,some ⟨0,[.sl (TOP+1) (pushV l t a v) 0 (pushL l t a).length],0,false⟩),(TOP+1,some ⟨pushV l t a v,rF rqA (pushL l t a),2,pushF l t a b⟩)]:List (Nat×Option Blk))=([(TOP,some ⟨0,[.sl (TOP+1) v 0 l.length],0,false⟩),(TOP+1,some ⟨v,rF rqA l,2,b⟩)]:List (Nat×Option Blk)):=by
 obtain ⟨h1,h2⟩:=h
 have h3:=pvn (l:=l) (t:=t) (a:=a) (v:=v) (b:=b) (by rw [h1]; exact h0)
 rw [h1,h2,h3.1,h3.2]; exact ⟨rfl,rfl⟩
theorem push_new {l:List PReq} {t:Int} {a:List PAcc} {v:Nat} {b:Bool} (h:pushE l t a=0∧pushL l t a=l++[⟨t,a⟩]) :
  AV.v (.int .i64 0)=.v (.int .i64 (pushE l t a))∧([(TOP,some ⟨0,[.sl (TOP+1) (pushV l t a v) 0 (pushL l t a).length],0,false⟩),(TOP+1,some ⟨pushV l t a v,rF rqA (pushL l t a),2,pushF l t a b⟩)]:List (Nat×Option Blk))=([(TOP,some ⟨0,[.sl (TOP+1) (v+1) 0 (l++[(⟨t,a⟩:PReq)]).length],0,false⟩),(TOP+1,some ⟨v+1,rF rqA (l++[(⟨t,a⟩:PReq)]),2,false⟩)]:List (Nat×Option Blk)):=by
 obtain ⟨h1,h2⟩:=h
 have h3:=pv0 (l:=l) (t:=t) (a:=a) (v:=v) (b:=b) h1
 rw [h1,h2,h3.1,h3.2]; exact ⟨rfl,rfl⟩
theorem bod43:bodied Tryz.prog 43=true:=by kernel_rfl
theorem bod44:bodied Tryz.prog 44=true:=by kernel_rfl
theorem fi29_0:fieldInfo Tryz.prog 29 0=some (0,1):=by kernel_rfl
theorem fi51_0:fieldInfo Tryz.prog 51 0=some (0,1):=by kernel_rfl
theorem fi68_0:fieldInfo Tryz.prog 68 0=some (0,1):=by kernel_rfl
theorem fi83_0:fieldInfo Tryz.prog 83 0=some (0,1):=by kernel_rfl
theorem row27:rowOf Tryz.prog 27=some none:=by kernel_rfl
theorem row66:rowOf Tryz.prog 66=some none:=by kernel_rfl
theorem row83:rowOf Tryz.prog 83=some (some 2):=by kernel_rfl
theorem sz51:sizeInfo Tryz.prog 51=some 2:=by kernel_rfl
theorem sz83:sizeInfo Tryz.prog 83=some 2:=by kernel_rfl
set_option maxRecDepth 100000 in
set_option maxHeartbeats 4000000 in
theorem fd_p (r:PReq) (t:Int):PCall Tryz.prog 44 [.agg (rqA r),.tp [.v (.int .i64 t)] 0] (.v (.bool (r.t==t))):=by
 refine pB Tryz.func44 rfl Tryz.ntmps44 (Nat.le_of_ble_eq_true rfl) ?_
 refine wS (wR ?_)
 refine oW (LOp.bx rfl) rfl rfl 1 rfl ?_
 refine oL (lA (a:=.v _) rfl) rfl rfl ?_
 refine oN (aN (wS (wR ?_)))
 refine oL (lF fi83_0 rfl rfl rfl rfl rfl) rfl rfl ?_
 refine oL (lD row2 rfl rfl rfl rfl rfl) rfl rfl ?_
 refine oL (lE row2 rfl rfl) rfl rfl ?_
 refine oL (lP rfl (fun _ _=>nofun) (fun _=>rfl)) rfl rfl ?_
 refine oL (lA (a:=.v _) rfl) rfl rfl ?_
 refine oN (aN ?_)
 refine wT (?_)
 refine ⟨.inr rfl,oV Tryz.results44 rfl rfl ?_⟩
 rfl
set_option maxRecDepth 100000 in
set_option maxHeartbeats 4000000 in
theorem ixf_p (l:List PReq) (t:Int) (hl:l.length≤1000):PCall Tryz.prog 43 [.tree 2 (l.map rqA),.clo 44 [.tp [.v (.int .i64 t)] 0]] (.v (.int .i64 (findI l t))):=by
 refine pB Tryz.func43 rfl Tryz.ntmps43 (Nat.le_of_ble_eq_true rfl) ?_
 refine wS (wR ?_)
 refine oL (lA (a:=.v _) rfl) rfl rfl ?_
 refine oN (aN (wS (wS (wR ?_))))
 refine oL (lM (a:=.tree _ _) rfl) rfl rfl ?_
 refine oL (lT rfl Tryz.underlying66 rfl) rfl rfl ?_
 refine oL (lM (a:=.v _) rfl) rfl rfl ?_
 refine oN (aN (wB ?_))
 refine wL (fun n s=>∃ k:Nat,n=(l.length - k)∧s=⟨fL [(0,.tree 2 (l.map rqA)),(1,.clo 44 [.tp [.v (.int .i64 t)] 0]),(7,.v (.int .i64 ((l.length:Nat):Int))),(8,.v (.int .i64 ((k:Nat):Int)))],hLz [],0⟩∧(k≤l.length∧∀ j,j < k→notT l t j=true)) (n:=(l.length - 0)) (s1:=⟨fL [(0,.tree 2 (l.map rqA)),(1,.clo 44 [.tp [.v (.int .i64 t)] 0]),(7,.v (.int .i64 ((l.length:Nat):Int))),(8,.v (.int .i64 ((0:Nat):Int)))],hLz [],0⟩) (cO (.cons rfl rfl (.cons rfl rfl (.cons rfl rfl (.cons rfl rfl .nil)))) .nil) ⟨0,rfl,rfl,⟨Nat.zero_le _,fun j h=>absurd h (Nat.not_lt_zero j)⟩⟩ ?_
 rintro n s ⟨k,rfl,rfl,hinv⟩
 obtain ⟨hk,hj⟩:=hinv
 refine wS (wR ?_)
 refine oL (lP rfl (fun _ _=>nofun) (fun _=>rfl)) rfl rfl ?_
 refine oN (aN (wS ?_))
 refine wC rfl (fun hc9=>?_) (fun hc9=>?_)
 ·skip
  have hlt:k < l.length:=Int.ofNat_lt.1 (of_decide_eq_true hc9)
  refine wK (aN (wS (wB (wS (wR ?_)))))
  refine oL (lM (a:=.v _) rfl) rfl rfl ?_
  refine oL (lA (a:=.v _) rfl) rfl rfl ?_
  refine oN (aN (wS (wR ?_)))
  refine oL (lM (a:=.clo _ _) rfl) rfl rfl ?_
  refine oL (lM (a:=.tree _ _) rfl) rfl rfl ?_
  refine oL (lM (a:=.v _) rfl) rfl rfl ?_
  refine oL (lI Tryz.underlying66 sz83 rfl rfl (by first | assumption | omega)) rfl rfl ?_
  refine oL (LOp.ldTN row83 rfl rfl) rfl rfl ?_
  refine oL (LOp.callVB [] bod44 rfl rfl (FzL.pure rfl) (fd_p l[k] t)) rfl rfl ?_
  refine oN (aN ?_)
  refine wC rfl (fun hc16=>?_) (fun hc16=>?_)
  ·skip
   refine wS (wR ?_)
   refine oL (lM (a:=.v _) rfl) rfl rfl ?_
   refine oL (lA (a:=.v _) rfl) rfl rfl ?_
   refine oN (aN ?_)
   refine wT (bR (aR (aR (bR (aR (?_))))))
   refine ⟨.inr rfl,oV Tryz.results43 rfl rfl ?_⟩
   exact vi_eq (findI_hit hlt (by simpa using hc16) hj).symm
  ·skip
   refine wK (bN (aN (wR ?_)))
   refine oL (lJ rfl rfl (by omega) (by omega)) rfl rfl ?_
   refine oL (lM (a:=.v _) rfl) rfl rfl ?_
   refine oN (aN ?_)
   refine ⟨(l.length - (k+1)),⟨fL [(0,.tree 2 (l.map rqA)),(1,.clo 44 [.tp [.v (.int .i64 t)] 0]),(7,.v (.int .i64 ((l.length:Nat):Int))),(8,.v (.int .i64 (((k+1):Nat):Int)))],hLz [],0⟩,by omega,(cO (.cons rfl rfl (.cons rfl rfl (.cons rfl rfl (.cons rfl rfl .nil)))) .nil),(k+1),rfl,rfl,?_⟩
   refine ⟨by omega,fun j h=>?_⟩
   rcases Nat.lt_succ_iff_lt_or_eq.1 h with h | rfl
   ·exact hj j h
   ·simp only [notT,getD_at hlt]; simpa using hc16
 ·skip
  have hge:¬ k < l.length:=fun h=>of_decide_eq_false hc9 (Int.ofNat_lt.2 h)
  refine AWP.exit (aE (aE (bE ?_)))
  refine aN (wS (wR ?_))
  refine oL (lA (a:=.v _) rfl) rfl rfl ?_
  refine oN (aN ?_)
  refine wT (?_)
  refine ⟨.inr rfl,oV Tryz.results43 rfl rfl ?_⟩
  exact vi_eq (findI_end hk hge hj).symm
set_option maxRecDepth 100000 in
set_option maxHeartbeats 4000000 in
theorem find_h (t:Int) (l:List PReq) (v:Nat) (b:Bool) (hb:b=true→l=[]) (hl:l.length≤1000):HCall Tryz.prog 24 [.ptr TOP 0 0,.v (.int .i64 t)] [(TOP,⟨0,[.sl (TOP+1) v 0 l.length],0,false⟩),(TOP+1,⟨v,rF rqA l,2,b⟩)] [(TOP,some (⟨0,[.sl (TOP+1) v 0 l.length],0,false⟩)),(TOP+1,some (⟨v,rF rqA l,2,b⟩))] (.v (.int .i64 (findI l t))):=by
 refine HCall.of_body Tryz.func24 rfl Tryz.ntmps24 (Nat.le_of_ble_eq_true rfl) ?_
 refine wS (wR ?_)
 refine oW (LOp.bx rfl) rfl rfl 1 rfl ?_
 refine oL (lA (a:=.v _) rfl) rfl rfl ?_
 refine oN (aN (wS (wR ?_)))
 refine oL (lM (a:=.ptr _ _ _) rfl) rfl rfl ?_
 refine oL (lN rfl rfl rfl) rfl rfl ?_
 refine oL (lF fi68_0 rfl rfl rfl rfl rfl) rfl rfl ?_
 refine oL (lD row66 rfl rfl rfl rfl rfl) rfl rfl ?_
 refine oL (LOp.mkFn (cs:=[.ptr 0 0 0]) rfl) rfl rfl ?_
 refine oL (LOp.callB [TOP+1,0] bod43 rfl (fun i h h'=>match i,h with | 0,_=>FzP.rowsB rowRq hb (by simp) rfl | 1,_=>FzP.clo (.cons (FzP.ptrL (by simp) rfl rfl (FzL.pure rfl)) .nil)) (ixf_p l t hl)) rfl rfl ?_
 refine oL (lA (a:=.v _) rfl) rfl rfl ?_
 refine oN (aN ?_)
 refine wT (?_)
 refine ⟨.inr rfl,OutsH.of [] (ResIs.res Tryz.results24 (.cons (OutX.tmp rfl) .nil)) rfl ⟨.same rfl (by decide),.same rfl (by decide),trivial⟩ .same⟩
set_option maxRecDepth 100000 in
set_option maxHeartbeats 4000000 in
theorem find_r (t:Int) (l:List PReq) (v:Nat) (b:Bool) (hb:b=true→l=[]) (hl:l.length≤1000):HCall Tryz.prog 16 [.ptr TOP 0 0,.v (.int .i64 t)] [(TOP,⟨0,[.sl (TOP+1) v 0 l.length],0,false⟩),(TOP+1,⟨v,rF rqA l,2,b⟩)] [(TOP,some (⟨0,[.sl (TOP+1) v 0 l.length],0,false⟩)),(TOP+1,some (⟨v,rF rqA l,2,b⟩))] (.v (.int .i64 (findI l t))):=by
 refine HCall.of_body Tryz.func16 rfl Tryz.ntmps16 (Nat.le_of_ble_eq_true rfl) ?_
 refine wS (wR ?_)
 refine oL (lA (a:=.v _) rfl) rfl rfl ?_
 refine oN (aN (wS (wS (wR ?_))))
 refine oL (lA (a:=.v _) rfl) rfl rfl ?_
 refine oN (aN (wB ?_))
 refine wL (fun n s=>∃ k:Nat,n=(l.length - k)∧s=⟨fL [(0,.ptr TOP 0 0),(1,.v (.int .i64 t)),(5,.v (.int .i64 ((k:Nat):Int)))],hLz [(TOP,⟨0,[.sl (TOP+1) v 0 l.length],0,false⟩),(TOP+1,⟨v,rF rqA l,2,b⟩)],0⟩∧(k≤l.length∧∀ j,j < k→notT l t j=true)) (n:=(l.length - 0)) (s1:=⟨fL [(0,.ptr TOP 0 0),(1,.v (.int .i64 t)),(5,.v (.int .i64 ((0:Nat):Int)))],hLz [(TOP,⟨0,[.sl (TOP+1) v 0 l.length],0,false⟩),(TOP+1,⟨v,rF rqA l,2,b⟩)],0⟩) (cO (.cons rfl rfl (.cons rfl rfl (.cons rfl rfl .nil))) (.cons rfl rfl rfl (.cons rfl rfl (rF_low rowRq _ _) .nil))) ⟨0,rfl,rfl,⟨Nat.zero_le _,fun j h=>absurd h (Nat.not_lt_zero j)⟩⟩ ?_
 rintro n s ⟨k,rfl,rfl,hinv⟩
 obtain ⟨hk,hj⟩:=hinv
 refine wS (wS (wR ?_))
 refine oL (lM (a:=.v _) rfl) rfl rfl ?_
 refine oL (lM (a:=.ptr _ _ _) rfl) rfl rfl ?_
 refine oL (lN rfl rfl rfl) rfl rfl ?_
 refine oL (lF fi29_0 rfl rfl rfl rfl rfl) rfl rfl ?_
 refine oL (lD row27 rfl rfl rfl rfl rfl) rfl rfl ?_
 refine oL (LOp.lenS rfl Tryz.underlying27 rfl rfl rfl) rfl rfl ?_
 refine oL (lP rfl (fun _ _=>nofun) (fun _=>rfl)) rfl rfl ?_
 refine oN (aN ?_)
 refine wC rfl (fun hc12=>?_) (fun hc12=>?_)
 ·skip
  have hlt:k < l.length:=Int.ofNat_lt.1 (of_decide_eq_true hc12)
  obtain rfl:=nb hb hlt
  refine wK (aN (wS (wB (wS ?_))))
  refine AWP.reb (TOP+1) ⟨v,rF rqA (l.take k)++(rqA l[k]++rF rqA (l.drop (k+1))),2,false⟩ rfl (put_rq hlt) ?_
  refine wR ?_
  refine oL (lM (a:=.ptr _ _ _) rfl) rfl rfl ?_
  refine oL (lN rfl rfl rfl) rfl rfl ?_
  refine oL (lF fi29_0 rfl rfl rfl rfl rfl) rfl rfl ?_
  refine oL (lD row27 rfl rfl rfl rfl rfl) rfl rfl ?_
  refine oL (lM (a:=.v _) rfl) rfl rfl ?_
  refine oL (LOp.indexS Tryz.underlying27 sz51 rfl rfl (by first | assumption | omega) rfl rfl rfl rfl) rfl rfl ?_
  refine oL (lF fi51_0 rfl rfl rfl rfl rfl) rfl rfl ?_
  refine oL (lZ (j:=0) row2 rfl rfl (by rw [rF_pre rowRq hlt]; omega) rfl) rfl rfl ?_
  refine oL (lM (a:=.v _) rfl) rfl rfl ?_
  refine oL (lP rfl (fun _ _=>nofun) (fun _=>rfl)) rfl rfl ?_
  refine oN (aN ?_)
  refine wC rfl (fun hc24=>?_) (fun hc24=>?_)
  ·skip
   refine wS ?_
   refine AWP.reb (TOP+1) ⟨v,rF rqA l,2,false⟩ rfl (put_rq hlt).symm ?_
   refine wR ?_
   refine oL (lM (a:=.v _) rfl) rfl rfl ?_
   refine oL (lA (a:=.v _) rfl) rfl rfl ?_
   refine oN (aN ?_)
   refine wT (bR (aR (aR (bR (aR (?_))))))
   refine ⟨.inr rfl,OutsH.of [] (ResIs.res Tryz.results16 (.cons (OutX.tmp rfl) .nil)) rfl ⟨.same rfl (by decide),.same rfl (by decide),trivial⟩ (by rw [findI_hit hlt (by simpa using hc24) hj]; exact .same)⟩
  ·skip
   refine wK (bN (aN ?_))
   refine AWP.reb (TOP+1) ⟨v,rF rqA l,2,false⟩ rfl (put_rq hlt).symm ?_
   refine wR ?_
   refine oL (lM (a:=.v _) rfl) rfl rfl ?_
   refine oL (lJ rfl rfl (by omega) (by omega)) rfl rfl ?_
   refine oL (lA (a:=.v _) rfl) rfl rfl ?_
   refine oN (aN ?_)
   refine ⟨(l.length - (k+1)),⟨fL [(0,.ptr TOP 0 0),(1,.v (.int .i64 t)),(5,.v (.int .i64 (((k+1):Nat):Int)))],hLz [(TOP,⟨0,[.sl (TOP+1) v 0 l.length],0,false⟩),(TOP+1,⟨v,rF rqA l,2,false⟩)],0⟩,by omega,(cO (.cons rfl rfl (.cons rfl rfl (.cons rfl rfl .nil))) (.cons rfl rfl rfl (.cons rfl rfl (rF_low rowRq _ _) .nil))),(k+1),rfl,rfl,?_⟩
   refine ⟨by omega,fun j h=>?_⟩
   rcases Nat.lt_succ_iff_lt_or_eq.1 h with h | rfl
   ·exact hj j h
   ·simp only [notT,getD_at hlt]; simpa using hc24
 ·skip
  have hge:¬ k < l.length:=fun h=>of_decide_eq_false hc12 (Int.ofNat_lt.2 h)
  refine AWP.exit (aE (aE (bE ?_)))
  refine aN (wS (wR ?_))
  refine oL (lA (a:=.v _) rfl) rfl rfl ?_
  refine oN (aN ?_)
  refine wT (?_)
  refine ⟨.inr rfl,OutsH.of [] (ResIs.res Tryz.results16 (.cons (OutX.tmp rfl) .nil)) rfl ⟨.same rfl (by decide),.same rfl (by decide),trivial⟩ (by rw [findI_end hk hge hj]; exact .same)⟩
set_option maxRecDepth 100000 in
set_option maxHeartbeats 4000000 in
theorem right_p (a:List PAcc) (hl:a.length≤1000) (hok:∀ x∈a,x.p.Ok):PCall Tryz.prog 28 [.tree 5 (a.map acA)] (.v (.bool (rightB a))):=by
 refine pB Tryz.func28 rfl Tryz.ntmps28 (Nat.le_of_ble_eq_true rfl) ?_
 refine wS (wR ?_)
 refine oL (lA (a:=.v _) rfl) rfl rfl ?_
 refine oN (aN (wS (wS (wR ?_))))
 refine oL (lA (a:=.v _) rfl) rfl rfl ?_
 refine oN (aN (wB ?_))
 refine wL (fun n s=>∃ k:Nat,n=(a.length - k)∧s=⟨fL [(0,.tree 5 (a.map acA)),(3,.v (.int .i64 ((k:Nat):Int)))],hLz [],0⟩∧(k≤a.length∧∀ j,j < k→rightP a j=true)) (n:=(a.length - 0)) (s1:=⟨fL [(0,.tree 5 (a.map acA)),(3,.v (.int .i64 ((0:Nat):Int)))],hLz [],0⟩) (cO (.cons rfl rfl (.cons rfl rfl .nil)) .nil) ⟨0,rfl,rfl,⟨Nat.zero_le _,fun j h=>absurd h (Nat.not_lt_zero j)⟩⟩ ?_
 rintro n s ⟨k,rfl,rfl,hinv⟩
 obtain ⟨hk,hj⟩:=hinv
 refine wS (wS (wR ?_))
 refine oL (lM (a:=.v _) rfl) rfl rfl ?_
 refine oL (lM (a:=.tree _ _) rfl) rfl rfl ?_
 refine oL (lT rfl Tryz.underlying31 rfl) rfl rfl ?_
 refine oL (lP rfl (fun _ _=>nofun) (fun _=>rfl)) rfl rfl ?_
 refine oN (aN ?_)
 refine wC rfl (fun hc7=>?_) (fun hc7=>?_)
 ·skip
  have hlt:k < a.length:=Int.ofNat_lt.1 (of_decide_eq_true hc7)
  refine wK (aN (wS (wB (wS (AWP.regD mixed ?_)))))
  refine qL (lM (a:=.tree _ _) rfl) rfl rfl ?_
  refine qL (lM (a:=.v _) rfl) rfl rfl ?_
  refine qL (lI Tryz.underlying31 sz39 rfl rfl (by first | assumption | omega)) rfl rfl ?_
  refine qL (LOp.fieldAddrT fi39_1 rfl rfl) rfl rfl ?_
  refine qL (LOp.ldTN row37 rfl rfl) rfl rfl ?_
  refine qL (lM (a:=.tree _ _) rfl) rfl rfl ?_
  refine qL (lM (a:=.v _) rfl) rfl rfl ?_
  refine qL (lI Tryz.underlying31 sz39 rfl rfl (by first | assumption | omega)) rfl rfl ?_
  refine qL (LOp.fieldAddrT fi39_1 rfl rfl) rfl rfl ?_
  refine qL (LOp.fieldAddrT fi37_1 rfl rfl) rfl rfl ?_
  refine qL (lE row3 rfl rfl) rfl rfl ?_
  refine qL (LOp.call bod7 rfl (ref_p a[k].p a[k].p.cols (hok _ (List.getElem_mem _)))) rfl rfl ?_
  refine qL (lP rfl (fun _ _=>nofun) (fun _=>rfl)) rfl rfl ?_
  refine SeqC.nil ⟨by kernel_rfl,?_⟩
  refine aN ?_
  refine wC rfl (fun hc22=>?_) (fun hc22=>?_)
  ·skip
   refine wS (wR ?_)
   refine oL (lA (a:=.v _) rfl) rfl rfl ?_
   refine oN (aN ?_)
   refine wT (bR (aR (aR (bR (aR (?_))))))
   refine ⟨.inr rfl,oV Tryz.results28 rfl rfl ?_⟩
   refine vb_eq (Eq.symm (allN_hit hlt ?_)); simp only [rightP,getD_at hlt]; simpa using hc22
  ·skip
   refine wK (bN (aN (wR ?_)))
   refine oL (lM (a:=.v _) rfl) rfl rfl ?_
   refine oL (lJ rfl rfl (by omega) (by omega)) rfl rfl ?_
   refine oL (lA (a:=.v _) rfl) rfl rfl ?_
   refine oN (aN ?_)
   refine ⟨(a.length - (k+1)),⟨fL [(0,.tree 5 (a.map acA)),(3,.v (.int .i64 (((k+1):Nat):Int)))],hLz [],0⟩,by omega,(cO (.cons rfl rfl (.cons rfl rfl .nil)) .nil),(k+1),rfl,rfl,?_⟩
   refine ⟨by omega,fun j h=>?_⟩
   rcases Nat.lt_succ_iff_lt_or_eq.1 h with h | rfl
   ·exact hj j h
   ·simp only [rightP,getD_at hlt]; simpa using hc22
 ·skip
  have hge:¬ k < a.length:=fun h=>of_decide_eq_false hc7 (Int.ofNat_lt.2 h)
  refine AWP.exit (aE (aE (bE ?_)))
  refine aN (wS (wR ?_))
  refine oL (lA (a:=.v _) rfl) rfl rfl ?_
  refine oN (aN ?_)
  refine wT (?_)
  refine ⟨.inr rfl,oV Tryz.results28 rfl rfl ?_⟩
  exact vb_eq (allN_end hk hge hj).symm
end Go.Proofs.YtfelpgeolclnbaaGreatDoor
namespace Go.Proofs.YtfelpgeolclnbaaGreatDoor
set_option linter.unusedVariables false
set_option linter.unusedSimpArgs false
open Go.RowKit
theorem rowI:RowF iA 1:=⟨fun _=>rfl,fun _=>rfl,fun _ _=>rfl,fun _ _=>rfl,fun _ _=>rfl,fun _=>rfl⟩
def tsL (l:List PReq) (k:Nat):List Int:=(l.take k).map (·.t)
theorem tsL_next {l:List PReq} {k:Nat} (h:k < l.length):tsL l (k+1)=tsL l k++[l[k].t]:=by unfold tsL; rw [List.take_succ_eq_append_getElem h,List.map_append]; rfl
theorem tsL_len {l:List PReq} {k:Nat} (h:k≤l.length):(tsL l k).length=k:=by unfold tsL; rw [List.length_map,List.length_take]; omega
theorem tsL_all {l:List PReq}:tsL l l.length=l.map (·.t):=by unfold tsL; rw [List.take_length]
def reqL (l:List PReq) (t:Int):List PAcc:=if findI l t < 0 then [] else (l.getD (findI l t).toNat default).l
theorem req_no {l:List PReq} {t:Int} (h:findI l t < 0):reqL l t=[]:=by unfold reqL; rw [if_pos h]
theorem req_yes {l:List PReq} {t:Int} {i:Nat} (h:findI l t=((i:Nat):Int)) (hi:i < l.length):reqL l t=l[i].l:=by unfold reqL; rw [h,if_neg (by omega),Int.toNat_natCast,getD_at hi]
structure QOk (l:List PReq):Prop where
 len:∀ r∈l,r.l.length≤1000
 ok:∀ r∈l,∀ a∈r.l,a.p.Ok
def remV (l:List PReq) (t:Int) (v:Nat):Nat:=if findI l t < 0 then v else vbX (vbX (v+1) (l.take (findI l t).toNat).length) (l.take (findI l t).toNat++l.drop ((findI l t).toNat+1)).length
def remF (l:List PReq) (t:Int) (b:Bool):Bool:=if findI l t < 0 then b else Nat.beq (remL l t).length 0
theorem remV_le {l:List PReq} {t:Int} {v:Nat}:v≤remV l t v∧remV l t v≤v+3:=by
 unfold remV
 split
 ·omega
 ·have h1:=vbX_le (ver:=v+1) (n:=(l.take (findI l t).toNat).length)
  have h2:=vbX_le (ver:=vbX (v+1) (l.take (findI l t).toNat).length) (n:=(l.take (findI l t).toNat++l.drop ((findI l t).toNat+1)).length)
  omega
theorem remr_no {l:List PReq} {t:Int} {v:Nat} {b:Bool} (h:findI l t < 0) :
  AV.v (.bool false)=.v (.bool (remB l t))∧([(TOP,some ⟨0,[.sl (TOP+1) (remV l t v) 0 (remL l t).length],0,false⟩),(TOP+1,some ⟨remV l t v,rF rqA (remL l t),2,remF l t b⟩)]:List (Nat×Option Blk))=([(TOP,some ⟨0,[.sl (TOP+1) v 0 l.length],0,false⟩),(TOP+1,some ⟨v,rF rqA l,2,b⟩)]:List (Nat×Option Blk)):=by
 obtain ⟨h1,h2⟩:=rem_no h
 have h3:remV l t v=v:=by unfold remV; rw [if_pos h]
 have h4:remF l t b=b:=by unfold remF; rw [if_pos h]
 rw [h1,h2,h3,h4]; exact ⟨rfl,rfl⟩
theorem remr_yes {l:List PReq} {t:Int} {v i:Nat} {b:Bool} (h:findI l t=((i:Nat):Int)) :
  AV.v (.bool true)=.v (.bool (remB l t))∧([(TOP,some ⟨0,[.sl (TOP+1) (remV l t v) 0 (remL l t).length],0,false⟩),(TOP+1,some ⟨remV l t v,rF rqA (remL l t),2,remF l t b⟩)]:List (Nat×Option Blk)) =
   ([(TOP,some ⟨0,[.sl (TOP+1) (vbX (vbX (v+1) (l.take i).length) (l.take i++l.drop (i+1)).length) 0 (l.take i++l.drop (i+1)).length],0,false⟩),(TOP+1,some ⟨vbX (vbX (v+1) (l.take i).length) (l.take i++l.drop (i+1)).length,rF rqA (l.take i++l.drop (i+1)),2,Nat.beq (l.take i++l.drop (i+1)).length 0⟩)]:List (Nat×Option Blk)):=by
 obtain ⟨h1,h2⟩:=rem_yes h
 have hn:¬ ((i:Nat):Int) < 0:=by omega
 have h3:remV l t v=vbX (vbX (v+1) (l.take i).length) (l.take i++l.drop (i+1)).length:=by unfold remV; rw [h,if_neg hn]; rfl
 have h4:remF l t b=Nat.beq (l.take i++l.drop (i+1)).length 0:=by unfold remF; rw [h,if_neg hn,h2]
 rw [h1,h2,h3,h4]; exact ⟨rfl,rfl⟩
theorem del_len {l:List PReq} {i:Nat} (h:i < l.length):(l.take i++l.drop (i+1)).length=l.length - 1:=by simp; omega
theorem vbX_tv {v n m:Nat} (h:v≤1000):vbX (v+1) n+1≠TV∧vbX (vbX (v+1) n) m+1≠TV:=by
 have h1:=vbX_le (ver:=v+1) (n:=n)
 have h2:=vbX_le (ver:=vbX (v+1) n) (n:=m)
 unfold TV; omega
def delR:Go.Shelf.Ren:=⟨fun | 45=>25 | n=>n,fun | 22=>66 | 23=>83 | n=>n,fun | n=>n⟩
theorem layD:LayD Tryz.prog delR (.agg #[.int .i64 0,.slice none 0 0]):={
 mixed:=by kernel_rfl
 f45:=⟨Tryz.f25.name,by decide,Tryz.func25.trans (congrArg some (by kernel_rfl))⟩
 t0:=Tryz.underlying0
 a0:=Tryz.isAgg0
 z0:=Tryz.sizeOf0
 v0:=Tryz.zeroValue0
 t3:=Tryz.underlying3
 a3:=Tryz.isAgg3
 z3:=Tryz.sizeOf3
 v3:=Tryz.zeroValue3
 t4:=Tryz.underlying4
 a4:=Tryz.isAgg4
 z4:=Tryz.sizeOf4
 v4:=Tryz.zeroValue4
 t22:=Tryz.underlying66
 a22:=Tryz.isAgg66
 z22:=Tryz.sizeOf66
 v22:=Tryz.zeroValue66
 z23:=Tryz.sizeOf83
 v23:=Tryz.zeroValue83
 i23:=⟨Tryz.t83,by kernel_rfl,rfl⟩ }
theorem bod16:bodied Tryz.prog 16=true:=by kernel_rfl
theorem bod24:bodied Tryz.prog 24=true:=by kernel_rfl
theorem bod25:bodied Tryz.prog 25=true:=by kernel_rfl
theorem bod26:bodied Tryz.prog 26=true:=by kernel_rfl
theorem bod27:bodied Tryz.prog 27=true:=by kernel_rfl
theorem bod28:bodied Tryz.prog 28=true:=by kernel_rfl
theorem by51:(Tryz.prog.info? 51).map (·.bytes)=some 32:=by kernel_rfl
theorem by83:(Tryz.prog.info? 83).map (·.bytes)=some 32:=by kernel_rfl
theorem fi83_1:fieldInfo Tryz.prog 83 1=some (1,1):=by kernel_rfl
theorem pl51:placesOf Tryz.prog 51=some [(0,1),(1,1)]:=by kernel_rfl
theorem pl68:placesOf Tryz.prog 68=some [(0,1)]:=by kernel_rfl
theorem pl83:placesOf Tryz.prog 83=some [(0,1),(1,1)]:=by kernel_rfl
theorem row31:rowOf Tryz.prog 31=some none:=by kernel_rfl
theorem row39:rowOf Tryz.prog 39=some (some 5):=by kernel_rfl
theorem sz27:sizeInfo Tryz.prog 27=some 1:=by kernel_rfl
theorem sz66:sizeInfo Tryz.prog 66=some 1:=by kernel_rfl
theorem zr39:zeroOf Tryz.prog 39=some (.agg #[.bool false,.int .i64 0,.int .i64 0,.slice none 0 0,.slice none 0 0]):=by kernel_rfl
theorem zr51:zeroOf Tryz.prog 51=some (.agg #[.int .i64 0,.slice none 0 0]):=by kernel_rfl
theorem zr68:zeroOf Tryz.prog 68=some (.agg #[.slice none 0 0]):=by kernel_rfl
theorem zr83:zeroOf Tryz.prog 83=some (.agg #[.int .i64 0,.slice none 0 0]):=by kernel_rfl
set_option maxRecDepth 100000 in
set_option maxHeartbeats 4000000 in
theorem new_h :HCall Tryz.prog 5 [] [] [(0,some (⟨0,[.v (.slice none 0 0)],0,false⟩))] (.ptr 0 0 0):=by
 refine HCall.of_body Tryz.func5 rfl Tryz.ntmps5 (Nat.le_of_ble_eq_true rfl) ?_
 refine wS (wR ?_)
 refine oL (lA (a:=.v _) rfl) rfl rfl ?_
 refine oN (aN (wS (wR ?_)))
 refine oL (LOp.bd zr68 pl68 rfl rfl) rfl rfl ?_
 refine oW (LOp.bx rfl) rfl rfl 1 rfl ?_
 refine oL (lA (a:=.ptr _ _ _) rfl) rfl rfl ?_
 refine oN (aN ?_)
 refine wT (?_)
 refine ⟨.inr rfl,OutsH.of [] (ResIs.res Tryz.results5 (.cons (OutX.tmp rfl) .nil)) rfl ⟨.same rfl (by decide),trivial⟩ .same⟩
set_option maxRecDepth 100000 in
set_option maxHeartbeats 4000000 in
theorem push_r (t:Int) (a:List PAcc) (ha:a.length≤1000) (hok:∀ x∈a,x.p.Ok) (l:List PReq) (v:Nat) (b:Bool) (hb:b=true→l=[]) (hl:l.length≤1000) (hv:v≤1000):HCall Tryz.prog 12 [.ptr TOP 0 0,.v (.int .i64 t),.tree 5 (a.map acA)] [(TOP,⟨0,[.sl (TOP+1) v 0 l.length],0,false⟩),(TOP+1,⟨v,rF rqA l,2,b⟩)] [(TOP,some (⟨0,[.sl (TOP+1) (pushV l t a v) 0 (pushL l t a).length],0,false⟩)),(TOP+1,some (⟨pushV l t a v,rF rqA (pushL l t a),2,pushF l t a b⟩))] (.v (.int .i64 (pushE l t a))):=by
 refine HCall.of_body Tryz.func12 rfl Tryz.ntmps12 (Nat.le_of_ble_eq_true rfl) ?_
 refine wS (wR ?_)
 refine oL (lA (a:=.v _) rfl) rfl rfl ?_
 refine oN (aN (wS (wS (wR ?_))))
 refine oL (lM (a:=.v _) rfl) rfl rfl ?_
 refine oL (lP rfl (fun _ _=>nofun) (fun _=>rfl)) rfl rfl ?_
 refine oL (lM (a:=.v _) rfl) rfl rfl ?_
 refine oB 9 rfl (fun hg9=>?_) (fun hg9=>?_)
 ·skip
  have ht1:t < 1:=of_decide_eq_true hg9
  refine oS rfl rfl ?_
  refine oS rfl rfl ?_
  refine oS rfl rfl ?_
  refine oL (LOp.pkT (a:=.v _) rfl (by first | rfl | assumption) rfl) rfl rfl ?_
  refine oN (aN ?_)
  refine AWP.condT rfl ?_
  refine wS (wR ?_)
  refine oL (lA (a:=.v _) rfl) rfl rfl ?_
  refine oN (aN ?_)
  refine wT (aR (?_))
  refine ⟨.inr rfl,OutsH.of [] (ResIs.res Tryz.results12 (.cons (OutX.tmp rfl) .nil)) rfl (by rw [(push_keep (v:=v) (b:=b) (push1 (.inl ht1)) (by decide)).2]; exact ⟨.same rfl (by decide),.same rfl (by decide),trivial⟩) (by rw [← (push_keep (v:=v) (b:=b) (push1 (.inl ht1)) (by decide)).1]; exact .same)⟩
 ·skip
  have ht1:¬ t < 1:=of_decide_eq_false hg9
  refine oL (lM (a:=.tree _ _) rfl) rfl rfl ?_
  refine oL (LOp.call bod28 rfl (right_p a ha hok)) rfl rfl ?_
  refine oL (lP rfl (fun _ _=>nofun) (fun _=>rfl)) rfl rfl ?_
  refine oL (lK rfl rfl rfl) rfl rfl ?_
  refine oN (aN ?_)
  refine wC rfl (fun hc13=>?_) (fun hc13=>?_)
  ·skip
   have hr0:rightB a=false:=by simpa using hc13
   refine wS (wR ?_)
   refine oL (lA (a:=.v _) rfl) rfl rfl ?_
   refine oN (aN ?_)
   refine wT (aR (?_))
   refine ⟨.inr rfl,OutsH.of [] (ResIs.res Tryz.results12 (.cons (OutX.tmp rfl) .nil)) rfl (by rw [(push_keep (v:=v) (b:=b) (push1 (.inr hr0)) (by decide)).2]; exact ⟨.same rfl (by decide),.same rfl (by decide),trivial⟩) (by rw [← (push_keep (v:=v) (b:=b) (push1 (.inr hr0)) (by decide)).1]; exact .same)⟩
  ·skip
   have hr1:rightB a=true:=by simpa using hc13
   refine wK (aN (wS (wS (wR ?_))))
   refine oL (lM (a:=.ptr _ _ _) rfl) rfl rfl ?_
   refine oL (lM (a:=.v _) rfl) rfl rfl ?_
   refine oL (LOp.still (LOp.callH [(TOP,TOP),(TOP+1,(TOP+1))] bod16 (find_r t l v b hb hl) rfl rfl rfl rfl ⟨rfl,sX rowRq,trivial⟩ ⟨⟨rfl,.inl rfl⟩,okB rowRq hb,trivial⟩ ⟨rfl,rF_in rowRq _ _,trivial⟩ rfl rfl rfl rfl rfl rfl) ⟨⟨by simp [gOf],rfl,rfl⟩,⟨by simp [gOf],sX rowRq,rfl⟩,trivial⟩) rfl rfl ?_
   refine oL (lP rfl (fun _ _=>nofun) (fun _=>rfl)) rfl rfl ?_
   refine oN (aN ?_)
   refine wC rfl (fun hc17=>?_) (fun hc17=>?_)
   ·skip
    have hf1:¬ findI l t < 0:=by have:=of_decide_eq_true hc17; omega
    refine wS (wR ?_)
    refine oL (lA (a:=.v _) rfl) rfl rfl ?_
    refine oN (aN ?_)
    refine wT (aR (?_))
    refine ⟨.inr rfl,OutsH.of [] (ResIs.res Tryz.results12 (.cons (OutX.tmp rfl) .nil)) rfl (by rw [(push_keep (v:=v) (b:=b) (push13 ht1 hr1 hf1) (by decide)).2]; exact ⟨.same rfl (by decide),.same rfl (by decide),trivial⟩) (by rw [← (push_keep (v:=v) (b:=b) (push13 ht1 hr1 hf1) (by decide)).1]; exact .same)⟩
   ·skip
    have hf0:findI l t < 0:=by have:=of_decide_eq_false hc17; omega
    refine wK (aN (wS (wR ?_)))
    refine oL (lM (a:=.ptr _ _ _) rfl) rfl rfl ?_
    refine oL (lM (a:=.ptr _ _ _) rfl) rfl rfl ?_
    refine oL (lN rfl rfl rfl) rfl rfl ?_
    refine oL (lF fi29_0 rfl rfl rfl rfl rfl) rfl rfl ?_
    refine oL (lD row27 rfl rfl rfl rfl rfl) rfl rfl ?_
    refine oL (lM (a:=.v _) rfl) rfl rfl ?_
    refine oL (lM (a:=.tree _ _) rfl) rfl rfl ?_
    refine oL (LOp.bd zr51 pl51 rfl rfl) rfl rfl ?_
    refine oW (LOp.bs Tryz.underlying27 sz51 zr51 rfl rfl rfl rfl) rfl rfl 1 rfl ?_
    refine AOps.gv (LOp.appRowX rowRq (a:=⟨t,a⟩) Tryz.underlying27 sz51 zr51 by51 rfl rfl rfl (Src.slB rfl rfl rfl rfl) rfl (by omega) (by omega) (by unfold TV; omega)) rfl rfl 1 rfl rfl ?_
    refine oL (lN rfl rfl rfl) rfl rfl ?_
    refine oL (lF fi29_0 rfl rfl rfl rfl rfl) rfl rfl ?_
    refine AOps.wr (LOp.st sz27 rfl rfl rfl rfl rfl rfl rfl rfl) rfl rfl rfl ?_
    refine oN (aN (wS (wR ?_)))
    refine oL (lA (a:=.v _) rfl) rfl rfl ?_
    refine oN (aN ?_)
    refine wT (?_)
    refine ⟨.inr rfl,OutsH.of [] (ResIs.res Tryz.results12 (.cons (OutX.tmp rfl) .nil)) rfl (by rw [(push_new (v:=v) (b:=b) (push0 ht1 hr1 hf0)).2]; exact ⟨.same rfl (by decide),.same rfl (by decide),trivial⟩) (by rw [← (push_new (v:=v) (b:=b) (push0 ht1 hr1 hf0)).1]; exact .same)⟩
set_option maxRecDepth 100000 in
set_option maxHeartbeats 4000000 in
theorem push_h (t:Int) (a:List PAcc) (ha:a.length≤1000) (hok:∀ x∈a,x.p.Ok) (hR:∀ x∈a,x.p.R) (l:List PReq) (v:Nat) (b:Bool) (hb:b=true→l=[]) (hl:l.length≤1000) (hv:v≤1000):HCall Tryz.prog 11 [.ptr TOP 0 0,.v (.int .i64 t),.tree 5 (a.map acA)] [(TOP,⟨0,[.sl (TOP+1) v 0 l.length],0,false⟩),(TOP+1,⟨v,rF rqA l,2,b⟩)] [(TOP,some (⟨0,[.sl (TOP+1) (pushV l t a v) 0 (pushL l t a).length],0,false⟩)),(TOP+1,some (⟨pushV l t a v,rF rqA (pushL l t a),2,pushF l t a b⟩))] (.v (.int .i64 (pushE l t a))):=by
 refine HCall.of_body Tryz.func11 rfl Tryz.ntmps11 (Nat.le_of_ble_eq_true rfl) ?_
 refine wS (wR ?_)
 refine oL (lA (a:=.v _) rfl) rfl rfl ?_
 refine oN (aN (wS (wS (wR ?_))))
 refine oL (lM (a:=.v _) rfl) rfl rfl ?_
 refine oL (lP rfl (fun _ _=>nofun) (fun _=>rfl)) rfl rfl ?_
 refine oN (aN ?_)
 refine wC rfl (fun hc10=>?_) (fun hc10=>?_)
 ·skip
  have ht1:t < 1:=of_decide_eq_true hc10
  refine wS (wR ?_)
  refine oL (lA (a:=.v _) rfl) rfl rfl ?_
  refine oN (aN ?_)
  refine wT (aR (?_))
  refine ⟨.inr rfl,OutsH.of [] (ResIs.res Tryz.results11 (.cons (OutX.tmp rfl) .nil)) rfl (by rw [(push_keep (v:=v) (b:=b) (push1 (.inl ht1)) (by decide)).2]; exact ⟨.same rfl (by decide),.same rfl (by decide),trivial⟩) (by rw [← (push_keep (v:=v) (b:=b) (push1 (.inl ht1)) (by decide)).1]; exact .same)⟩
 ·skip
  have ht1:¬ t < 1:=of_decide_eq_false hc10
  refine wK (aN (wS (wS (wR ?_))))
  refine oL (lM (a:=.tree _ _) rfl) rfl rfl ?_
  refine oL (lT rfl Tryz.underlying31 rfl) rfl rfl ?_
  refine oL (lM (a:=.v _) rfl) rfl rfl ?_
  refine oN (aN (wB ?_))
  refine wL (fun n s=>∃ k:Nat,n=(a.length - k)∧s=⟨fL [(0,.ptr TOP 0 0),(1,.v (.int .i64 t)),(2,.tree 5 (a.map acA)),(11,.tree 5 (a.map acA)),(12,.v (.int .i64 ((a.length:Nat):Int))),(13,.v (.int .i64 ((k:Nat):Int)))],hLz [(TOP,⟨0,[.sl (TOP+1) v 0 l.length],0,false⟩),(TOP+1,⟨v,rF rqA l,2,b⟩)],0⟩∧(k≤a.length∧∀ j,j < k→rightP a j=true)) (n:=(a.length - 0)) (s1:=⟨fL [(0,.ptr TOP 0 0),(1,.v (.int .i64 t)),(2,.tree 5 (a.map acA)),(11,.tree 5 (a.map acA)),(12,.v (.int .i64 ((a.length:Nat):Int))),(13,.v (.int .i64 ((0:Nat):Int)))],hLz [(TOP,⟨0,[.sl (TOP+1) v 0 l.length],0,false⟩),(TOP+1,⟨v,rF rqA l,2,b⟩)],0⟩) (cO (.cons rfl rfl (.cons rfl rfl (.cons rfl rfl (.cons rfl rfl (.cons rfl rfl (.cons rfl rfl .nil)))))) (.cons rfl rfl rfl (.cons rfl rfl (rF_low rowRq _ _) .nil))) ⟨0,rfl,rfl,⟨Nat.zero_le _,fun j h=>absurd h (Nat.not_lt_zero j)⟩⟩ ?_
  rintro n s ⟨k,rfl,rfl,hinv⟩
  obtain ⟨hk,hj⟩:=hinv
  refine wS (wR ?_)
  refine oL (lP rfl (fun _ _=>nofun) (fun _=>rfl)) rfl rfl ?_
  refine oN (aN (wS ?_))
  refine wC rfl (fun hc14=>?_) (fun hc14=>?_)
  ·skip
   have hlt:k < a.length:=Int.ofNat_lt.1 (of_decide_eq_true hc14)
   refine wK (aN (wS (wB (wS (wR ?_)))))
   refine oL (lI Tryz.underlying31 sz39 rfl rfl (by first | assumption | omega)) rfl rfl ?_
   refine oL (LOp.ldTN row39 rfl rfl) rfl rfl ?_
   refine oW (LOp.al zr39 rfl) rfl rfl 1 rfl ?_
   refine AOps.wr (LOp.st sz39 rfl rfl rfl rfl rfl rfl rfl rfl) rfl rfl rfl ?_
   refine oN (aN (wS (wR ?_)))
   refine oL (lF fi39_1 rfl rfl rfl rfl rfl) rfl rfl ?_
   refine oL (LOp.ldN row37 rfl rfl rfl rfl rfl) rfl rfl ?_
   refine oL (lF fi39_1 rfl rfl rfl rfl rfl) rfl rfl ?_
   refine oL (lF fi37_1 rfl rfl rfl rfl rfl) rfl rfl ?_
   refine oL (lD row3 rfl rfl rfl rfl rfl) rfl rfl ?_
   refine oL (LOp.call bod26 rfl (pred_p a[k].p a[k].p.cols (hok _ (List.getElem_mem _)) (hR _ (List.getElem_mem _)))) rfl rfl ?_
   refine oL (lP rfl (fun _ _=>nofun) (fun _=>rfl)) rfl rfl ?_
   refine oN (aN ?_)
   refine wC rfl (fun hc23=>?_) (fun hc23=>?_)
   ·skip
    have hr0:rightB a=false:=allN_hit hlt (by simp only [rightP,getD_at hlt]; simpa using hc23)
    refine wS (wR ?_)
    refine oL (lA (a:=.v _) rfl) rfl rfl ?_
    refine oN (aN ?_)
    refine wT (bR (aR (aR (bR (aR (?_))))))
    refine ⟨.inr rfl,OutsH.of [] (ResIs.res Tryz.results11 (.cons (OutX.tmp rfl) .nil)) rfl (by rw [(push_keep (v:=v) (b:=b) (push1 (.inr hr0)) (by decide)).2]; exact ⟨.same rfl (by decide),.same rfl (by decide),trivial⟩) (by rw [← (push_keep (v:=v) (b:=b) (push1 (.inr hr0)) (by decide)).1]; exact .same)⟩
   ·skip
    refine wK (bN (aN (wR ?_)))
    refine oL (lJ rfl rfl (by omega) (by omega)) rfl rfl ?_
    refine oL (lM (a:=.v _) rfl) rfl rfl ?_
    refine oN (aN ?_)
    refine ⟨(a.length - (k+1)),⟨fL [(0,.ptr TOP 0 0),(1,.v (.int .i64 t)),(2,.tree 5 (a.map acA)),(11,.tree 5 (a.map acA)),(12,.v (.int .i64 ((a.length:Nat):Int))),(13,.v (.int .i64 (((k+1):Nat):Int)))],hLz [(TOP,⟨0,[.sl (TOP+1) v 0 l.length],0,false⟩),(TOP+1,⟨v,rF rqA l,2,b⟩)],0⟩,by omega,(cO (.cons rfl rfl (.cons rfl rfl (.cons rfl rfl (.cons rfl rfl (.cons rfl rfl (.cons rfl rfl .nil)))))) (.cons rfl rfl rfl (.cons rfl rfl (rF_low rowRq _ _) .nil))),(k+1),rfl,rfl,?_⟩
    refine ⟨by omega,fun j h=>?_⟩
    rcases Nat.lt_succ_iff_lt_or_eq.1 h with h | rfl
    ·exact hj j h
    ·simp only [rightP,getD_at hlt]; simpa using hc23
  ·skip
   have hge:¬ k < a.length:=fun h=>of_decide_eq_false hc14 (Int.ofNat_lt.2 h)
   have hr1:rightB a=true:=allN_end hk hge hj
   refine AWP.exit (aE (aE (bE ?_)))
   refine aN (wS (wS (wR ?_)))
   refine oL (lM (a:=.ptr _ _ _) rfl) rfl rfl ?_
   refine oL (lM (a:=.v _) rfl) rfl rfl ?_
   refine oL (LOp.still (LOp.callH [(TOP,TOP),(TOP+1,(TOP+1))] bod24 (find_h t l v b hb hl) rfl rfl rfl rfl ⟨rfl,sX rowRq,trivial⟩ ⟨⟨rfl,.inl rfl⟩,okB rowRq hb,trivial⟩ ⟨rfl,rF_in rowRq _ _,trivial⟩ rfl rfl rfl rfl rfl rfl) ⟨⟨by simp [gOf],rfl,rfl⟩,⟨by simp [gOf],sX rowRq,rfl⟩,trivial⟩) rfl rfl ?_
   refine oL (lP rfl (fun _ _=>nofun) (fun _=>rfl)) rfl rfl ?_
   refine oN (aN ?_)
   refine wC rfl (fun hc28=>?_) (fun hc28=>?_)
   ·skip
    have hf1:¬ findI l t < 0:=by have:=of_decide_eq_true hc28; omega
    refine wS (wR ?_)
    refine oL (lA (a:=.v _) rfl) rfl rfl ?_
    refine oN (aN ?_)
    refine wT (aR (?_))
    refine ⟨.inr rfl,OutsH.of [] (ResIs.res Tryz.results11 (.cons (OutX.tmp rfl) .nil)) rfl (by rw [(push_keep (v:=v) (b:=b) (push13 ht1 hr1 hf1) (by decide)).2]; exact ⟨.same rfl (by decide),.same rfl (by decide),trivial⟩) (by rw [← (push_keep (v:=v) (b:=b) (push13 ht1 hr1 hf1) (by decide)).1]; exact .same)⟩
   ·skip
    have hf0:findI l t < 0:=by have:=of_decide_eq_false hc28; omega
    refine wK (aN (wS (AWP.regD mixed ?_)))
    refine qL (lM (a:=.ptr _ _ _) rfl) rfl rfl ?_
    refine qL (lM (a:=.ptr _ _ _) rfl) rfl rfl ?_
    refine qL (lN rfl rfl rfl) rfl rfl ?_
    refine qL (lF fi68_0 rfl rfl rfl rfl rfl) rfl rfl ?_
    refine qL (lD row66 rfl rfl rfl rfl rfl) rfl rfl ?_
    refine qL (lM (a:=.v _) rfl) rfl rfl ?_
    refine qL (lM (a:=.tree _ _) rfl) rfl rfl ?_
    refine qL (LOp.call bod27 rfl (clone_p a ha hok)) rfl rfl ?_
    refine qL (LOp.bd zr83 pl83 rfl rfl) rfl rfl ?_
    refine SeqC.nw (LOp.bs Tryz.underlying66 sz83 zr83 rfl rfl rfl rfl) rfl rfl 1 rfl ?_
    refine SeqC.gv (LOp.appRowX rowRq (a:=⟨t,a⟩) Tryz.underlying66 sz83 zr83 by83 rfl rfl rfl (Src.slB rfl rfl rfl rfl) rfl (by omega) (by omega) (by unfold TV; omega)) rfl rfl 1 rfl rfl ?_
    refine qL (lN rfl rfl rfl) rfl rfl ?_
    refine qL (lF fi68_0 rfl rfl rfl rfl rfl) rfl rfl ?_
    refine SeqC.wr (LOp.st sz66 rfl rfl rfl rfl rfl rfl rfl rfl) rfl rfl rfl ?_
    refine SeqC.nil ⟨by kernel_rfl,?_⟩
    refine aN (wS (wR ?_))
    refine oL (lA (a:=.v _) rfl) rfl rfl ?_
    refine oN (aN ?_)
    refine wT (?_)
    refine ⟨.inr rfl,OutsH.of [] (ResIs.res Tryz.results11 (.cons (OutX.tmp rfl) .nil)) rfl (by rw [(push_new (v:=v) (b:=b) (push0 ht1 hr1 hf0)).2]; exact ⟨.same rfl (by decide),.same rfl (by decide),trivial⟩) (by rw [← (push_new (v:=v) (b:=b) (push0 ht1 hr1 hf0)).1]; exact .same)⟩
set_option maxRecDepth 100000 in
set_option maxHeartbeats 4000000 in
theorem remove_h (t:Int) (l:List PReq) (v:Nat) (b:Bool) (hb:b=true→l=[]) (hl:l.length≤1000) (hv:v≤1000):HCall Tryz.prog 9 [.ptr TOP 0 0,.v (.int .i64 t)] [(TOP,⟨0,[.sl (TOP+1) v 0 l.length],0,false⟩),(TOP+1,⟨v,rF rqA l,2,b⟩)] [(TOP,some (⟨0,[.sl (TOP+1) (v) 0 (remL l t).length],0,false⟩)),(TOP+1,some (⟨v,rF rqA (remL l t),2,b⟩))] (.v (.bool (remB l t))):=by
 refine HCall.of_body Tryz.func9 rfl Tryz.ntmps9 (Nat.le_of_ble_eq_true rfl) ?_
 refine wS (wR ?_)
 refine oL (lA (a:=.v _) rfl) rfl rfl ?_
 refine oN (aN (wS (wR ?_)))
 refine oL (lM (a:=.ptr _ _ _) rfl) rfl rfl ?_
 refine oL (lM (a:=.v _) rfl) rfl rfl ?_
 refine oL (LOp.still (LOp.callH [(TOP,TOP),(TOP+1,(TOP+1))] bod24 (find_h t l v b hb hl) rfl rfl rfl rfl ⟨rfl,sX rowRq,trivial⟩ ⟨⟨rfl,.inl rfl⟩,okB rowRq hb,trivial⟩ ⟨rfl,rF_in rowRq _ _,trivial⟩ rfl rfl rfl rfl rfl rfl) ⟨⟨by simp [gOf],rfl,rfl⟩,⟨by simp [gOf],sX rowRq,rfl⟩,trivial⟩) rfl rfl ?_
 refine oL (lA (a:=.v _) rfl) rfl rfl ?_
 refine oN (aN (wS (wS (wR ?_))))
 refine oL (lM (a:=.v _) rfl) rfl rfl ?_
 refine oL (lP rfl (fun _ _=>nofun) (fun _=>rfl)) rfl rfl ?_
 refine oN (aN ?_)
 refine wC rfl (fun hc10=>?_) (fun hc10=>?_)
 ·skip
  have hf0:findI l t < 0:=of_decide_eq_true hc10
  refine wS (wR ?_)
  refine oL (lA (a:=.v _) rfl) rfl rfl ?_
  refine oN (aN ?_)
  refine wT (aR (?_))
  refine ⟨.inr rfl,OutsH.of [] (ResIs.res Tryz.results9 (.cons (OutX.tmp rfl) .nil)) rfl (by rw [(rem_no hf0).2]; exact ⟨.same rfl (by decide),.same rfl (by decide),trivial⟩) (by rw [(rem_no hf0).1]; exact .same)⟩
 ·skip
  have hf1:¬ findI l t < 0:=of_decide_eq_false hc10
  obtain ⟨i,hi,hfi,_⟩:=(findI_cases l t).resolve_left (fun h=>hf1 (by rw [h.1]; decide))
  obtain rfl:=nb hb hi
  rw [hfi]
  refine wK (aN (wS (wR ?_)))
  refine oL (lM (a:=.ptr _ _ _) rfl) rfl rfl ?_
  refine oL (lM (a:=.ptr _ _ _) rfl) rfl rfl ?_
  refine oL (lN rfl rfl rfl) rfl rfl ?_
  refine oL (lF fi68_0 rfl rfl rfl rfl rfl) rfl rfl ?_
  refine oL (lD row66 rfl rfl rfl rfl rfl) rfl rfl ?_
  refine oL (lM (a:=.v _) rfl) rfl rfl ?_
  refine oL (lM (a:=.v _) rfl) rfl rfl ?_
  refine oL (lJ rfl rfl (by omega) (by omega)) rfl rfl ?_
  refine AOps.gv (LOp.callH [(TOP,TOP+1)] bod25 (HCall.delete2 (i:=i) (z0:=.int .i64 0) (z1:=.slice none 0 0) layD rowRq hi hl (by kernel_rfl) rfl rfl (by unfold TV; omega)) rfl rfl rfl rfl ⟨sX rowRq,trivial⟩ ⟨⟨rF_in rowRq _ _,.inl rfl⟩,trivial⟩ ⟨rF_in rowRq _ _,trivial⟩ rfl rfl rfl rfl (delta_own rowRq rfl) rfl) rfl rfl 0 rfl rfl ?_
  refine oL (lN rfl rfl rfl) rfl rfl ?_
  refine oL (lF fi68_0 rfl rfl rfl rfl rfl) rfl rfl ?_
  refine AOps.wr (LOp.st sz66 rfl rfl rfl rfl rfl rfl rfl rfl) rfl rfl rfl ?_
  refine oN (aN (wS (wR ?_)))
  refine oL (lA (a:=.v _) rfl) rfl rfl ?_
  refine oN (aN ?_)
  refine wT (?_)
  refine ⟨.inr rfl,OutsH.of [] (ResIs.res Tryz.results9 (.cons (OutX.tmp rfl) .nil)) rfl (by rw [(rem_yes hfi).2,del_len hi]; exact ⟨.same rfl (by decide),.same rfl (by decide),trivial⟩) (by rw [(rem_yes hfi).1]; exact .same)⟩
set_option maxRecDepth 100000 in
set_option maxHeartbeats 4000000 in
theorem remove_r (t:Int) (l:List PReq) (v:Nat) (b:Bool) (hb:b=true→l=[]) (hl:l.length≤1000) (hv:v≤1000):HCall Tryz.prog 10 [.ptr TOP 0 0,.v (.int .i64 t)] [(TOP,⟨0,[.sl (TOP+1) v 0 l.length],0,false⟩),(TOP+1,⟨v,rF rqA l,2,b⟩)] [(TOP,some (⟨0,[.sl (TOP+1) (remV l t v) 0 (remL l t).length],0,false⟩)),(TOP+1,some (⟨remV l t v,rF rqA (remL l t),2,remF l t b⟩))] (.v (.bool (remB l t))):=by
 refine HCall.of_body Tryz.func10 rfl Tryz.ntmps10 (Nat.le_of_ble_eq_true rfl) ?_
 refine wS (wR ?_)
 refine oL (lA (a:=.v _) rfl) rfl rfl ?_
 refine oN (aN (wS (wR ?_)))
 refine oL (lM (a:=.ptr _ _ _) rfl) rfl rfl ?_
 refine oL (lM (a:=.v _) rfl) rfl rfl ?_
 refine oL (LOp.still (LOp.callH [(TOP,TOP),(TOP+1,(TOP+1))] bod16 (find_r t l v b hb hl) rfl rfl rfl rfl ⟨rfl,sX rowRq,trivial⟩ ⟨⟨rfl,.inl rfl⟩,okB rowRq hb,trivial⟩ ⟨rfl,rF_in rowRq _ _,trivial⟩ rfl rfl rfl rfl rfl rfl) ⟨⟨by simp [gOf],rfl,rfl⟩,⟨by simp [gOf],sX rowRq,rfl⟩,trivial⟩) rfl rfl ?_
 refine oL (lA (a:=.v _) rfl) rfl rfl ?_
 refine oN (aN (wS (wS (wR ?_))))
 refine oL (lM (a:=.v _) rfl) rfl rfl ?_
 refine oL (lP rfl (fun _ _=>nofun) (fun _=>rfl)) rfl rfl ?_
 refine oN (aN ?_)
 refine wC rfl (fun hc11=>?_) (fun hc11=>?_)
 ·skip
  have hf0:findI l t < 0:=of_decide_eq_true hc11
  refine wS (wR ?_)
  refine oL (lA (a:=.v _) rfl) rfl rfl ?_
  refine oN (aN ?_)
  refine wT (aR (?_))
  refine ⟨.inr rfl,OutsH.of [] (ResIs.res Tryz.results10 (.cons (OutX.tmp rfl) .nil)) rfl (by rw [(remr_no (v:=v) (b:=b) hf0).2]; exact ⟨.same rfl (by decide),.same rfl (by decide),trivial⟩) (by rw [← (remr_no (v:=v) (b:=b) hf0).1]; exact .same)⟩
 ·skip
  have hf1:¬ findI l t < 0:=of_decide_eq_false hc11
  obtain ⟨i,hi,hfi,_⟩:=(findI_cases l t).resolve_left (fun h=>hf1 (by rw [h.1]; decide))
  obtain rfl:=nb hb hi
  rw [hfi]
  refine wK (aN (wS (wR ?_)))
  refine oL (lA (a:=.v _) rfl) rfl rfl ?_
  refine oN (aN (wS ?_))
  refine AWP.fresh (TOP+1) TOP 6 v 0 0 2 (ds:=[.tree 2 (l.map rqA)]) rfl rfl rfl rfl rfl (.fz (FzP.rowsF rowRq (by simp) rfl) (.same _)) ?_
  refine wR ?_
  refine oL (lM (a:=.sl _ _ _ _) rfl) rfl rfl ?_
  refine oL (lM (a:=.ptr _ _ _) rfl) rfl rfl ?_
  refine oL (lN rfl rfl rfl) rfl rfl ?_
  refine oL (lF fi29_0 rfl rfl rfl rfl rfl) rfl rfl ?_
  refine oL (lD row27 rfl rfl rfl rfl rfl) rfl rfl ?_
  refine oL (lM (a:=.v _) rfl) rfl rfl ?_
  refine oL (LOp.takeT2 Tryz.underlying27 sz51 rfl rfl rfl (Nat.le_of_lt hi)) rfl rfl ?_
  refine AOps.gv (LOp.appRowsX rowRq (l:=[]) (l':=l.take i) Tryz.underlying27 sz51 zr51 by51 rfl rfl rfl rfl (by rw [List.length_take]; simp only [List.length_nil]; omega) (by rw [List.length_take]; simp only [List.length_nil]; omega) (by unfold TV; omega)) rfl rfl 0 rfl rfl ?_
  refine oL (lA (a:=.sl _ _ _ _) rfl) rfl rfl ?_
  refine oN (aN (wS (wR ?_)))
  refine oL (lM (a:=.ptr _ _ _) rfl) rfl rfl ?_
  refine oL (lM (a:=.sl _ _ _ _) rfl) rfl rfl ?_
  refine oL (lM (a:=.ptr _ _ _) rfl) rfl rfl ?_
  refine oL (lN rfl rfl rfl) rfl rfl ?_
  refine oL (lF fi29_0 rfl rfl rfl rfl rfl) rfl rfl ?_
  refine oL (lD row27 rfl rfl rfl rfl rfl) rfl rfl ?_
  refine oL (lM (a:=.v _) rfl) rfl rfl ?_
  refine oL (lJ rfl rfl (by omega) (by omega)) rfl rfl ?_
  refine oL (LOp.dropT2 (n:=i+1) Tryz.underlying27 sz51 rfl rfl (by omega) hi) rfl rfl ?_
  refine AOps.gv (LOp.appRowsX rowRq (l:=[]++l.take i) (l':=l.drop (i+1)) Tryz.underlying27 sz51 zr51 by51 rfl rfl rfl rfl (by simp only [List.nil_append,List.length_take,List.length_drop]; omega) (by simp only [List.nil_append,List.length_take,List.length_drop]; omega) (vbX_tv hv (m:=0)).1) rfl rfl 0 rfl rfl ?_
  refine oL (lN rfl rfl rfl) rfl rfl ?_
  refine oL (lF fi29_0 rfl rfl rfl rfl rfl) rfl rfl ?_
  refine AOps.wr (LOp.st sz27 rfl rfl rfl rfl rfl rfl rfl rfl) rfl rfl rfl ?_
  refine oN (aN (wS (wR ?_)))
  refine oL (lA (a:=.v _) rfl) rfl rfl ?_
  refine oN (aN ?_)
  refine wT (?_)
  refine ⟨.inr rfl,OutsH.of [] (ResIs.res Tryz.results10 (.cons (OutX.tmp rfl) .nil)) rfl (by rw [(remr_yes (v:=v) (b:=false) hfi).2]; exact ⟨.same rfl (by decide),.same rfl (by decide),trivial⟩) (by rw [← (remr_yes (v:=v) (b:=false) hfi).1]; exact .same)⟩
set_option maxRecDepth 100000 in
set_option maxHeartbeats 4000000 in
theorem waiting_h (l:List PReq) (v:Nat) (b:Bool) (hb:b=true→l=[]) (hl:l.length≤1000) (hv:v≤1000):HCall Tryz.prog 13 [.ptr TOP 0 0] [(TOP,⟨0,[.sl (TOP+1) v 0 l.length],0,false⟩),(TOP+1,⟨v,rF rqA l,2,b⟩)] [(TOP,some (⟨0,[.sl (TOP+1) v 0 l.length],0,false⟩)),(TOP+1,some (⟨v,rF rqA l,2,b⟩))] (isA (l.map (·.t))):=by
 refine HCall.of_body Tryz.func13 rfl Tryz.ntmps13 (Nat.le_of_ble_eq_true rfl) ?_
 refine wS (wR ?_)
 refine oL (lA (a:=.v _) rfl) rfl rfl ?_
 refine oN (aN (wS (wR ?_)))
 refine oL (lA (a:=.v _) rfl) rfl rfl ?_
 refine oN (aN (wS (wS (wR ?_))))
 refine oL (lM (a:=.ptr _ _ _) rfl) rfl rfl ?_
 refine oL (lN rfl rfl rfl) rfl rfl ?_
 refine oL (lF fi68_0 rfl rfl rfl rfl rfl) rfl rfl ?_
 refine oL (lD row66 rfl rfl rfl rfl rfl) rfl rfl ?_
 refine oL (LOp.lenS rfl Tryz.underlying66 rfl rfl rfl) rfl rfl ?_
 refine oL (lM (a:=.v _) rfl) rfl rfl ?_
 refine oN (aN (wB ?_))
 refine AWP.lazyT 3 1 rfl 1 rfl ?_
 refine wL (fun n s=>∃ k:Nat,n=(l.length - k)∧s=⟨fL [(0,.ptr TOP 0 0),(3,.sl 0 k 0 (tsL l k).length),(9,.sl (TOP+1) v 0 l.length),(10,.v (.int .i64 ((l.length:Nat):Int))),(11,.v (.int .i64 ((k:Nat):Int)))],hLz [(0,⟨k,rF iA (tsL l k),1,Nat.beq (tsL l k).length 0⟩),(TOP,⟨0,[.sl (TOP+1) v 0 l.length],0,false⟩),(TOP+1,⟨v,rF rqA l,2,b⟩)],1⟩∧(k≤l.length∧∀ j,j < k→(fun _=>true) j=true)) (n:=(l.length - 0)) (s1:=⟨fL [(0,.ptr TOP 0 0),(3,.sl 0 0 0 (tsL l 0).length),(9,.sl (TOP+1) v 0 l.length),(10,.v (.int .i64 ((l.length:Nat):Int))),(11,.v (.int .i64 ((0:Nat):Int)))],hLz [(0,⟨0,rF iA (tsL l 0),1,Nat.beq (tsL l 0).length 0⟩),(TOP,⟨0,[.sl (TOP+1) v 0 l.length],0,false⟩),(TOP+1,⟨v,rF rqA l,2,b⟩)],1⟩) (cO (.cons rfl rfl (.cons (by first | rfl | (rw [hstep]; rfl)) rfl (.cons rfl rfl (.cons rfl rfl (.cons rfl rfl .nil))))) (.cons (by first | rfl | (rw [hstep]; rfl)) rfl (rF_low rowI _ _) (.cons rfl rfl rfl (.cons rfl rfl (rF_low rowRq _ _) .nil)))) ⟨0,rfl,rfl,⟨Nat.zero_le _,fun j h=>absurd h (Nat.not_lt_zero j)⟩⟩ ?_
 rintro n s ⟨k,rfl,rfl,hinv⟩
 obtain ⟨hk,hj⟩:=hinv
 have hil:=tsL_len hk
 refine wS (wR ?_)
 refine oL (lP rfl (fun _ _=>nofun) (fun _=>rfl)) rfl rfl ?_
 refine oN (aN (wS ?_))
 refine wC rfl (fun hc12=>?_) (fun hc12=>?_)
 ·skip
  have hlt:k < l.length:=Int.ofNat_lt.1 (of_decide_eq_true hc12)
  obtain rfl:=nb hb hlt
  have hstep:=tsL_next hlt
  refine wK (aN (wS (wB (wS ?_))))
  refine AWP.reb (TOP+1) ⟨v,rF rqA (l.take k)++(rqA l[k]++rF rqA (l.drop (k+1))),2,false⟩ rfl (put_rq hlt) ?_
  refine wR ?_
  refine oL (LOp.indexS Tryz.underlying66 sz83 rfl rfl (by first | assumption | omega) rfl rfl rfl rfl) rfl rfl ?_
  refine oL (LOp.loadNZ (j:=0) row83 rfl rfl (by rw [rF_pre rowRq hlt]; omega) rfl) rfl rfl ?_
  refine oW (LOp.al zr83 rfl) rfl rfl 2 rfl ?_
  refine AOps.wr (LOp.st sz83 rfl rfl rfl rfl rfl rfl rfl rfl) rfl rfl rfl ?_
  refine oN (aN (wR ?_))
  refine oL (lM (a:=.sl _ _ _ _) rfl) rfl rfl ?_
  refine oL (lF fi83_0 rfl rfl rfl rfl rfl) rfl rfl ?_
  refine oL (lD row2 rfl rfl rfl rfl rfl) rfl rfl ?_
  refine oW (LOp.bs Tryz.underlying46 sz2 zr2 rfl rfl rfl rfl) rfl rfl 3 rfl ?_
  refine AOps.gv (LOp.appRow rowI (a:=l[k].t) Tryz.underlying46 sz2 zr2 by2 rfl rfl rfl (Src.slB rfl rfl rfl rfl) rfl (by omega) (by omega) (by unfold TV; omega)) rfl rfl 3 rfl rfl ?_
  refine oL (lA (a:=.sl _ _ _ _) rfl) rfl rfl ?_
  refine oN (bN (aN ?_))
  refine AWP.reb (TOP+1) ⟨v,rF rqA l,2,false⟩ rfl (put_rq hlt).symm ?_
  refine wR ?_
  refine oL (lJ rfl rfl (by omega) (by omega)) rfl rfl ?_
  refine oL (lM (a:=.v _) rfl) rfl rfl ?_
  refine oN (aN ?_)
  refine ⟨(l.length - (k+1)),⟨fL [(0,.ptr TOP 0 0),(3,.sl 0 (k+1) 0 (tsL l (k+1)).length),(9,.sl (TOP+1) v 0 l.length),(10,.v (.int .i64 ((l.length:Nat):Int))),(11,.v (.int .i64 (((k+1):Nat):Int)))],hLz [(0,⟨(k+1),rF iA (tsL l (k+1)),1,Nat.beq (tsL l (k+1)).length 0⟩),(TOP,⟨0,[.sl (TOP+1) v 0 l.length],0,false⟩),(TOP+1,⟨v,rF rqA l,2,false⟩)],1⟩,by omega,(cO (.cons rfl rfl (.cons (by first | rfl | (rw [hstep]; rfl)) rfl (.cons rfl rfl (.cons rfl rfl (.cons rfl rfl .nil))))) (.cons (by first | rfl | (rw [hstep]; rfl)) rfl (rF_low rowI _ _) (.cons rfl rfl rfl (.cons rfl rfl (rF_low rowRq _ _) .nil)))),(k+1),rfl,rfl,?_⟩
  exact ⟨by omega,fun j h=>rfl⟩
 ·skip
  have hge:¬ k < l.length:=fun h=>of_decide_eq_false hc12 (Int.ofNat_lt.2 h)
  have hkl:k=l.length:=by omega
  subst hkl
  refine AWP.exit (aE (aE (bE ?_)))
  refine aN (wS (wR ?_))
  refine oL (lM (a:=.sl _ _ _ _) rfl) rfl rfl ?_
  refine oL (lA (a:=.sl _ _ _ _) rfl) rfl rfl ?_
  refine oN (aN ?_)
  refine wT (?_)
  refine ⟨.inr rfl,OutsH.of [0] (ResIs.res Tryz.results13 (.cons (OutX.tmp rfl) .nil)) rfl ⟨.same rfl (by decide),.same rfl (by decide),trivial⟩ (by rw [← tsL_all]; exact .fz (FzP.rows rowI (List.mem_singleton.2 rfl) rfl))⟩
set_option maxRecDepth 100000 in
set_option maxHeartbeats 4000000 in
theorem request_h (t:Int) (l:List PReq) (v:Nat) (b:Bool) (hb:b=true→l=[]) (hl:l.length≤1000) (hv:v≤1000) (hq:QOk l):HCall Tryz.prog 14 [.ptr TOP 0 0,.v (.int .i64 t)] [(TOP,⟨0,[.sl (TOP+1) v 0 l.length],0,false⟩),(TOP+1,⟨v,rF rqA l,2,b⟩)] [(TOP,some (⟨0,[.sl (TOP+1) v 0 l.length],0,false⟩)),(TOP+1,some (⟨v,rF rqA l,2,b⟩))] (.tup [.tree 5 ((reqL l t).map acA),.v (.bool (remB l t))]):=by
 refine HCall.of_body Tryz.func14 rfl Tryz.ntmps14 (Nat.le_of_ble_eq_true rfl) ?_
 refine wS (wR ?_)
 refine oL (lA (a:=.v _) rfl) rfl rfl ?_
 refine oL (lA (a:=.v _) rfl) rfl rfl ?_
 refine oN (aN (wS (wR ?_)))
 refine oL (lM (a:=.ptr _ _ _) rfl) rfl rfl ?_
 refine oL (lM (a:=.v _) rfl) rfl rfl ?_
 refine oL (LOp.still (LOp.callH [(TOP,TOP),(TOP+1,(TOP+1))] bod24 (find_h t l v b hb hl) rfl rfl rfl rfl ⟨rfl,sX rowRq,trivial⟩ ⟨⟨rfl,.inl rfl⟩,okB rowRq hb,trivial⟩ ⟨rfl,rF_in rowRq _ _,trivial⟩ rfl rfl rfl rfl rfl rfl) ⟨⟨by simp [gOf],rfl,rfl⟩,⟨by simp [gOf],sX rowRq,rfl⟩,trivial⟩) rfl rfl ?_
 refine oL (lA (a:=.v _) rfl) rfl rfl ?_
 refine oN (aN (wS (wS (wR ?_))))
 refine oL (lM (a:=.v _) rfl) rfl rfl ?_
 refine oL (lP rfl (fun _ _=>nofun) (fun _=>rfl)) rfl rfl ?_
 refine oN (aN ?_)
 refine wC rfl (fun hc11=>?_) (fun hc11=>?_)
 ·skip
  have hf0:findI l t < 0:=of_decide_eq_true hc11
  refine wS (wR ?_)
  refine oL (lA (a:=.v _) rfl) rfl rfl ?_
  refine oL (lA (a:=.v _) rfl) rfl rfl ?_
  refine oN (aN ?_)
  refine wT (aR (?_))
  refine ⟨.inr rfl,OutsH.of [] (ResIs.res Tryz.results14 (.cons (OutX.tmp rfl) (.cons (OutX.tmp rfl) .nil))) rfl ⟨.same rfl (by decide),.same rfl (by decide),trivial⟩ (by rw [req_no hf0,(rem_no hf0).1]; exact .tup (.fz FzP.nil (.same .nil)))⟩
 ·skip
  have hf1:¬ findI l t < 0:=of_decide_eq_false hc11
  obtain ⟨i,hi,hfi,_⟩:=(findI_cases l t).resolve_left (fun h=>hf1 (by rw [h.1]; decide))
  obtain rfl:=nb hb hi
  rw [hfi]
  refine wK (aN (wS ?_))
  refine AWP.reb (TOP+1) ⟨v,rF rqA (l.take i)++(rqA l[i]++rF rqA (l.drop (i+1))),2,false⟩ rfl (put_rq hi) ?_
  refine wR ?_
  refine oL (lM (a:=.ptr _ _ _) rfl) rfl rfl ?_
  refine oL (lN rfl rfl rfl) rfl rfl ?_
  refine oL (lF fi68_0 rfl rfl rfl rfl rfl) rfl rfl ?_
  refine oL (lD row66 rfl rfl rfl rfl rfl) rfl rfl ?_
  refine oL (lM (a:=.v _) rfl) rfl rfl ?_
  refine oL (LOp.indexS Tryz.underlying66 sz83 rfl rfl (by first | assumption | omega) rfl rfl rfl rfl) rfl rfl ?_
  refine oL (lF fi83_1 rfl rfl rfl rfl rfl) rfl rfl ?_
  refine oL (lZ (j:=1) row31 rfl rfl (by rw [rF_pre rowRq hi]; omega) rfl) rfl rfl ?_
  refine oL (LOp.call bod27 rfl (clone_p l[i].l (hq.len _ (List.getElem_mem _)) (hq.ok _ (List.getElem_mem _)))) rfl rfl ?_
  refine oL (lA (a:=.tree _ _) rfl) rfl rfl ?_
  refine oL (lA (a:=.v _) rfl) rfl rfl ?_
  refine oN (aN ?_)
  refine AWP.reb (TOP+1) ⟨v,rF rqA l,2,false⟩ rfl (put_rq hi).symm ?_
  refine wT (?_)
  refine ⟨.inr rfl,OutsH.of [] (ResIs.res Tryz.results14 (.cons (OutX.tmp rfl) (.cons (OutX.tmp rfl) .nil))) rfl ⟨.same rfl (by decide),.same rfl (by decide),trivial⟩ (by rw [req_yes hfi hi,(rem_yes hfi).1]; exact .same)⟩
end Go.Proofs.YtfelpgeolclnbaaGreatDoor
namespace Go.Proofs.YtfelpgeolclnbaaGreatDoor
set_option linter.unusedVariables false
set_option linter.unusedSimpArgs false
open Go.RowKit
theorem rowPr:RowF prA 4:=⟨fun _=>rfl,fun _=>rfl,fun _ _=>rfl,fun _ _=>rfl,fun _ _=>rfl,fun _=>rfl⟩
theorem bod29:bodied Tryz.prog 29=true:=by kernel_rfl
theorem bod30:bodied Tryz.prog 30=true:=by kernel_rfl
theorem fi39_0:fieldInfo Tryz.prog 39 0=some (0,1):=by kernel_rfl
theorem sz37:sizeInfo Tryz.prog 37=some 4:=by kernel_rfl
theorem zr37:zeroOf Tryz.prog 37=some (.agg #[.int .i64 0,.int .i64 0,.slice none 0 0,.slice none 0 0]):=by kernel_rfl
set_option maxRecDepth 100000 in
set_option maxHeartbeats 4000000 in
theorem same_p (a:List PAcc) (hl:a.length≤1000) (hok:∀ x∈a,x.p.Ok):PCall Tryz.prog 15 [.tree 5 (a.map acA),.tree 5 (a.map acA)] (.v (.bool true)):=by
 refine pB Tryz.func15 rfl Tryz.ntmps15 (Nat.le_of_ble_eq_true rfl) ?_
 refine wS (wR ?_)
 refine oL (lA (a:=.v _) rfl) rfl rfl ?_
 refine oN (aN (wS (wS (wR ?_))))
 refine oL (lM (a:=.tree _ _) rfl) rfl rfl ?_
 refine oL (lT rfl Tryz.underlying31 rfl) rfl rfl ?_
 refine oL (lM (a:=.tree _ _) rfl) rfl rfl ?_
 refine oL (lT rfl Tryz.underlying31 rfl) rfl rfl ?_
 refine oL (LOp.neSame rfl rfl) rfl rfl ?_
 refine oN (aN ?_)
 refine AWP.condF rfl ?_
 refine wK (aN (wS (wS (wR ?_))))
 refine oL (lM (a:=.tree _ _) rfl) rfl rfl ?_
 refine oL (lT rfl Tryz.underlying31 rfl) rfl rfl ?_
 refine oL (lM (a:=.v _) rfl) rfl rfl ?_
 refine oN (aN (wB ?_))
 refine wL (fun n s=>∃ k:Nat,n=(a.length - k)∧s=⟨fL [(0,.tree 5 (a.map acA)),(1,.tree 5 (a.map acA)),(15,.v (.int .i64 ((a.length:Nat):Int))),(16,.v (.int .i64 ((k:Nat):Int)))],hLz [],0⟩∧(k≤a.length∧∀ j,j < k→(fun _=>true) j=true)) (n:=(a.length - 0)) (s1:=⟨fL [(0,.tree 5 (a.map acA)),(1,.tree 5 (a.map acA)),(15,.v (.int .i64 ((a.length:Nat):Int))),(16,.v (.int .i64 ((0:Nat):Int)))],hLz [],0⟩) (cO (.cons rfl rfl (.cons rfl rfl (.cons rfl rfl (.cons rfl rfl .nil)))) .nil) ⟨0,rfl,rfl,⟨Nat.zero_le _,fun j h=>absurd h (Nat.not_lt_zero j)⟩⟩ ?_
 rintro n s ⟨k,rfl,rfl,hinv⟩
 obtain ⟨hk,hj⟩:=hinv
 refine wS (wR ?_)
 refine oL (lP rfl (fun _ _=>nofun) (fun _=>rfl)) rfl rfl ?_
 refine oN (aN (wS ?_))
 refine wC rfl (fun hc17=>?_) (fun hc17=>?_)
 ·skip
  have hlt:k < a.length:=Int.ofNat_lt.1 (of_decide_eq_true hc17)
  have hpk:=hok _ (List.getElem_mem hlt)
  have hcl:=hpk.cls
  refine wK (aN (wS (wB (wS (wR ?_)))))
  refine oL (lM (a:=.v _) rfl) rfl rfl ?_
  refine oL (lA (a:=.v _) rfl) rfl rfl ?_
  refine oN (aN (wS (AWP.regD mixed ?_)))
  refine qL (lM (a:=.tree _ _) rfl) rfl rfl ?_
  refine qL (lM (a:=.v _) rfl) rfl rfl ?_
  refine qL (lI Tryz.underlying31 sz39 rfl rfl (by first | assumption | omega)) rfl rfl ?_
  refine qL (LOp.fieldAddrT fi39_1 rfl rfl) rfl rfl ?_
  refine qL (LOp.ldTN row37 rfl rfl) rfl rfl ?_
  refine qL (lM (a:=.tree _ _) rfl) rfl rfl ?_
  refine qL (lM (a:=.v _) rfl) rfl rfl ?_
  refine qL (lI Tryz.underlying31 sz39 rfl rfl (by first | assumption | omega)) rfl rfl ?_
  refine qL (LOp.fieldAddrT fi39_1 rfl rfl) rfl rfl ?_
  refine qL (LOp.ldTN row37 rfl rfl) rfl rfl ?_
  refine SeqC.nw (LOp.al zr37 rfl) rfl rfl 1 rfl ?_
  refine SeqC.nw (LOp.al zr37 rfl) rfl rfl 2 rfl ?_
  refine SeqC.wr (LOp.st sz37 rfl rfl rfl rfl rfl rfl rfl rfl) rfl rfl rfl ?_
  refine SeqC.wr (LOp.st sz37 rfl rfl rfl rfl rfl rfl rfl rfl) rfl rfl rfl ?_
  refine SeqC.nil ⟨by kernel_rfl,?_⟩
  refine aN (wS (wS (AWP.regD mixed ?_)))
  refine qL (lM (a:=.tree _ _) rfl) rfl rfl ?_
  refine qL (lM (a:=.v _) rfl) rfl rfl ?_
  refine qL (lI Tryz.underlying31 sz39 rfl rfl (by first | assumption | omega)) rfl rfl ?_
  refine qL (LOp.fieldAddrT fi39_0 rfl rfl) rfl rfl ?_
  refine qL (lE row4 rfl rfl) rfl rfl ?_
  refine qL (lM (a:=.tree _ _) rfl) rfl rfl ?_
  refine qL (lM (a:=.v _) rfl) rfl rfl ?_
  refine qL (lI Tryz.underlying31 sz39 rfl rfl (by first | assumption | omega)) rfl rfl ?_
  refine qL (LOp.fieldAddrT fi39_0 rfl rfl) rfl rfl ?_
  refine qL (lE row4 rfl rfl) rfl rfl ?_
  refine qL (LOp.neSameB rfl rfl Tryz.underlying4) rfl rfl ?_
  refine qL (lM (a:=.v _) rfl) rfl rfl ?_
  refine qL (lF fi37_0 rfl rfl rfl rfl rfl) rfl rfl ?_
  refine qL (lD row3 rfl rfl rfl rfl rfl) rfl rfl ?_
  refine qL (lF fi37_0 rfl rfl rfl rfl rfl) rfl rfl ?_
  refine qL (lD row3 rfl rfl rfl rfl rfl) rfl rfl ?_
  refine qL (LOp.neSame rfl rfl) rfl rfl ?_
  refine qL (lK rfl rfl rfl) rfl rfl ?_
  refine qL (lM (a:=.v _) rfl) rfl rfl ?_
  refine qL (lF fi37_1 rfl rfl rfl rfl rfl) rfl rfl ?_
  refine qL (lD row3 rfl rfl rfl rfl rfl) rfl rfl ?_
  refine qL (lF fi37_1 rfl rfl rfl rfl rfl) rfl rfl ?_
  refine qL (lD row3 rfl rfl rfl rfl rfl) rfl rfl ?_
  refine qL (LOp.neSame rfl rfl) rfl rfl ?_
  refine qL (lK rfl rfl rfl) rfl rfl ?_
  refine qL (lM (a:=.v _) rfl) rfl rfl ?_
  refine qL (lF fi37_2 rfl rfl rfl rfl rfl) rfl rfl ?_
  refine qL (lD row34 rfl rfl rfl rfl rfl) rfl rfl ?_
  refine qL (lF fi37_2 rfl rfl rfl rfl rfl) rfl rfl ?_
  refine qL (lD row34 rfl rfl rfl rfl rfl) rfl rfl ?_
  refine qL (LOp.call bod29 rfl (samev_p a[k].p.vars hpk.vars)) rfl rfl ?_
  refine qL (lP rfl (fun _ _=>nofun) (fun _=>rfl)) rfl rfl ?_
  refine qL (lK rfl rfl rfl) rfl rfl ?_
  refine qL (lM (a:=.v _) rfl) rfl rfl ?_
  refine qL (lF fi37_3 rfl rfl rfl rfl rfl) rfl rfl ?_
  refine qL (lD row35 rfl rfl rfl rfl rfl) rfl rfl ?_
  refine qL (lT rfl Tryz.underlying35 rfl) rfl rfl ?_
  refine qL (lF fi37_3 rfl rfl rfl rfl rfl) rfl rfl ?_
  refine qL (lD row35 rfl rfl rfl rfl rfl) rfl rfl ?_
  refine qL (lT rfl Tryz.underlying35 rfl) rfl rfl ?_
  refine qL (LOp.neSame rfl rfl) rfl rfl ?_
  refine qL (lK rfl rfl rfl) rfl rfl ?_
  refine SeqC.nil ⟨by kernel_rfl,?_⟩
  refine aN ?_
  refine AWP.condF rfl ?_
  refine wK (aN (wS (wR ?_)))
  refine oL (lF fi37_3 rfl rfl rfl rfl rfl) rfl rfl ?_
  refine oL (lD row35 rfl rfl rfl rfl rfl) rfl rfl ?_
  refine oL (lT rfl Tryz.underlying35 rfl) rfl rfl ?_
  refine oL (lM (a:=.v _) rfl) rfl rfl ?_
  refine oN (aN (wB ?_))
  refine wL (fun n s=>∃ k2:Nat,n=(a[k].p.cls.length - k2)∧s=⟨fL [(0,.tree 5 (a.map acA)),(1,.tree 5 (a.map acA)),(6,.ptr 0 0 0),(7,.ptr 1 0 0),(15,.v (.int .i64 ((a.length:Nat):Int))),(16,.v (.int .i64 ((k:Nat):Int))),(73,.v (.int .i64 ((a[k].p.cls.length:Nat):Int))),(74,.v (.int .i64 ((k2:Nat):Int)))],hLz [(0,⟨0,prA a[k].p,0,false⟩),(1,⟨0,prA a[k].p,0,false⟩)],2⟩∧(k2≤a[k].p.cls.length∧∀ j,j < k2→(fun _=>true) j=true)) (n:=(a[k].p.cls.length - 0)) (s1:=⟨fL [(0,.tree 5 (a.map acA)),(1,.tree 5 (a.map acA)),(6,.ptr 0 0 0),(7,.ptr 1 0 0),(15,.v (.int .i64 ((a.length:Nat):Int))),(16,.v (.int .i64 ((k:Nat):Int))),(73,.v (.int .i64 ((a[k].p.cls.length:Nat):Int))),(74,.v (.int .i64 ((0:Nat):Int)))],hLz [(0,⟨0,prA a[k].p,0,false⟩),(1,⟨0,prA a[k].p,0,false⟩)],2⟩) (cO (.cons rfl rfl (.cons rfl rfl (.cons rfl rfl (.cons rfl rfl (.cons rfl rfl (.cons rfl rfl (.cons rfl rfl (.cons rfl rfl .nil)))))))) (.cons rfl rfl rfl (.cons rfl rfl rfl .nil))) ⟨0,rfl,rfl,⟨Nat.zero_le _,fun j h=>absurd h (Nat.not_lt_zero j)⟩⟩ ?_
  rintro n s ⟨k2,rfl,rfl,hinv⟩
  obtain ⟨hk,hj⟩:=hinv
  refine wS (wR ?_)
  refine oL (lP rfl (fun _ _=>nofun) (fun _=>rfl)) rfl rfl ?_
  refine oN (aN (wS ?_))
  refine wC rfl (fun hc75=>?_) (fun hc75=>?_)
  ·skip
   have hlt2:k2 < a[k].p.cls.length:=Int.ofNat_lt.1 (of_decide_eq_true hc75)
   refine wK (aN (wS (wB (wS (wR ?_)))))
   refine oL (lM (a:=.v _) rfl) rfl rfl ?_
   refine oL (lA (a:=.v _) rfl) rfl rfl ?_
   refine oN (aN (wS (AWP.regD mixed ?_)))
   refine qL (lF fi37_3 rfl rfl rfl rfl rfl) rfl rfl ?_
   refine qL (lD row35 rfl rfl rfl rfl rfl) rfl rfl ?_
   refine qL (lM (a:=.v _) rfl) rfl rfl ?_
   refine qL (lI Tryz.underlying35 sz76 rfl rfl (by first | assumption | omega)) rfl rfl ?_
   refine qL (LOp.ldTN row76 rfl rfl) rfl rfl ?_
   refine qL (lF fi37_3 rfl rfl rfl rfl rfl) rfl rfl ?_
   refine qL (lD row35 rfl rfl rfl rfl rfl) rfl rfl ?_
   refine qL (lM (a:=.v _) rfl) rfl rfl ?_
   refine qL (lI Tryz.underlying35 sz76 rfl rfl (by first | assumption | omega)) rfl rfl ?_
   refine qL (LOp.ldTN row76 rfl rfl) rfl rfl ?_
   refine qL (LOp.call bod30 rfl (samecl_p a[k].p.cls[k2] (hpk.each _ (List.getElem_mem _)))) rfl rfl ?_
   refine qL (lP rfl (fun _ _=>nofun) (fun _=>rfl)) rfl rfl ?_
   refine SeqC.nil ⟨by kernel_rfl,?_⟩
   refine aN ?_
   refine AWP.condF rfl ?_
   refine wK (bN (aN (wR ?_)))
   refine oL (lJ rfl rfl (by omega) (by omega)) rfl rfl ?_
   refine oL (lM (a:=.v _) rfl) rfl rfl ?_
   refine oN (aN ?_)
   refine ⟨(a[k].p.cls.length - (k2+1)),⟨fL [(0,.tree 5 (a.map acA)),(1,.tree 5 (a.map acA)),(6,.ptr 0 0 0),(7,.ptr 1 0 0),(15,.v (.int .i64 ((a.length:Nat):Int))),(16,.v (.int .i64 ((k:Nat):Int))),(73,.v (.int .i64 ((a[k].p.cls.length:Nat):Int))),(74,.v (.int .i64 (((k2+1):Nat):Int)))],hLz [(0,⟨0,prA a[k].p,0,false⟩),(1,⟨0,prA a[k].p,0,false⟩)],2⟩,by omega,(cO (.cons rfl rfl (.cons rfl rfl (.cons rfl rfl (.cons rfl rfl (.cons rfl rfl (.cons rfl rfl (.cons rfl rfl (.cons rfl rfl .nil)))))))) (.cons rfl rfl rfl (.cons rfl rfl rfl .nil))),(k2+1),rfl,rfl,?_⟩
   exact ⟨by omega,fun j h=>rfl⟩
  ·skip
   refine AWP.exit (aE (aE (bE ?_)))
   refine bN (aN (wR ?_))
   refine oL (lJ rfl rfl (by omega) (by omega)) rfl rfl ?_
   refine oL (lM (a:=.v _) rfl) rfl rfl ?_
   refine oN (aN ?_)
   refine ⟨(a.length - (k+1)),⟨fL [(0,.tree 5 (a.map acA)),(1,.tree 5 (a.map acA)),(15,.v (.int .i64 ((a.length:Nat):Int))),(16,.v (.int .i64 (((k+1):Nat):Int)))],hLz [],0⟩,by omega,(cO (.cons rfl rfl (.cons rfl rfl (.cons rfl rfl (.cons rfl rfl .nil)))) .nil),(k+1),rfl,rfl,?_⟩
   exact ⟨by omega,fun j h=>rfl⟩
 ·skip
  have hge:¬ k < a.length:=fun h=>of_decide_eq_false hc17 (Int.ofNat_lt.2 h)
  refine AWP.exit (aE (aE (bE ?_)))
  refine aN (wS (wR ?_))
  refine oL (lA (a:=.v _) rfl) rfl rfl ?_
  refine oN (aN ?_)
  refine wT (?_)
  refine ⟨.inr rfl,oV Tryz.results15 rfl rfl ?_⟩
  rfl
end Go.Proofs.YtfelpgeolclnbaaGreatDoor
