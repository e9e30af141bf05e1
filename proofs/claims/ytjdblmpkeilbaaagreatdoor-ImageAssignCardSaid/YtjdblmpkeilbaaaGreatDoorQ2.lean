/- Texts of the claim. -/
import Derived.Lib.MinMax
import Derived.Lib.Bytealg
import Derived.Laws.Externs
import Derived.Test.YtjdblmpkeilbaaaGreatDoorQ1
import Derived.Test.YtjdblmpkeilbaaaGreatDoorE1
namespace Go.Proofs.YtjdblmpkeilbaaaGreatDoor
set_option linter.unusedVariables false
set_option linter.unusedSimpArgs false
open Go.RowKit
section
variable {P:Program} {τ:Nat→AV} {η:Heap} {d:Option Tmp} {ty:TypeId} {pos:String} {af:Array Edge} {g:Option (Nat×Bool)}
theorem LOp.indexI {α:Type} {t e n:Nat} {x i:Operand} {f:α→List AV} {l:List α} {v:Int} {j:Nat} (he:P.underlying t=some (.slice e)) (hs:sizeInfo P e=some n) (hx:aev τ x=.tree n (l.map f)) (hi:aev τ i=.v (.int .i64 v)) (hv:v=((j:Nat):Int)) (hj:j < l.length) :
  LOp P ⟨d,.indexAddr t x i,ty,pos,af,g⟩ τ η [] [] (.tp (f l[j]) 0):=by
 subst hv
 exact lI he hs hx hi hj
theorem LOp.lenStr {t:Nat} {x:Operand} {s:ByteArray} {ats:Array TypeId} (ha:ats[0]? = some t) (hu:P.underlying t=some .string) (hx:aev τ x=.v (.string s)) :
  LOp P ⟨d,.call { callee:=.builtin .len,args:=#[x],argTypes:=ats },ty,pos,af,g⟩ τ η [] [] (.v (.int .i64 ((s.size:Nat):Int))) :=
 .look [] fun C a hg hxs _=>by
  have h1:=hxs x (by simp [Op.operands,Call.operands])
  rw [hx] at h1
  have e1:=h1.v_inv
  refine ⟨_,?_,VR.v C _⟩
  simp [execOp,e1,resolve,invoke,builtin,Builtin.len_,ha,run_underlying hu,goInt]
/-- The byte at a place. -/
def bAt (s:ByteArray) (k:Nat):UInt8:=s.data.getD k 0
theorem bAt_some {s:ByteArray} {k:Nat} (h:k < s.size):s[k]? = some (bAt s k):=by
 have h1:k < s.data.size:=h
 rw [getElem?_pos s k h]
 unfold bAt
 simp [Array.getD,h1]
 rw [dif_pos h]
 rfl
theorem LOp.indexStr {t k:Nat} {x i:Operand} {s:ByteArray} (hu:P.underlying t=some .string) (hx:aev τ x=.v (.string s)) (hi:aev τ i=.v (.int .i64 ((k:Nat):Int))) (hk:k < s.size) :
  LOp P ⟨d,.index t x i,ty,pos,af,g⟩ τ η [] [] (.v (.int .u8 (((bAt s k).toNat:Nat):Int))) :=
 .look [] fun C a hg hxs _=>by
  have h1:=hxs x (by simp [Op.operands])
  have h2:=hxs i (by simp [Op.operands])
  rw [hx] at h1
  rw [hi] at h2
  have e1:=h1.v_inv
  have e2:=h2.v_inv
  refine ⟨_,?_,VR.v C _⟩
  simp only [execOp,e1,e2,Instr.index,asIntOf,Sem.run_bind,Sem.run_pure,Result.andThen_ok,run_underlying hu]
  have h0:(0:Int)≤((k:Nat):Int):=Int.natCast_nonneg k
  simp only [h0,if_true,Int.toNat_natCast,bAt_some hk,Sem.run_pure,Result.andThen_ok]
end
theorem vb_eq {b c:Bool} (h:b=c):AV.v (.bool b)=AV.v (.bool c):=by rw [h]
def allN (n:Nat) (p:Nat→Bool):Bool:=(List.range n).all p
theorem allN_hit {n k:Nat} {p:Nat→Bool} (h:k < n) (hp:p k=false):allN n p=false:=by
 unfold allN
 rw [List.all_eq_false]
 exact ⟨k,List.mem_range.2 h,by simp [hp]⟩
theorem allN_end {n k:Nat} {p:Nat→Bool} (h:k≤n) (h':¬ k < n) (hp:∀ j,j < k→p j=true):allN n p=true:=by
 unfold allN
 rw [List.all_eq_true]
 exact fun j hj=>hp j (by have:=List.mem_range.1 hj; omega)
def iA (n:Int):List AV:=[.v (.int .i64 n)]
theorem getD_at {α:Type} {l:List α} {k:Nat} {d:α} (h:k < l.length):l.getD k d=l[k]:=by simp [List.getD,h]
end Go.Proofs.YtjdblmpkeilbaaaGreatDoor
namespace Go.Proofs.YtjdblmpkeilbaaaGreatDoor
set_option linter.unusedVariables false
set_option linter.unusedSimpArgs false
open Go.RowKit
inductive UK where
 | sl (e:Nat)
 | str
 | bool
 | o
def undK (P:Program) (t:Nat):UK:=match P.underlying t with
 | some (.slice e)=>.sl e
 | some .string=>.str
 | some .bool=>.bool
 | _=>.o
theorem undK_sl {P:Program} {t e:Nat} (h:undK P t=.sl e):P.underlying t=some (.slice e):=by
 unfold undK at h
 split at h <;> first | (cases h; assumption) | cases h
theorem undK_str {P:Program} {t:Nat} (h:undK P t=.str):P.underlying t=some .string:=by
 unfold undK at h
 split at h <;> first | (cases h; assumption) | cases h
theorem undK_bool {P:Program} {t:Nat} (h:undK P t=.bool):P.underlying t=some .bool:=by
 unfold undK at h
 split at h <;> first | (cases h; assumption) | cases h
/-- What is known of a type. k: 1 struct, 2 array, 0 else. -/
structure TI where
 ty:Nat
 und:UK
 row:Option Nat
 size:Nat
 bytes:Nat
 zero:Value
 k:Nat
 pl:List (Nat×Nat)
def fiL (P:Program) (i:TI):List (Option (Nat×Nat)):=match i.k with
 | 1=>(List.range i.pl.length).map (fieldInfo P i.ty)
 | _=>[]
def plL (P:Program) (i:TI):Option (List (Nat×Nat)):=match i.k with
 | 0=>none
 | _=>placesOf P i.ty
def TI.v1 (P:Program) (i:TI):=(undK P i.ty,rowOf P i.ty,sizeInfo P i.ty,(P.info? i.ty).map (·.bytes),zeroOf P i.ty,plL P i,fiL P i)
def TI.v2 (i:TI):=(i.und,some i.row,some i.size,some i.bytes,some i.zero,(match i.k with | 0=>none | _=>some i.pl),(match i.k with | 1=>i.pl.map some | _=>[]))
structure TI.Ok (P:Program) (i:TI):Prop where
 und:undK P i.ty=i.und
 row:rowOf P i.ty=some i.row
 size:sizeInfo P i.ty=some i.size
 bytes:(P.info? i.ty).map (·.bytes)=some i.bytes
 zero:zeroOf P i.ty=some i.zero
 pl:Nat.beq i.k 0=false→placesOf P i.ty=some i.pl
 fi:Nat.beq i.k 1=true→∀ j f,i.pl[j]? = some f→fieldInfo P i.ty j=some f
theorem TI.ok_of {P:Program} {i:TI} (h:i.v1 P=i.v2):i.Ok P:=by
 unfold TI.v1 TI.v2 at h
 simp only [Prod.mk.injEq] at h
 obtain ⟨h1,h2,h3,h4,h5,h6,h7⟩:=h
 refine ⟨h1,h2,h3,h4,h5,fun hk=>?_,fun hk j f hj=>?_⟩
 ·cases e:i.k with
  | zero=>rw [e] at hk; cases hk
  | succ n=>unfold plL at h6; simp only [e] at h6; exact h6
 ·have e:i.k=1:=Nat.eq_of_beq_eq_true hk
  unfold fiL at h7
  rw [e] at h7
  obtain ⟨hlt,hf⟩:=List.getElem?_eq_some_iff.1 hj
  have:=congrArg (fun l=>l[j]?) h7
  simp only [List.getElem?_map,List.getElem?_range hlt,Option.map_some,hj] at this
  exact Option.some.inj this
def look1:List TI→Nat→Option TI
 | [],_=>none
 | i :: r,t=>bif Nat.beq i.ty t then some i else look1 r t
/-- What is known of the program: its types, its functions that have bodies. -/
structure Inf where
 I:List TI
 B:List Nat
structure Inf.Ok (P:Program) (X:Inf):Prop where
 I:∀ i∈X.I,i.Ok P
 B:∀ f∈X.B,bodied P f=true
 m:P.follows .mixedOrders=true
theorem Inf.ok_of {P:Program} {X:Inf} (h1:X.I.map (TI.v1 P)=X.I.map TI.v2) (h2:X.B.all (bodied P)=true) (h3:P.follows .mixedOrders=true):X.Ok P:=by
 refine ⟨fun i hi=>TI.ok_of ?_,fun f hf=>List.all_eq_true.1 h2 f hf,h3⟩
 obtain ⟨j,hj,rfl⟩:=List.getElem_of_mem hi
 have:=congrArg (fun l=>l[j]?) h1
 simpa [hj] using this
theorem look1_ok {P:Program} {X:Inf} (h:X.Ok P) {t:Nat} {i:TI} (hl:look1 X.I t=some i):i.Ok P∧i.ty=t:=by
 have:∀ l:List TI,look1 l t=some i→i∈l∧i.ty=t:=by
  intro l
  induction l with
  | nil=>intro h; cases h
  | cons a r ih=>
   intro h
   unfold look1 at h
   cases hb:Nat.beq a.ty t with
   | true=>rw [hb] at h; simp only [cond_true,Option.some.injEq] at h; subst h; exact ⟨by simp,Nat.eq_of_beq_eq_true hb⟩
   | false=>rw [hb] at h; simp only [cond_false] at h; exact ⟨by simp [(ih h).1],(ih h).2⟩
 exact ⟨h.I _ (this _ hl).1,(this _ hl).2⟩
/-- A value in the form of a constructor. -/
def frc (a:AV) (k:AV→Prop):Prop:=match a with
 | .v x=>k (.v x)
 | .ptr i v o=>k (.ptr i v o)
 | .sl i v o n=>k (.sl i v o n)
 | .tree n xs=>k (.tree n xs)
 | .tp cs o=>k (.tp cs o)
 | .agg cs=>k (.agg cs)
 | .tup cs=>k (.tup cs)
 | .clo f cs=>k (.clo f cs)
 | .unk=>k .unk
 | .mp i v=>k (.mp i v)
 | .it i v=>k (.it i v)
theorem frc_ok {a:AV} {k:AV→Prop} (h:frc a k):k a:=by cases a <;> exact h
def frcL:List AV→(List AV→Prop)→Prop
 | [],k=>k []
 | a :: r,k=>frc a fun a'=>frcL r fun r'=>k (a' :: r')
theorem frcL_ok:∀ {l:List AV} {k:List AV→Prop},frcL l k→k l
 | [],_,h=>h
 | a :: r,k,h=>frcL_ok (k:=fun r'=>k (a :: r')) (frc_ok (k:=fun a'=>frcL r fun r'=>k (a' :: r')) h)
abbrev KT:=List Nat→List (Nat×Option Blk)→AV→Nat→Prop
/-- An operation that the prover takes himself. -/
inductive OpG (P:Program) (o:Oper) (τ:Nat→AV) (η:Heap) (u:Nat) (k:KT):Prop
 | mk (fp:List Nat) (δ:List (Nat×Option Blk)) (v:AV) (u':Nat) (hL:LOp P o τ η fp δ v) (hu:Nat.ble u u'=true) (hn:newOk fp δ u u'=true) (h:k fp δ v u'):OpG P o τ η u k
inductive IdxG (xs:List (List AV)) (j:Nat) (k:AV→Prop):Prop
 | mk (hj:j < xs.length) (h:k (.tp xs[j] 0)):IdxG xs j k
inductive LenG (xs:List (List AV)) (k:AV→Prop):Prop
 | mk (h:k (.v (.int .i64 ((xs.length:Nat):Int)))):LenG xs k
theorem IdxG.of {α:Type} {f:α→List AV} {l:List α} {j:Nat} {k:AV→Prop} (hj:j < l.length) (h:k (.tp (f l[j]) 0)):IdxG (l.map f) j k:=by
 refine .mk (by rw [List.length_map]; exact hj) ?_
 rw [List.getElem_map]; exact h
theorem IdxG.as {α:Type} {f:α→List AV} {l:List α} {j:Nat} {cs:List AV} {k:AV→Prop} (hj:j < l.length) (hc:f l[j]=cs) (h:k (.tp cs 0)):IdxG (l.map f) j k:=by
 subst hc; exact .of hj h
theorem LenG.of {α:Type} {f:α→List AV} {l:List α} {k:AV→Prop} (h:k (.v (.int .i64 ((l.length:Nat):Int)))):LenG (l.map f) k:=by
 refine .mk ?_
 rw [List.length_map]; exact h
section
variable {P:Program} {X:Inf} {τ:Nat→AV} {η:Heap} {u:Nat} {k:KT} {d:Option Tmp} {ty:TypeId} {pos:String} {af:Array Edge} {g:Option (Nat×Bool)}
theorem OpG.lk {o:Oper} {fp:List Nat} {v:AV} (hL:LOp P o τ η fp [] v) (h:k fp [] v u):OpG P o τ η u k:=.mk fp [] v u hL (by simp [Nat.ble_eq]) rfl h
theorem OpG.nw {o:Oper} {b:Option Blk} {v:AV} (hL:LOp P o τ η [] [(u,b)] v) (ht:Nat.ble (u+1) TOP=true) (h:k [] [(u,b)] v (u+1)):OpG P o τ η u k:=.mk [] _ v (u+1) hL (by simp [Nat.ble_eq]) (newOk_new ht) h
theorem OpG.wr {o:Oper} {b:Option Blk} {v:AV} {id:Nat} (hL:LOp P o τ η [id] [(id,b)] v) (ht:lowId u id=true) (h:k [id] [(id,b)] v u):OpG P o τ η u k:=.mk [id] _ v u hL (by simp [Nat.ble_eq]) (newOk_old ht) h
theorem cond_and {b:Bool} {A B:Prop} (h:cond b A B):(b=true∧A)∨(b=false∧B):=by cases b with
 | true=>exact .inl ⟨rfl,h⟩
 | false=>exact .inr ⟨rfl,h⟩
def pickS (P:Program) (o:Oper) (τ:Nat→AV) (η:Heap) (u:Nat) (c x y:Operand) (k:KT):Prop:=match aev τ c with
 | .v (.bool t)=>cond t (frc (aev τ x) fun v=>k [] [] v u) (frc (aev τ y) fun v=>k [] [] v u)
 | _=>OpG P o τ η u k
theorem pickS_ok {c x y:Operand} (h:pickS P ⟨d,.pick c x y,ty,pos,af,g⟩ τ η u c x y k):OpG P ⟨d,.pick c x y,ty,pos,af,g⟩ τ η u k:=by
 unfold pickS at h
 split at h
 ·rename_i t hc
  rcases cond_and h with ⟨e,h'⟩ | ⟨e,h'⟩
  ·exact .lk (LOp.pkT hc e rfl) (frc_ok (k:=fun v=>k [] [] v u) h')
  ·exact .lk (LOp.pkF hc e rfl) (frc_ok (k:=fun v=>k [] [] v u) h')
 ·exact h
def loadS (P:Program) (X:Inf) (o:Oper) (τ:Nat→AV) (η:Heap) (u:Nat) (t:Nat) (x:Operand) (k:KT):Prop:=match look1 X.I t with
 | none=>OpG P o τ η u k
 | some i=>match aev τ x with
  | .ptr id ver p=>match liveB η id ver with
   | none=>OpG P o τ η u k
   | some b=>match i.row with
    | none=>match b.cs[p]? with
     | some v=>frc v fun v=>k [id] [] v u
     | none=>OpG P o τ η u k
    | some n=>match takeFrom p n b.cs with
     | some ds=>k [id] [] (.agg ds) u
     | none=>OpG P o τ η u k
  | .tp cs p=>match i.row with
   | none=>match cs[p]? with
    | some v=>frc v fun v=>k [] [] v u
    | none=>OpG P o τ η u k
   | some n=>match takeFrom p n cs with
    | some ds=>k [] [] (.agg ds) u
    | none=>OpG P o τ η u k
  | _=>OpG P o τ η u k
theorem loadS_ok (hX:X.Ok P) {t:Nat} {x:Operand} (h:loadS P X ⟨d,.load t x,ty,pos,af,g⟩ τ η u t x k):OpG P ⟨d,.load t x,ty,pos,af,g⟩ τ η u k:=by
 unfold loadS at h
 split at h
 ·exact h
 ·rename_i i hi
  obtain ⟨hI,rfl⟩:=look1_ok hX hi
  split at h
  ·rename_i id ver p hx
   split at h
   ·exact h
   ·rename_i b hb
    obtain ⟨h1,h2,h3⟩:=liveB_ok hb
    split at h
    ·rename_i hr
     split at h
     ·rename_i v hv
      exact .lk (lD (hI.row.trans (by rw [hr])) hx h1 h2 h3 hv) (frc_ok h)
     ·exact h
    ·rename_i n hr
     split at h
     ·rename_i ds hv
      exact .lk (LOp.ldN (hI.row.trans (by rw [hr])) hx h1 h2 h3 hv) h
     ·exact h
  ·rename_i cs p hx
   split at h
   ·rename_i hr
    split at h
    ·rename_i v hv
     exact .lk (lE (hI.row.trans (by rw [hr])) hx hv) (frc_ok h)
    ·exact h
   ·rename_i n hr
    split at h
    ·rename_i ds hv
     exact .lk (LOp.ldTN (hI.row.trans (by rw [hr])) hx hv) h
    ·exact h
  ·exact h
def fieldAS (P:Program) (X:Inf) (o:Oper) (τ:Nat→AV) (η:Heap) (u:Nat) (t:Nat) (x:Operand) (j:Nat) (k:KT):Prop:=match look1 X.I t with
 | none=>OpG P o τ η u k
 | some i=>bif Nat.beq i.k 1 then match i.pl[j]? with
  | none=>OpG P o τ η u k
  | some (off,sz)=>bif Nat.beq sz 0 then OpG P o τ η u k else match aev τ x with
   | .ptr id ver p=>match liveB η id ver with
    | none=>OpG P o τ η u k
    | some b=>k [id] [] (.ptr id ver (p+off)) u
   | .tp cs p=>k [] [] (.tp cs (p+off)) u
   | _=>OpG P o τ η u k
  else OpG P o τ η u k
theorem fieldAS_ok (hX:X.Ok P) {t j:Nat} {x:Operand} (h:fieldAS P X ⟨d,.fieldAddr t x j,ty,pos,af,g⟩ τ η u t x j k):OpG P ⟨d,.fieldAddr t x j,ty,pos,af,g⟩ τ η u k:=by
 unfold fieldAS at h
 split at h
 ·exact h
 ·rename_i i hi
  obtain ⟨hI,rfl⟩:=look1_ok hX hi
  rcases cond_and h with ⟨hk,h⟩ | ⟨hk,h⟩
  ·split at h
   ·exact h
   ·rename_i off sz hp
    have hf:=hI.fi hk _ _ hp
    rcases cond_and h with ⟨hz,h⟩ | ⟨hz,h⟩
    ·exact h
    ·split at h
     ·rename_i id ver p hx
      split at h
      ·exact h
      ·rename_i b hb
       obtain ⟨h1,h2,h3⟩:=liveB_ok hb
       exact .lk (lF hf hz hx h1 h2 h3) h
     ·rename_i cs p hx
      exact .lk (LOp.fieldAddrT hf hz hx) h
     ·exact h
  ·exact h
def indexAS (P:Program) (X:Inf) (o:Oper) (τ:Nat→AV) (η:Heap) (u:Nat) (t:Nat) (x y:Operand) (k:KT):Prop:=match look1 X.I t with
 | none=>OpG P o τ η u k
 | some i=>match i.und with
  | .sl e=>match look1 X.I e with
   | none=>OpG P o τ η u k
   | some q=>match aev τ x with
    | .tree n xs=>match aev τ y with
     | .v (.int .i64 (.ofNat j))=>bif Nat.beq q.size n then IdxG xs j fun v=>k [] [] v u else OpG P o τ η u k
     | _=>OpG P o τ η u k
    | .sl id ver off len=>match aev τ y with
     | .v (.int .i64 (.ofNat j))=>match liveB η id ver with
      | some b=>bif Nat.beq b.esz q.size then j < len∧k [id] [] (.ptr id ver (off+j * q.size)) u else OpG P o τ η u k
      | none=>OpG P o τ η u k
     | _=>OpG P o τ η u k
    | _=>OpG P o τ η u k
  | _=>OpG P o τ η u k
theorem indexAS_ok (hX:X.Ok P) {t:Nat} {x y:Operand} (h:indexAS P X ⟨d,.indexAddr t x y,ty,pos,af,g⟩ τ η u t x y k):OpG P ⟨d,.indexAddr t x y,ty,pos,af,g⟩ τ η u k:=by
 unfold indexAS at h
 split at h
 ·exact h
 ·rename_i i hi
  obtain ⟨hI,rfl⟩:=look1_ok hX hi
  split at h
  ·rename_i e he
   have hu:=undK_sl (hI.und.trans he)
   split at h
   ·exact h
   ·rename_i q hq
    obtain ⟨hQ,rfl⟩:=look1_ok hX hq
    split at h
    ·rename_i n xs hx
     split at h
     ·rename_i j hj
      rcases cond_and h with ⟨hz,h'⟩ | ⟨hz,h⟩
      ·obtain ⟨hl,h'⟩:=h'
       have hn:q.size=n:=Nat.eq_of_beq_eq_true hz
       subst hn
       have:=lI (P:=P) (τ:=τ) (η:=η) (d:=d) (ty:=ty) (pos:=pos) (af:=af) (g:=g) (f:=fun r:List AV=>r) (l:=xs) hu hQ.size (by rw [hx]; simp) hj hl
       exact .lk this h'
      ·exact h
     ·exact h
    ·rename_i id ver off len hx
     split at h
     ·rename_i j hj
      split at h
      ·rename_i b hb
       obtain ⟨h1,h2,h3⟩:=liveB_ok hb
       rcases cond_and h with ⟨hz,h⟩ | ⟨hz,h⟩
       ·exact .lk (LOp.indexS hu hQ.size hx hj h.1 h1 h2 h3 (Nat.eq_of_beq_eq_true hz)) h.2
       ·exact h
      ·exact h
     ·exact h
    ·exact h
  ·exact h
def indexStrS (P:Program) (X:Inf) (o:Oper) (τ:Nat→AV) (η:Heap) (u:Nat) (t:Nat) (x y:Operand) (k:KT):Prop:=match look1 X.I t with
 | none=>OpG P o τ η u k
 | some i=>match i.und with
  | .str=>match aev τ x with
   | .v (.string s)=>match aev τ y with
    | .v (.int .i64 (.ofNat j))=>j < s.size∧k [] [] (.v (.int .u8 ((bAt s j).toNat:Int))) u
    | _=>OpG P o τ η u k
   | _=>OpG P o τ η u k
  | _=>OpG P o τ η u k
theorem indexStrS_ok (hX:X.Ok P) {t:Nat} {x y:Operand} (h:indexStrS P X ⟨d,.index t x y,ty,pos,af,g⟩ τ η u t x y k):OpG P ⟨d,.index t x y,ty,pos,af,g⟩ τ η u k:=by
 unfold indexStrS at h
 split at h
 ·exact h
 ·rename_i i hi
  obtain ⟨hI,rfl⟩:=look1_ok hX hi
  split at h
  ·rename_i he
   have hu:=undK_str (hI.und.trans he)
   split at h
   ·rename_i s hx
    split at h
    ·rename_i j hj
     exact .lk (LOp.indexStr hu hx hj h.1) h.2
    ·exact h
   ·exact h
  ·exact h
def storeS (P:Program) (X:Inf) (o:Oper) (τ:Nat→AV) (η:Heap) (u:Nat) (t:Nat) (x y:Operand) (k:KT):Prop:=match look1 X.I t with
 | none=>OpG P o τ η u k
 | some i=>match aev τ x with
  | .ptr id ver p=>match η id with
   | some ⟨w,cs,z,np⟩=>bif Nat.beq w ver&&!np&&lowId u id then match cellsO (aev τ y) with
    | some vs=>frcL vs fun vs=>bif Nat.beq vs.length i.size&&vs.all AV.one then match putAt p cs vs with
     | some ds=>k [id] [(id,some ⟨w,ds,z,np⟩)] (.v undef) u
     | none=>OpG P o τ η u k
     else OpG P o τ η u k
    | none=>OpG P o τ η u k
    else OpG P o τ η u k
   | none=>OpG P o τ η u k
  | _=>OpG P o τ η u k
theorem storeS_ok (hX:X.Ok P) {t:Nat} {x y:Operand} (h:storeS P X ⟨d,.store t x y,ty,pos,af,g⟩ τ η u t x y k):OpG P ⟨d,.store t x y,ty,pos,af,g⟩ τ η u k:=by
 unfold storeS at h
 split at h
 ·exact h
 ·rename_i i hi
  obtain ⟨hI,rfl⟩:=look1_ok hX hi
  split at h
  ·rename_i id ver p hx
   split at h
   ·rename_i w cs z np hb
    rcases cond_and h with ⟨hc,h⟩ | ⟨hc,h⟩
    ·simp only [Bool.and_eq_true,Bool.not_eq_true'] at hc
     split at h
     ·rename_i vs hv
      rcases cond_and (frcL_ok h) with ⟨hz,h⟩ | ⟨hz,h⟩
      ·rw [Bool.and_eq_true] at hz
       split at h
       ·rename_i ds hd
        exact .wr (LOp.st hI.size hx hb (Nat.eq_of_beq_eq_true hc.1.1) hc.1.2 hv (Nat.eq_of_beq_eq_true hz.1) hz.2 hd) hc.2 h
       ·exact h
      ·exact h
     ·exact h
    ·exact h
   ·exact h
  ·exact h
def newS (P:Program) (o:Oper) (τ:Nat→AV) (η:Heap) (u:Nat) (cs:Option (List AV)) (k:KT):Prop:=match cs with
 | some vs=>bif Nat.ble (u+1) TOP then frcL vs fun vs=>k [] [(u,some ⟨0,vs,0,false⟩)] (.ptr u 0 0) (u+1) else OpG P o τ η u k
 | none=>OpG P o τ η u k
theorem boxS_ok {t:Nat} {x:Operand} (h:newS P ⟨d,.box t x,ty,pos,af,g⟩ τ η u (cellsO (aev τ x)) k):OpG P ⟨d,.box t x,ty,pos,af,g⟩ τ η u k:=by
 unfold newS at h
 split at h
 ·rename_i vs hv
  rcases cond_and h with ⟨hz,h⟩ | ⟨hz,h⟩
  ·have h:=frcL_ok h
   exact .nw (LOp.bx hv) hz h
  ·exact h
 ·exact h
def allocS (P:Program) (X:Inf) (o:Oper) (τ:Nat→AV) (η:Heap) (u:Nat) (t:Nat) (k:KT):Prop:=match look1 X.I t with
 | none=>OpG P o τ η u k
 | some i=>newS P o τ η u (cellsO (.v i.zero)) k
theorem allocS_ok (hX:X.Ok P) {t:Nat} (h:allocS P X ⟨d,.alloc t,ty,pos,af,g⟩ τ η u t k):OpG P ⟨d,.alloc t,ty,pos,af,g⟩ τ η u k:=by
 unfold allocS at h
 split at h
 ·exact h
 ·rename_i i hi
  obtain ⟨hI,rfl⟩:=look1_ok hX hi
  unfold newS at h
  split at h
  ·rename_i vs hv
   rcases cond_and h with ⟨hz,h⟩ | ⟨hz,h⟩
   ·have h:=frcL_ok h
    exact .nw (LOp.al hI.zero hv) hz h
   ·exact h
  ·exact h
def buildS (P:Program) (X:Inf) (o:Oper) (τ:Nat→AV) (η:Heap) (u:Nat) (t:Nat) (parts:Array (Nat×Operand)) (k:KT):Prop:=match look1 X.I t with
 | none=>OpG P o τ η u k
 | some i=>bif Nat.beq i.k 0 then OpG P o τ η u k else match cellsO (.v i.zero) with
  | none=>OpG P o τ η u k
  | some cs=>match fillO i.pl cs (partsA τ parts) with
   | some out=>frcL out fun out=>k [] [] (.agg out) u
   | none=>OpG P o τ η u k
theorem buildS_ok (hX:X.Ok P) {t:Nat} {parts:Array (Nat×Operand)} (h:buildS P X ⟨d,.build t parts,ty,pos,af,g⟩ τ η u t parts k):OpG P ⟨d,.build t parts,ty,pos,af,g⟩ τ η u k:=by
 unfold buildS at h
 split at h
 ·exact h
 ·rename_i i hi
  obtain ⟨hI,rfl⟩:=look1_ok hX hi
  rcases cond_and h with ⟨hz,h⟩ | ⟨hz,h⟩
  ·exact h
  ·split at h
   ·exact h
   ·rename_i cs hc
    split at h
    ·rename_i out ho
     have h:=frcL_ok h
     exact .lk (LOp.bd hI.zero (hI.pl hz) hc ho) h
    ·exact h
def buildSlS (P:Program) (X:Inf) (o:Oper) (τ:Nat→AV) (η:Heap) (u:Nat) (t len:Nat) (parts:Array (Nat×Operand)) (k:KT):Prop:=match look1 X.I t with
 | none=>OpG P o τ η u k
 | some i=>match i.und with
  | .sl e=>match look1 X.I e with
   | none=>OpG P o τ η u k
   | some q=>bif Nat.ble (u+1) TOP&&Nat.ble (len * q.size) 16777216&&Nat.ble len 16777216&&!Nat.beq (len * q.size) 0 then match fillO (slotsOf len q.size) (zerosA q.zero (len * q.size)) (partsA τ parts) with
    | some out=>frcL out fun out=>k [] [(u,some ⟨TV,out,q.size,false⟩)] (.sl u TV 0 len) (u+1)
    | none=>OpG P o τ η u k
    else OpG P o τ η u k
  | _=>OpG P o τ η u k
theorem buildSlS_ok (hX:X.Ok P) {t len:Nat} {parts:Array (Nat×Operand)} (h:buildSlS P X ⟨d,.buildSlice t len parts,ty,pos,af,g⟩ τ η u t len parts k):OpG P ⟨d,.buildSlice t len parts,ty,pos,af,g⟩ τ η u k:=by
 unfold buildSlS at h
 split at h
 ·exact h
 ·rename_i i hi
  obtain ⟨hI,rfl⟩:=look1_ok hX hi
  split at h
  ·rename_i e he
   have hu:=undK_sl (hI.und.trans he)
   split at h
   ·exact h
   ·rename_i q hq
    obtain ⟨hQ,rfl⟩:=look1_ok hX hq
    rcases cond_and h with ⟨hc,h⟩ | ⟨hc,h⟩
    ·simp only [Bool.and_eq_true,Bool.not_eq_true'] at hc
     split at h
     ·rename_i out ho
      have h:=frcL_ok h
      exact .nw (LOp.bs hu hQ.size hQ.zero hc.1.1.2 hc.1.2 hc.2 ho) hc.1.1.1 h
     ·exact h
    ·exact h
  ·exact h
def nilS (P:Program) (o:Oper) (τ:Nat→AV) (η:Heap) (u:Nat) (x:Operand) (k:KT):Prop:=match aev τ x with
 | .ptr id ver p=>match liveB η id ver with
  | some b=>k [id] [] (.ptr id ver p) u
  | none=>OpG P o τ η u k
 | .tp cs p=>k [] [] (.tp cs p) u
 | _=>OpG P o τ η u k
theorem nilS_ok {x:Operand} (h:nilS P ⟨d,.nilCheck x,ty,pos,af,g⟩ τ η u x k):OpG P ⟨d,.nilCheck x,ty,pos,af,g⟩ τ η u k:=by
 unfold nilS at h
 split at h
 ·rename_i id ver p hx
  split at h
  ·rename_i b hb
   obtain ⟨h1,h2,h3⟩:=liveB_ok hb
   exact .lk (lN hx h1 h2) h
  ·exact h
 ·rename_i cs p hx
  exact .lk (LOp.nilCheckT hx) h
 ·exact h
def extractS (P:Program) (o:Oper) (τ:Nat→AV) (η:Heap) (u:Nat) (x:Operand) (j:Nat) (k:KT):Prop:=match aev τ x with
 | .tup cs=>match cs[j]? with
  | some v=>frc v fun v=>k [] [] v u
  | none=>OpG P o τ η u k
 | _=>OpG P o τ η u k
theorem extractS_ok {x:Operand} {j:Nat} (h:extractS P ⟨d,.extract x j,ty,pos,af,g⟩ τ η u x j k):OpG P ⟨d,.extract x j,ty,pos,af,g⟩ τ η u k:=by
 unfold extractS at h
 split at h
 ·rename_i cs hx
  split at h
  ·rename_i v hv
   exact .lk (LOp.extract hx hv) (frc_ok h)
  ·exact h
 ·exact h
end
end Go.Proofs.YtjdblmpkeilbaaaGreatDoor
namespace Go.Proofs.YtjdblmpkeilbaaaGreatDoor
set_option linter.unusedVariables false
set_option linter.unusedSimpArgs false
open Go.RowKit
def cmpI (b:BinOp) (m n:Int):Option Bool:=match b with
 | .eql=>some (m==n)
 | .neq=>some (m != n)
 | .lss=>some (decide (m < n))
 | .leq=>some (decide (m≤n))
 | .gtr=>some (decide (m > n))
 | .geq=>some (decide (m≥n))
 | _=>none
def cmpT (b:BinOp) (s r:ByteArray):Option Bool:=match b with
 | .eql=>some (s.toList==r.toList)
 | .neq=>some (!(s.toList==r.toList))
 | .lss=>some (Op.bytesLess s.toList r.toList)
 | .leq=>some (Op.bytesLess s.toList r.toList||s.toList==r.toList)
 | .gtr=>some (!(Op.bytesLess s.toList r.toList||s.toList==r.toList))
 | .geq=>some (!Op.bytesLess s.toList r.toList)
 | _=>none
section
variable {P:Program} {X:Inf} {τ:Nat→AV} {η:Heap} {u:Nat} {k:KT} {d:Option Tmp} {ty:TypeId} {pos:String} {af:Array Edge} {g:Option (Nat×Bool)}
theorem LOp.cmpI {t t':TypeId} {b:BinOp} {x y:Operand} {m n:Int} {kk:IntKind} {v:Bool} (hx:aev τ x=.v (.int kk m)) (hy:aev τ y=.v (.int kk n)) (h:cmpI b m n=some v):LOp P ⟨d,.binOp b t x y t',ty,pos,af,g⟩ τ η [] [] (.v (.bool v)) :=
 .look [] fun C a hg hxs _=>⟨.bool v,by
  have e1:=hxs x (by simp [Op.operands])
  have e2:=hxs y (by simp [Op.operands])
  rw [hx] at e1
  rw [hy] at e2
  have e1':=e1.v_inv
  have e2':=e2.v_inv
  have hgd:∀ w:World,(eqGuard b t x y (.int kk m) (.int kk n)).run P w=.ok () w:=by
   intro w
   unfold eqGuard
   split <;> rfl
  have hb:∀ w:World,(Go.binOp b t (.int kk m) (.int kk n)).run P w=.ok (.bool v) w:=by
   intro w
   cases b <;> simp only [Go.Proofs.YtjdblmpkeilbaaaGreatDoor.cmpI] at h <;> first
    | (cases h; done)
    | (obtain rfl:=Option.some.inj h; simp [Go.binOp,Op.intCmp])
  simp only [execOp,e1',e2',Sem.run_bind,hgd,Result.andThen_ok,hb]
  rfl,VR.v C _⟩
theorem LOp.cmpT {t t':TypeId} {b:BinOp} {x y:Operand} {m n:ByteArray} {v:Bool} (hx:aev τ x=.v (.string m)) (hy:aev τ y=.v (.string n)) (h:cmpT b m n=some v):LOp P ⟨d,.binOp b t x y t',ty,pos,af,g⟩ τ η [] [] (.v (.bool v)) :=
 .look [] fun C a hg hxs _=>⟨.bool v,by
  have e1:=hxs x (by simp [Op.operands])
  have e2:=hxs y (by simp [Op.operands])
  rw [hx] at e1
  rw [hy] at e2
  have e1':=e1.v_inv
  have e2':=e2.v_inv
  have hgd:∀ w:World,(eqGuard b t x y (.string m) (.string n)).run P w=.ok () w:=by
   intro w
   unfold eqGuard
   split <;> rfl
  have hb:∀ w:World,(Go.binOp b t (.string m) (.string n)).run P w=.ok (.bool v) w:=by
   intro w
   cases b <;> simp only [Go.Proofs.YtjdblmpkeilbaaaGreatDoor.cmpT] at h <;> first
    | (cases h; done)
    | (obtain rfl:=Option.some.inj h; rfl)
  simp only [execOp,e1',e2',Sem.run_bind,hgd,Result.andThen_ok,hb]
  rfl,VR.v C _⟩
def binIS (P:Program) (o:Oper) (τ:Nat→AV) (η:Heap) (u:Nat) (b:BinOp) (m n:Int) (k:KT):Prop:=match cmpI b m n with
 | some v=>k [] [] (.v (.bool v)) u
 | none=>match b with
  | .add=>(-9223372036854775808≤m+n∧m+n≤9223372036854775807)∧k [] [] (.v (.int .i64 (m+n))) u
  | .sub=>(-9223372036854775808≤m - n∧m - n≤9223372036854775807)∧k [] [] (.v (.int .i64 (m - n))) u
  | _=>OpG P o τ η u k
def binTS (P:Program) (o:Oper) (τ:Nat→AV) (η:Heap) (u:Nat) (b:BinOp) (m n:ByteArray) (k:KT):Prop:=match cmpT b m n with
 | some v=>k [] [] (.v (.bool v)) u
 | none=>match b with
  | .add=>m.size+n.size≤9223372036854775807∧k [] [] (.v (.string (m++n))) u
  | _=>OpG P o τ η u k
def binBS (P:Program) (X:Inf) (o:Oper) (τ:Nat→AV) (η:Heap) (u:Nat) (b:BinOp) (t:Nat) (p q:Bool) (k:KT):Prop:=match look1 X.I t with
 | none=>OpG P o τ η u k
 | some i=>match i.und with
  | .bool=>match b with
   | .eql=>k [] [] (.v (.bool (p==q))) u
   | .neq=>k [] [] (.v (.bool (!(p==q)))) u
   | _=>OpG P o τ η u k
  | _=>OpG P o τ η u k
def binS (P:Program) (X:Inf) (o:Oper) (τ:Nat→AV) (η:Heap) (u:Nat) (b:BinOp) (t:Nat) (x y:Operand) (k:KT):Prop:=match aev τ x with
 | .v (.int .i64 m)=>match aev τ y with
  | .v (.int .i64 n)=>binIS P o τ η u b m n k
  | _=>OpG P o τ η u k
 | .v (.int .u8 m)=>match aev τ y with
  | .v (.int .u8 n)=>match cmpI b m n with
   | some v=>k [] [] (.v (.bool v)) u
   | none=>OpG P o τ η u k
  | _=>OpG P o τ η u k
 | .v (.string m)=>match aev τ y with
  | .v (.string n)=>binTS P o τ η u b m n k
  | _=>OpG P o τ η u k
 | .v (.bool p)=>match aev τ y with
  | .v (.bool q)=>binBS P X o τ η u b t p q k
  | _=>OpG P o τ η u k
 | _=>OpG P o τ η u k
theorem binS_ok (hX:X.Ok P) {t t':Nat} {b:BinOp} {x y:Operand} (h:binS P X ⟨d,.binOp b t x y t',ty,pos,af,g⟩ τ η u b t x y k):OpG P ⟨d,.binOp b t x y t',ty,pos,af,g⟩ τ η u k:=by
 unfold binS at h
 split at h
 ·rename_i m hx
  split at h
  ·rename_i n hy
   unfold binIS at h
   split at h
   ·rename_i v hv
    exact .lk (LOp.cmpI hx hy hv) h
   ·split at h
    ·exact .lk (lJ hx hy h.1.1 h.1.2) h.2
    ·exact .lk (LOp.subI hx hy h.1.1 h.1.2) h.2
    ·exact h
  ·exact h
 ·rename_i m hx
  split at h
  ·rename_i n hy
   split at h
   ·rename_i v hv
    exact .lk (LOp.cmpI hx hy hv) h
   ·exact h
  ·exact h
 ·rename_i m hx
  split at h
  ·rename_i n hy
   unfold binTS at h
   split at h
   ·rename_i v hv
    exact .lk (LOp.cmpT hx hy hv) h
   ·split at h
    ·exact .lk (LOp.addStr hx hy h.1) h.2
    ·exact h
  ·exact h
 ·rename_i p hx
  split at h
  ·rename_i q hy
   unfold binBS at h
   split at h
   ·exact h
   ·rename_i i hi
    obtain ⟨hI,rfl⟩:=look1_ok hX hi
    split at h
    ·rename_i hu
     split at h
     ·exact .lk (LOp.eqB hx hy (undK_bool (hI.und.trans hu))) h
     ·exact .lk (LOp.neB hx hy (undK_bool (hI.und.trans hu))) h
     ·exact h
    ·exact h
  ·exact h
 ·exact h
def notS (P:Program) (o:Oper) (τ:Nat→AV) (η:Heap) (u:Nat) (x:Operand) (k:KT):Prop:=match aev τ x with
 | .v (.bool b)=>k [] [] (.v (.bool (!b))) u
 | _=>OpG P o τ η u k
theorem notS_ok {t:Nat} {x:Operand} (h:notS P ⟨d,.unOp .not t x,ty,pos,af,g⟩ τ η u x k):OpG P ⟨d,.unOp .not t x,ty,pos,af,g⟩ τ η u k:=by
 unfold notS at h
 split at h
 ·rename_i b hx
  exact .lk (fastE_ok (by unfold fastE; simp only [hx])) h
 ·exact h
def lenG (P:Program) (X:Inf) (o:Oper) (τ:Nat→AV) (η:Heap) (u:Nat) (t:Nat) (x:Operand) (k:KT):Prop:=match look1 X.I t with
 | none=>OpG P o τ η u k
 | some i=>match i.und with
  | .sl e=>match aev τ x with
   | .tree n xs=>LenG xs fun v=>k [] [] v u
   | .sl id ver off len=>match liveB η id ver with
    | some b=>k [id] [] (.v (.int .i64 ((len:Nat):Int))) u
    | none=>OpG P o τ η u k
   | .v (.slice none 0 0)=>k [] [] (.v (.int .i64 0)) u
   | _=>OpG P o τ η u k
  | .str=>match aev τ x with
   | .v (.string s)=>k [] [] (.v (.int .i64 ((s.size:Nat):Int))) u
   | _=>OpG P o τ η u k
  | _=>OpG P o τ η u k
theorem lenG_ok (hX:X.Ok P) {t:Nat} {x:Operand} {ats:Array TypeId} (ha:ats[0]? = some t) (h:lenG P X ⟨d,.call { callee:=.builtin .len,args:=#[x],argTypes:=ats },ty,pos,af,g⟩ τ η u t x k):OpG P ⟨d,.call { callee:=.builtin .len,args:=#[x],argTypes:=ats },ty,pos,af,g⟩ τ η u k:=by
 unfold lenG at h
 split at h
 ·exact h
 ·rename_i i hi
  obtain ⟨hI,rfl⟩:=look1_ok hX hi
  split at h
  ·rename_i e he
   have hu:=undK_sl (hI.und.trans he)
   split at h
   ·rename_i n xs hx
    obtain ⟨h⟩:=h
    exact .lk (lT (n:=n) (f:=fun r:List AV=>r) (l:=xs) ha hu (by rw [hx]; simp)) h
   ·rename_i id ver off len hx
    split at h
    ·rename_i b hb
     obtain ⟨h1,h2,h3⟩:=liveB_ok hb
     exact .lk (LOp.lenS ha hu hx h1 h2) h
    ·exact h
   ·rename_i hx
    exact .lk (LOp.lenNil ha hu hx) h
   ·exact h
  ·rename_i he
   have hu:=undK_str (hI.und.trans he)
   split at h
   ·rename_i s hx
    exact .lk (LOp.lenStr ha hu hx) h
   ·exact h
  ·exact h
def memB (n:Nat):List Nat→Bool
 | []=>false
 | a :: r=>bif Nat.beq a n then true else memB n r
theorem memB_ok {n:Nat}:∀ {l:List Nat},memB n l=true→n∈l
 | [],h=>by cases h
 | a :: r,h=>by
  unfold memB at h
  cases hb:Nat.beq a n with
  | true=>rw [Nat.eq_of_beq_eq_true hb]; simp
  | false=>rw [hb] at h; exact List.mem_cons_of_mem _ (memB_ok h)
/-- A call of plain arguments. -/
inductive ArgG (P:Program) (f:FuncId) (args:List AV) (k:AV→Prop):Prop
 | mk {R:AV→Prop} (h:PRet P f args R) (hp:pureL args=true) (hk:∀ ret,R ret→k ret):ArgG P f args k
def callS (P:Program) (X:Inf) (o:Oper) (τ:Nat→AV) (η:Heap) (u:Nat) (f:FuncId) (xs:List Operand) (k:KT):Prop :=
 bif memB f X.B then frcL (xs.map (aev τ)) fun ys=>ArgG P f ys fun v=>frc v fun v=>k [] [] v u else OpG P o τ η u k
theorem callS_ok (hX:X.Ok P) {f:FuncId} {xs:Array Operand} {ats:Array TypeId} (h:callS P X ⟨d,.call { callee:=.value (.func f),args:=xs,argTypes:=ats },ty,pos,af,g⟩ τ η u f xs.toList k):OpG P ⟨d,.call { callee:=.value (.func f),args:=xs,argTypes:=ats },ty,pos,af,g⟩ τ η u k:=by
 unfold callS at h
 rcases cond_and h with ⟨hb,h⟩ | ⟨hb,h⟩
 ·obtain ⟨⟨ret,hR,hc⟩,hp,hk⟩:=frcL_ok h
  exact .lk (LOp.call (hX.B _ (memB_ok hb)) hp hc) (frc_ok (k:=fun v=>k [] [] v u) (hk ret hR))
 ·exact h
/-- Operations that the prover takes himself are named by what they fill; stores by the slot of the pointer (from 100000 on). -/
def keyO (o:Oper):Nat:=match o.dst with
 | some d=>d
 | none=>match o.op with
  | .store _ (.tmp q) _=>q+100000
  | _=>99999
def stepS (P:Program) (X:Inf) (cu:List Nat) (o:Oper) (τ:Nat→AV) (η:Heap) (u:Nat) (k:KT):Prop :=
 bif memB (keyO o) cu then OpG P o τ η u k else match o.op with
 | .move x=>frc (aev τ x) fun v=>k [] [] v u
 | .assign x=>frc (aev τ x) fun v=>k [] [] v u
 | .pick c x y=>pickS P o τ η u c x y k
 | .load t x=>loadS P X o τ η u t x k
 | .store t x y=>storeS P X o τ η u t x y k
 | .fieldAddr t x j=>fieldAS P X o τ η u t x j k
 | .indexAddr t x y=>indexAS P X o τ η u t x y k
 | .index t x y=>indexStrS P X o τ η u t x y k
 | .box t x=>newS P o τ η u (cellsO (aev τ x)) k
 | .alloc t=>allocS P X o τ η u t k
 | .build t parts=>buildS P X o τ η u t parts k
 | .buildSlice t len parts=>buildSlS P X o τ η u t len parts k
 | .nilCheck x=>nilS P o τ η u x k
 | .extract x j=>extractS P o τ η u x j k
 | .binOp b t x y _=>binS P X o τ η u b t x y k
 | .unOp .not _ x=>notS P o τ η u x k
 | .call ⟨.value (.func f),xs,_⟩=>callS P X o τ η u f xs.toList k
 | .call ⟨.builtin .len,⟨[x]⟩,ats⟩=>match ats[0]? with
  | some t=>lenG P X o τ η u t x k
  | none=>OpG P o τ η u k
 | _=>OpG P o τ η u k
theorem stepS_ok (hX:X.Ok P) {cu:List Nat} {o:Oper} (h:stepS P X cu o τ η u k):OpG P o τ η u k:=by
 obtain ⟨d,op,ty,pos,af,g⟩:=o
 unfold stepS at h
 rcases cond_and h with ⟨_,h⟩ | ⟨_,h⟩
 ·exact h
 simp only at h
 split at h
 ·exact .lk (LOp.move _) (frc_ok (k:=fun v=>k [] [] v u) h)
 ·exact .lk (LOp.assign _) (frc_ok (k:=fun v=>k [] [] v u) h)
 ·exact pickS_ok h
 ·exact loadS_ok hX h
 ·exact storeS_ok hX h
 ·exact fieldAS_ok hX h
 ·exact indexAS_ok hX h
 ·exact indexStrS_ok hX h
 ·exact boxS_ok h
 ·exact allocS_ok hX h
 ·exact buildS_ok hX h
 ·exact buildSlS_ok hX h
 ·exact nilS_ok h
 ·exact extractS_ok h
 ·exact binS_ok hX h
 ·exact notS_ok h
 ·exact callS_ok hX h
 ·split at h
  ·rename_i t ht
   exact lenG_ok hX ht h
  ·exact h
 ·exact h
end
inductive GS where
 | no
 | on (q:Nat) (b:Bool)
 | bad
def gslot (ops:Array Oper) (o:Oper):GS:=match o.guard with
 | none=>.no
 | some (j,b)=>match (ops[j]?).bind (·.dst) with
  | some d=>.on d b
  | none=>.bad
abbrev KR:=List Rec→(Nat→AV)→Heap→Nat→Prop
def eqB':Bool→Bool→Bool
 | true,b=>b
 | false,b=>!b
def doneS (d:Option Tmp) (τ:Nat→AV) (η:Heap) (δ:List (Nat×Option Blk)) (v:AV) (u:Nat) (K:(Nat→AV)→Heap→Nat→Prop):Prop:=match d with
 | some d=>match δ with
  | []=>K (upd τ d v) η u
  | [(i,b)]=>K (upd τ d v) (η.set i b) u
  | δ=>K (upd τ d v) (η.put δ) u
 | none=>match δ with
  | []=>K τ η u
  | [(i,b)]=>K τ (η.set i b) u
  | δ=>K τ (η.put δ) u
theorem doneS_ok {d:Option Tmp} {τ:Nat→AV} {η:Heap} {δ:List (Nat×Option Blk)} {v:AV} {u:Nat} {K:(Nat→AV)→Heap→Nat→Prop} (h:doneS d τ η δ v u K):K (updO τ d v) (η.put δ) u:=by
 unfold doneS at h
 repeat' split at h
 all_goals exact h
/-- Two ways. -/
inductive SpI (t:Bool) (A B:Prop):Prop
 | mk (ht:t=true→A) (hf:t=false→B):SpI t A B
theorem SpI.at {t:Bool} {A B:Prop} (h:SpI t A B):(t=true∧A)∨(t=false∧B):=by
 obtain ⟨h1,h2⟩:=h
 cases t with
 | true=>exact .inl ⟨rfl,h1 rfl⟩
 | false=>exact .inr ⟨rfl,h2 rfl⟩
theorem cB {t:Bool} {A B:Prop} (ht:t=true→A) (hf:t=false→B):SpI t A B:=⟨ht,hf⟩
theorem cT {A B:Prop} (h:A):SpI true A B:=⟨fun _=>h,fun e=>Bool.noConfusion e⟩
theorem cF {A B:Prop} (h:B):SpI false A B:=⟨fun e=>Bool.noConfusion e,fun _=>h⟩
abbrev KV:=List Nat→KR→(Nat→AV)→Heap→Nat→Prop
def goV (P:Program) (X:Inf) (cu:List Nat) (o:Oper) (ih:KV) (kn:List Nat) (K:KR) (τ:Nat→AV) (η:Heap) (u:Nat):Prop :=
 stepS P X cu o τ η u fun fp δ v u'=>doneS o.dst τ η δ v u' (ih kn fun rs=>K (⟨fp,δ,v,u'⟩ :: rs))
def skV (o:Oper) (ih:KV) (kn:List Nat) (K:KR) (τ:Nat→AV) (η:Heap) (u:Nat):Prop :=
 doneS o.dst τ η [] (.v undef) u (ih kn fun rs=>K (⟨[],[],.v undef,u⟩ :: rs))
/-- One operation; kn: the slots that were parted. -/
def opV (P:Program) (X:Inf) (cu:List Nat) (ops:Array Oper) (o:Oper) (ih:KV):KV:=fun kn K τ η u=>match gslot ops o with
 | .no=>goV P X cu o ih kn K τ η u
 | .on q b=>match τ q with
  | .v (.bool c)=>cond (memB q kn) (cond (eqB' b c) (goV P X cu o ih kn K τ η u) (skV o ih kn K τ η u))
    (SpI c
     (cond b (goV P X cu o ih (q :: kn) K (upd τ q (.v (.bool true))) η u) (skV o ih (q :: kn) K (upd τ q (.v (.bool true))) η u))
     (cond b (skV o ih (q :: kn) K (upd τ q (.v (.bool false))) η u) (goV P X cu o ih (q :: kn) K (upd τ q (.v (.bool false))) η u)))
  | .v (.tuple _)=>skV o ih kn K τ η u
  | _=>False
 | .bad=>False
noncomputable def vcOps (P:Program) (X:Inf) (cu:List Nat) (ops:Array Oper) (l:List Oper):KV :=
 List.rec (motive:=fun _=>KV) (fun kn K τ η u=>K [] τ η u) (fun o _ ih=>opV P X cu ops o ih) l
section
variable {P:Program} {X:Inf} {cu:List Nat} {N:Nat} {ops:Array Oper}
theorem vc_go {o:Oper} {l:List Oper} {K:KR} {τ:Nat→AV} {η:Heap} {u:Nat} (hX:X.Ok P) (hd:dstOk N ops o=true) (hw:want ops τ o=some true)
  {kn:List Nat} (ih:∀ (kn:List Nat) (K:KR) τ η u,vcOps P X cu ops l kn K τ η u→SeqC P N ops l (fun rs s=>K rs s.τ s.η s.u) ⟨τ,η,u⟩)
  (h:goV P X cu o (vcOps P X cu ops l) kn K τ η u):SeqC P N ops (o :: l) (fun rs s=>K rs s.τ s.η s.u) ⟨τ,η,u⟩:=by
 obtain ⟨fp,δ,v,u',hL,hu,hn,h⟩:=stepS_ok hX h
 obtain ⟨rs,s',h1,h2⟩:=ih _ _ _ _ _ (doneS_ok h)
 exact ⟨_,s',Seq.op (s:=⟨τ,η,u⟩) u' hL hw hd hu hn h1,h2⟩
theorem vc_skip {o:Oper} {l:List Oper} {K:KR} {τ:Nat→AV} {η:Heap} {u:Nat} (hd:dstOk N ops o=true) (hw:want ops τ o=some false)
  {kn:List Nat} (ih:∀ (kn:List Nat) (K:KR) τ η u,vcOps P X cu ops l kn K τ η u→SeqC P N ops l (fun rs s=>K rs s.τ s.η s.u) ⟨τ,η,u⟩)
  (h:skV o (vcOps P X cu ops l) kn K τ η u):SeqC P N ops (o :: l) (fun rs s=>K rs s.τ s.η s.u) ⟨τ,η,u⟩:=by
 obtain ⟨rs,s',h1,h2⟩:=ih _ _ _ _ _ (doneS_ok h)
 exact ⟨_,s',Seq.skip (s:=⟨τ,η,u⟩) hw hd h1,h2⟩
theorem vcOps_ok (hX:X.Ok P):∀ (l:List Oper) (_:l.all (dstOk N ops)=true) (kn:List Nat) (K:KR) (τ:Nat→AV) (η:Heap) (u:Nat),vcOps P X cu ops l kn K τ η u→SeqC P N ops l (fun rs s=>K rs s.τ s.η s.u) ⟨τ,η,u⟩
 | [],_,kn,K,τ,η,u,h=>⟨[],_,.nil,h⟩
 | o :: l,hall,kn,K,τ,η,u,h=>by
  rw [List.all_cons,Bool.and_eq_true] at hall
  have ih:=vcOps_ok hX l hall.2
  have h:opV P X cu ops o (vcOps P X cu ops l) kn K τ η u:=h
  unfold opV at h
  split at h
  ·rename_i hg
   refine vc_go hX hall.1 ?_ ih h
   unfold gslot at hg
   unfold want
   split at hg
   ·rename_i e; rw [e]
   ·split at hg <;> cases hg
  ·rename_i q b hg
   have hwant:∀ (τ':Nat→AV) c,τ' q=.v (.bool c)→want ops τ' o=some (c==b):=by
    intro τ' c hc
    unfold gslot at hg
    unfold want
    split at hg
    ·cases hg
    ·rename_i j b' e
     split at hg
     ·rename_i d' e2
      cases hg
      rw [e]
      simp only [e2,hc]
     ·cases hg
   split at h
   ·rename_i c hc
    have hup:=upd_self hc
    have hw:=hwant τ c hc
    rcases cond_and h with ⟨_,h⟩ | ⟨_,h⟩
    ·rcases cond_and h with ⟨e,h'⟩ | ⟨e,h'⟩
     ·exact vc_go hX hall.1 (by rw [hw]; cases b <;> cases c <;> first | rfl | cases e) ih h'
     ·exact vc_skip hall.1 (by rw [hw]; cases b <;> cases c <;> first | rfl | cases e) ih h'
    ·rcases h.at with ⟨rfl,h'⟩ | ⟨rfl,h'⟩
     ·rw [hup] at h'
      rcases cond_and h' with ⟨e,h''⟩ | ⟨e,h''⟩
      ·exact vc_go hX hall.1 (by rw [hw,e]; rfl) ih h''
      ·exact vc_skip hall.1 (by rw [hw,e]; rfl) ih h''
     ·rw [hup] at h'
      rcases cond_and h' with ⟨e,h''⟩ | ⟨e,h''⟩
      ·exact vc_skip hall.1 (by rw [hw,e]; rfl) ih h''
      ·exact vc_go hX hall.1 (by rw [hw,e]; rfl) ih h''
   ·rename_i c hc
    refine vc_skip hall.1 ?_ ih h
    unfold gslot at hg
    unfold want
    split at hg
    ·cases hg
    ·rename_i j b' e
     split at hg
     ·rename_i d' e2
      cases hg
      rw [e]
      simp only [e2,hc]
     ·cases hg
   ·exact h.elim
  ·exact h.elim
def codeOk (N:Nat):Code→Bool
 | .region _ ops _=>ops.toList.all (dstOk N ops)
 | .seq a b=>codeOk N a&&codeOk N b
 | .cond _ a b=>codeOk N a&&codeOk N b
 | .block _ c=>codeOk N c
 | .loop c=>codeOk N c
 | _=>true
inductive LpG (P:Program) (X:Inf) (N:Nat) (cu st:List Nat) (c:Code) (Q:Exit→St→Prop) (s:St):Prop
 | mk (h:X.Ok P→codeOk N c=true→EWP P N (.loop c) Q s):LpG P X N cu st c Q s
inductive RegG (P:Program) (X:Inf) (N:Nat) (cu st:List Nat) (id:Nat) (ops:Array Oper) (dr:Bool) (Q:Exit→St→Prop) (s:St):Prop
 | mk (h:X.Ok P→ops.toList.all (dstOk N ops)=true→EWP P N (.region id ops dr) Q s):RegG P X N cu st id ops dr Q s
def vcReg (P:Program) (X:Inf) (cu:List Nat) (ops:Array Oper) (dr:Bool) (Q:Exit→St→Prop) (s:St):Prop:=match s with
 | ⟨τ,η,u⟩=>match ops with
  | ⟨l⟩=>match dr with
   | false=>vcOps P X cu l.toArray l [] (fun _ τ η u=>Q .normal ⟨τ,η,u⟩) τ η u
   | true=>vcOps P X cu l.toArray l [] (fun rs τ η u=>checkR l.toArray rs=true∧Q .normal ⟨τ,η,u⟩) τ η u
theorem vcReg_ok {id:Nat} {dr:Bool} {Q:Exit→St→Prop} {s:St} (hX:X.Ok P) (hd:ops.toList.all (dstOk N ops)=true) (h:vcReg P X cu ops dr Q s):EWP P N (.region id ops dr) Q s:=by
 obtain ⟨τ,η,u⟩:=s
 obtain ⟨l⟩:=ops
 unfold vcReg at h
 cases dr with
 | false=>exact EWP.region (vcOps_ok hX l hd _ _ _ _ _ h)
 | true=>exact EWP.regD hX.m (vcOps_ok hX l hd _ _ _ _ _ h)
abbrev KC:=(Exit→St→Prop)→St→Prop
def condV (c:Operand) (a b:KC):KC:=fun Q s=>match aev s.τ c with
 | .v (.bool t)=>SpI t (a Q s) (b Q s)
 | _=>False
def regV (P:Program) (X:Inf) (N:Nat) (cu st:List Nat) (id:Nat) (ops:Array Oper) (dr:Bool):KC:=fun Q s=>bif memB id st then RegG P X N cu st id ops dr Q s else vcReg P X cu ops dr Q s
/-- What is to be shown of code. -/
noncomputable def vc (P:Program) (X:Inf) (N:Nat) (cu st:List Nat) (c:Code):KC :=
 Code.rec (motive:=fun _=>KC) (fun Q s=>Q .normal s) (fun id ops dr=>regV P X N cu st id ops dr) (fun _ _ a b Q s=>a (andThen (b Q) Q) s) (fun c _ _ a b=>condV c a b) (fun id _ c Q s=>c (inBlk id Q) s)
  (fun c _ Q s=>LpG P X N cu st c Q s) (fun _ _ _ _ _ _ _ _=>False) (fun id Q s=>Q (.exit id) s) (fun _ _ _ _=>False) (fun _ _ _=>False) (fun _ _ _=>False) (fun Q s=>Q .ret s) (fun _ _ _=>False) c
variable {st:List Nat}
theorem vc_ok (hX:X.Ok P):∀ (c:Code) (Q:Exit→St→Prop) (s:St),codeOk N c=true→vc P X N cu st c Q s→EWP P N c Q s:=by
 intro c
 induction c with
 | skip=>exact fun Q s _ h=>EWP.skip h
 | exit id=>exact fun Q s _ h=>EWP.exit h
 | ret=>exact fun Q s _ h=>EWP.ret h
 | seq a b iha ihb=>
  intro Q s hd h
  rw [codeOk,Bool.and_eq_true] at hd
  refine EWP.seq (EWP.mono (iha _ _ hd.1 h) fun e s' h=>?_)
  cases e with
  | normal=>exact ihb _ _ hd.2 h
  | _=>exact h
 | block id c ih=>exact fun Q s hd h=>EWP.block (ih _ _ hd h)
 | cond c a b iha ihb=>
  intro Q s hd h
  rw [codeOk,Bool.and_eq_true] at hd
  have h:condV c (vc P X N cu st a) (vc P X N cu st b) Q s:=h
  unfold condV at h
  split at h
  ·rename_i t ht
   refine EWP.cond ht (fun e=>?_) (fun e=>?_)
   ·exact iha _ _ hd.1 (h.1 e)
   ·exact ihb _ _ hd.2 (h.2 e)
  ·exact h.elim
 | loop c ih=>exact fun Q s hd h=>h.1 hX hd
 | region id ops dr=>
  intro Q s hd h
  have h:regV P X N cu st id ops dr Q s:=h
  unfold regV at h
  rcases cond_and h with ⟨_,h⟩ | ⟨_,h⟩
  ·exact h.1 hX hd
  ·exact vcReg_ok hX hd h
 | _=>intro Q s hd h; exact h.elim
theorem LpG.via {c:Code} {Q:Exit→St→Prop} {s s2:St} (hv:∀ Q,AWP P N (.loop c) Q s2→AWP P N (.loop c) Q s) (h:LpG P X N cu st c Q s2):LpG P X N cu st c Q s:=⟨fun hX hd=>EWP.via hv (h.1 hX hd)⟩
theorem LpG.exit {c:Code} {Q:Exit→St→Prop} {s:St} (h:vc P X N cu st c (andThen (fun _=>False) Q) s):LpG P X N cu st c Q s:=⟨fun hX hd=>EWP.loopExit (vc_ok hX c _ _ hd h)⟩
inductive ULp (P:Program) (X:Inf) (N:Nat) (cu st:List Nat) (c:Code) (Q:Exit→St→Prop) (s:St):Prop
 | mk (h:X.Ok P→codeOk N c=true→ELoop P N c Q s):ULp P X N cu st c Q s
theorem ULp.step {c:Code} {Q:Exit→St→Prop} {s:St} (h:vc P X N cu st c (andThen (ULp P X N cu st c Q) Q) s):ULp P X N cu st c Q s :=
 ⟨fun hX hd=>ELoop.unroll (EWP.mono (vc_ok hX c _ _ hd h) fun e s' h=>by
  cases e with
  | normal=>exact h.1 hX hd
  | _=>exact h)⟩
theorem LpG.unr {c:Code} {Q:Exit→St→Prop} {s:St} (h:ULp P X N cu st c Q s):LpG P X N cu st c Q s:=⟨fun hX hd=>EWP.loopU (h.1 hX hd)⟩
theorem RegG.via {id:Nat} {dr:Bool} {Q:Exit→St→Prop} {s s2:St} (hv:∀ Q,AWP P N (.region id ops dr) Q s2→AWP P N (.region id ops dr) Q s) (h:RegG P X N cu st id ops dr Q s2):RegG P X N cu st id ops dr Q s:=⟨fun hX hd=>EWP.via hv (h.1 hX hd)⟩
theorem RegG.go {id:Nat} {dr:Bool} {Q:Exit→St→Prop} {s:St} (h:vcReg P X cu ops dr Q s):RegG P X N cu st id ops dr Q s:=⟨fun hX hd=>vcReg_ok hX hd h⟩
theorem PRet.of_vc {f:FuncId} {fn:Func} {c:Code} {args:List AV} {R:AV→Prop} (hX:X.Ok P) (cu st:List Nat) (hf:P.funcs[f]? = some fn) (hb:fn.body=some c) (hN:fn.ntmps=N) (hl:Nat.ble args.length N=true) (hc:codeOk N c=true)
  (h:vc P X N cu st c (fun e s'=>(e=.normal∨e=.ret)∧∃ ret,Outs P N fn s' ret∧R ret) ⟨frameOf args,noHeap,0⟩):PRet P f args R :=
 PRet.of_body hf hb hN (Nat.le_of_ble_eq_true hl) (vc_ok hX c _ _ hc h)
theorem PRet.eq {f:FuncId} {args:List AV} {ret:AV} (h:PRet P f args (fun r=>r=ret)):PCall P f args ret:=by
 obtain ⟨_,rfl,h⟩:=h; exact h
theorem PRet.of_call {f:FuncId} {args:List AV} {ret:AV} (h:PCall P f args ret):PRet P f args (fun r=>r=ret):=⟨_,rfl,h⟩
end
end Go.Proofs.YtjdblmpkeilbaaaGreatDoor
namespace Go.Proofs.YtjdblmpkeilbaaaGreatDoor
set_option linter.unusedVariables false
set_option linter.unusedSimpArgs false
open Go.RowKit
inductive Wk:AV→AV→Prop
 | rfl {a:AV}:Wk a a
 | unk {a:AV}:Wk a .unk
 | agg {cs ds:List AV} (hl:cs.length=ds.length) (h:∀ i (h:i < cs.length) (h':i < ds.length),Wk cs[i] ds[i]):Wk (.agg cs) (.agg ds)
inductive WkL:List AV→List AV→Prop
 | nil:WkL [] []
 | cons {a b:AV} {r s:List AV}:Wk a b→WkL r s→WkL (a :: r) (b :: s)
theorem WkL.at {cs ds:List AV} (h:WkL cs ds):cs.length=ds.length∧∀ i (h:i < cs.length) (h':i < ds.length),Wk cs[i] ds[i]:=by
 induction h with
 | nil=>exact ⟨rfl,fun i h=>by simp at h⟩
 | cons h1 h2 ih=>exact ⟨by simp [ih.1],fun i h h'=>by cases i with
  | zero=>exact h1
  | succ i=>exact ih.2 i (by simpa using h) (by simpa using h')⟩
theorem Wk.aggL {cs ds:List AV} (h:WkL cs ds):Wk (.agg cs) (.agg ds):=.agg h.at.1 h.at.2
theorem TR.wk {T:Nat→Prop} {w:World} {a b:AV} (h:Wk a b):∀ {x:Value},TR T w a x→TR T w b x:=by
 induction h with
 | rfl=>exact fun h=>h
 | unk=>exact fun _=>.unk _
 | agg hl h ih=>intro x hx; cases hx with
  | agg h1 h2=>exact .agg (by omega) (fun i g g'=>ih i (by omega) g (h2 i (by omega) g'))
theorem PCall.wk {P:Program} {f:FuncId} {args args':List AV} {ret:AV} (hw:WkL args args') (h:PCall P f args' ret):PCall P f args ret:=fun T w vals ht hT=>h T w vals ⟨by have:=ht.1; have:=hw.at.1; omega,fun i g g'=>TR.wk (hw.at.2 i (by have:=hw.at.1; omega) g) (ht.2 i (by have:=hw.at.1; omega) g')⟩ hT
theorem PRet.wk {P:Program} {f:FuncId} {args args':List AV} {R:AV→Prop} (hw:WkL args args') (h:PRet P f args' R):PRet P f args R:=by
 obtain ⟨ret,h1,h2⟩:=h
 exact ⟨ret,h1,h2.wk hw⟩
theorem FzP.unk {fp:List Nat} {η:Heap} {a:AV}:FzP fp η a .unk:=fun _ _ _ x _=>.unk x
inductive FzPL (fp:List Nat) (η:Heap):List AV→List AV→Prop
 | nil:FzPL fp η [] []
 | cons {a b:AV} {r s:List AV}:FzP fp η a b→FzPL fp η r s→FzPL fp η (a :: r) (b :: s)
theorem FzPL.at {fp:List Nat} {η:Heap} {cs ds:List AV} (h:FzPL fp η cs ds):cs.length=ds.length∧∀ i (h:i < cs.length) (h':i < ds.length),FzP fp η cs[i] ds[i]:=by
 induction h with
 | nil=>exact ⟨rfl,fun i h=>by simp at h⟩
 | cons h1 h2 ih=>exact ⟨by simp [ih.1],fun i h h'=>by cases i with
  | zero=>exact h1
  | succ i=>exact ih.2 i (by simpa using h) (by simpa using h')⟩
theorem FzP.aggL {fp:List Nat} {η:Heap} {cs ds:List AV} (h:FzPL fp η cs ds):FzP fp η (.agg cs) (.agg ds):=FzP.agg h.at.1 h.at.2
section
variable {P:Program} {X:Inf} {N:Nat}
/-- A call whose arguments are said less of; nothing is given up. -/
theorem LOp.callU {τ:Nat→AV} {η:Heap} {d:Option Tmp} {ty:TypeId} {pos:String} {af:Array Edge} {g:Option (Nat×Bool)} {f:FuncId} {xs:Array Operand} {ats:Array TypeId} {ret:AV} {args:List AV} (hb:bodied P f=true) (hf:FzPL [] η (xs.toList.map (aev τ)) args) (hc:PCall P f args ret) :
  LOp P ⟨d,.call { callee:=.value (.func f),args:=xs,argTypes:=ats },ty,pos,af,g⟩ τ η [] [] ret :=
 LOp.callF [] hb (by have:=hf.at.1; simpa using this) (fun i h h'=>by
  have:=hf.at.2 i (by simpa using h) h'
  simpa using this) (fun id hid=>absurd hid (by simp)) hc
theorem HRet.of_vc {f:FuncId} {fn:Func} {c:Code} {args:List AV} {hb:List (Nat×Blk)} {hb':List (Nat×Option Blk)} {R:AV→Prop} (hX:X.Ok P) (cu st:List Nat) (hf:P.funcs[f]? = some fn) (hbo:fn.body=some c) (hN:fn.ntmps=N) (hl:Nat.ble args.length N=true) (hc:codeOk N c=true)
  (h:vc P X N cu st c (fun e s'=>(e=.normal∨e=.ret)∧∃ ret,OutsH P N fn s' hb' ret∧R ret) ⟨frameOf args,hLz hb,0⟩):HRet P f args hb hb' R :=
 HRet.of_body hf hbo hN (Nat.le_of_ble_eq_true hl) (vc_ok hX c _ _ hc h)
end
end Go.Proofs.YtjdblmpkeilbaaaGreatDoor
namespace Go.Proofs.YtjdblmpkeilbaaaGreatDoor
set_option linter.unusedVariables false
set_option linter.unusedSimpArgs false
open Go.RowKit
theorem takeN_self:∀ l:List AV,takeN l.length l=some l
 | []=>rfl
 | a :: l=>by simp only [List.length_cons,takeN,takeN_self l]
theorem Src.rows {α:Type} {f:α→List AV} {q:Nat} (hf:RowF f q) {η:Heap} {id v:Nat} {l:List α} (hb:η id=some ⟨v,rF f l,q,Nat.beq l.length 0⟩):Src η [id] (.sl id v 0 l.length) l.length (rF f l):=by
 cases l with
 | nil=>
  intro C hg hη x hx
  obtain ⟨e,_,_⟩:=hx.slnil_inv ((hη id (by simp)).trans hb) rfl rfl
  exact .inl ⟨rfl,rfl,none,0,e⟩
 | cons a r=>exact Src.sl hb rfl rfl rfl (by
   have:=takeN_self (rF f (a :: r))
   simpa [takeFrom] using this)
theorem FzPL.pure {fp:List Nat} {η:Heap}:∀ {ls:List AV},pureL ls=true→FzPL fp η ls ls
 | [],_=>.nil
 | a :: r,h=>by
  rw [pureL,Bool.and_eq_true] at h
  exact .cons (FzP.pure h.1) (FzPL.pure h.2)
section
variable {P:Program} {τ:Nat→AV} {η:Heap} {d:Option Tmp} {ty:TypeId} {pos:String} {af:Array Edge} {g:Option (Nat×Bool)} {α:Type} {f:α→List AV} {q:Nat}
/-- The call of a closure that holds and is handed nothing of the call's own. -/
theorem LOp.callVP {g0:Operand} {f:FuncId} {caps:List AV} {xs:Array Operand} {ats:Array TypeId} {ys:List AV} {ret:AV} (hb:bodied P f=true) (hg0:aev τ g0=.clo f caps) (hys:xs.toList.map (aev τ)++caps=ys) (hp:pureL ys=true) (hc:PCall P f ys ret) :
  LOp P ⟨d,.call { callee:=.value g0,args:=xs,argTypes:=ats },ty,pos,af,g⟩ τ η [] [] ret:=by
 have hf:FzPL [] η ys ys:=FzPL.pure hp
 refine LOp.of_call hc fun C a hg hxs hη=>?_
 have h0:=hxs g0 (by simp [Op.operands,Call.operands])
 rw [hg0] at h0
 obtain ⟨vs,hv,hl,hi⟩:=h0.clo_inv
 refine ⟨xs.map a.eval++vs,?_,?_⟩
 ·subst hys
  refine ⟨by simp [hl],fun i h h'=>?_⟩
  have hF:=(hf.at.2 i h h) C hg hη ((xs.map a.eval++vs)[i]) ?_
  ·exact hF.mono (fun b hb=>hb.elim (fun h=>h) (fun ⟨i,h1,_⟩=>absurd h1 (by simp))) (fun _ _=>rfl)
  ·by_cases hlx:i < xs.size
   ·have e1:(xs.toList.map (aev τ)++caps)[i]=aev τ xs[i]:=by
     rw [List.getElem_append_left (by simpa using hlx)]; simp
    have e2:(xs.map a.eval++vs)[i]=a.eval xs[i]:=by
     rw [Array.getElem_append_left (by simpa using hlx)]; simp
    rw [e1,e2]
    exact hxs _ (by simp [Op.operands,Call.operands])
   ·have e1:(xs.toList.map (aev τ)++caps)[i]=caps[i - xs.size]'(by simp at h; omega):=by
     rw [List.getElem_append_right (by simpa using hlx)]; simp
    have e2:(xs.map a.eval++vs)[i]=vs[i - xs.size]'(by simp at h'; omega):=by
     rw [Array.getElem_append_right (by simpa using hlx)]; simp
    rw [e1,e2]
    exact hi _ _ _
 ·have e:(execOp a.eval ⟨d,.call { callee:=.value g0,args:=xs,argTypes:=ats },ty,pos,af,g⟩).run P C.w=(callFunc f (#[]++xs.map a.eval++vs)).run P C.w:=by
   have e0:execOp a.eval ⟨d,.call { callee:=.value g0,args:=xs,argTypes:=ats },ty,pos,af,g⟩=(do let dd ← Deferred.ofValue (a.eval g0) (xs.map a.eval); invoke dd.target dd.args):=rfl
   rw [e0,hv]
   rfl
  rw [e,run_callFunc' hb]
  simp
/-- A value of which less is said. -/
theorem LOp.wkF {o:Oper} {fp:List Nat} {v v':AV} (h:LOp P o τ η fp [] v) (hf:∀ η',FzP [] η' v v'):LOp P o τ η fp [] v':=by
 intro C a hg hxs hfp hn K Q hK
 refine h C a hg hxs hfp hn K Q fun x C' h1 h2 h3 h4 h5=>hK x C' h1 h2 h3 h4 (.imm ?_)
 exact (hf C'.η C' h3 (fun _ h=>absurd h (by simp)) x h5).mono (fun b hb=>hb.elim (fun h=>h) (fun ⟨i,hi,_⟩=>absurd hi (by simp))) (fun _ _=>rfl)
/-- A new block that nobody writes any more. -/
theorem LOp.fzN {o:Oper} {u:Nat} {b:Blk} {v v':AV} (h:LOp P o τ η [] [(u,some b)] v) (hf:∀ η':Heap,η' u=some b→FzP [u] η' v v'):LOp P o τ η [] [(u,none)] v':=by
 intro C a hg hxs hfp hn K Q hK
 refine h C a hg hxs hfp (fun p hp hq=>by
  rw [List.mem_singleton] at hp; subst hp
  exact hn (u,none) (by simp) hq) K Q fun x C1 h1 h2 h3 h4 h5=>?_
 have hub:C1.η u=some b:=by rw [h1]; exact Heap.set_same _ _ _
 let C':Ctx:={ C1 with η:=C.η.put [(u,none)],T:=fun k=>C1.T k∨C1.mineOf [u] k }
 have hold:∀ {i b'},C'.η i=some b'→C1.η i=some b'∧i≠u:=by
  intro i b' hb
  have hb:(C.η.set u none) i=some b':=hb
  by_cases e:i=u
  ·subst e; rw [Heap.set_same] at hb; cases hb
  ·refine ⟨?_,e⟩
   rw [h1]; show (C.η.set u (some b)) i=some b'
   rw [Heap.set_other _ _ e] at hb ⊢; exact hb
 have hvr:∀ {a:AV} {x:Value},VR C1 a x→VR C' a x:=fun hv=>VR.shift (C:=C1) (C':=C') rfl rfl rfl rfl (fun b hb=>.inl hb) h3.used (fun id b' hb=>⟨b',(hold hb).1,rfl,rfl,rfl,rfl⟩) hv
 have hlive:∀ {i},C'.live i→C1.live i∧i≠u:=by
  rintro i ⟨b',hb1,hk⟩
  exact ⟨⟨b',(hold hb1).1,hk⟩,(hold hb1).2⟩
 have hg':Good C':=by
  refine ⟨fun h=>h3.used (hold h).1,?_,?_,fun hi hj e=>h3.inj (hlive hi).1 (hlive hj).1 e,?_,?_,fun h hv hn=>h3.tight (hold h).1 hv hn⟩
  ·intro i b' hb1 hk
   obtain ⟨o,g1,g2⟩:=h3.obj (hold hb1).1 hk
   exact ⟨o,g1,ObjR.shift hvr g2⟩
  ·intro i b' hb1 hn'
   obtain ⟨c,t,g1,g2,g3,g4⟩:=h3.blk (hold hb1).1 hn'
   exact ⟨c,t,g1,g2,g3,fun j hj hj'=>hvr (g4 j hj hj')⟩
  ·refine h3.tokT (fun _ h=>.inl h) ?_
   rintro k (hk | hk)
   ·exact h3.tlt hk
   ·exact Ctx.mine_lt h3 (Ctx.mineOf_mine hk)
  ·rintro k ⟨i,hl',hk⟩ (hT | ⟨i',hi',hl'',e⟩)
   ·exact h3.apart ⟨i,(hlive hl').1,hk⟩ hT
   ·have e2:i'=i:=h3.inj hl'' (hlive hl').1 (e.trans hk.symm)
    rw [List.mem_singleton] at hi'
    exact (hlive hl').2 (e2 ▸ hi')
 have hev:Ev C C':=⟨⟨h4.os,h4.tape,h4.output,h4.size,h4.keep,fun k ⟨i,q1,q2⟩=>h4.mine k ⟨i,(hlive q1).1,q2⟩,fun k h=>.inl (h4.T k h),fun k h=>h.elim (fun h=>h4.Tnew k h) (fun h=>.inr (h4.mine k (Ctx.mineOf_mine h)))⟩,h4.U,fun id b' hU hb=>h4.old id b' hU (hold hb).1⟩
 exact hK x C' rfl (fun id=>by rw [show C'.U=C1.U from rfl,h2]; simp) hg' hev (.imm (hf C1.η hub C1 h3 (fun _ _=>rfl) x h5))
theorem LOp.appRowsO (hf:RowF f q) {t e by_:Nat} {s x:Operand} {z:Value} {id ver id2 v2:Nat} {l l':List α} (ht:P.underlying t=some (.slice e)) (hs:sizeInfo P e=some q) (hz:zeroOf P e=some z) (hby:(P.info? e).map (·.bytes)=some by_) (hzs:z.cells.size=q)
  (hx:aev τ s=.sl id ver 0 l.length) (hb:η id=some ⟨ver,rF f l,q,false⟩) (hy:aev τ x=.sl id2 v2 0 l'.length) (hb2:η id2=some ⟨v2,rF f l',q,Nat.beq l'.length 0⟩) (hmax:(l.length+l'.length) * by_≤140737488355328) (hmax2:l.length+l'.length≤140737488355328) (htv:ver+1≠TV) :
  LOp P ⟨d,.call { callee:=.builtin .append,args:=#[s,x],argTypes:=#[t,t] },ty,pos,af,g⟩ τ η [id,id2] [(id,some ⟨ver+1,rF f (l++l'),q,false⟩)] (.sl id (ver+1) 0 (l++l').length):=by
 have:=LOp.append (d:=d) (ty:=ty) (pos:=pos) (af:=af) (g:=g) (m:=l'.length) (news:=rF f l') ht hs hz hby hzs hx hb rfl rfl rfl (Nat.le_of_eq (rF_len hf l).symm) (by rw [hy]; exact Src.rows hf hb2) (rF_len hf l') (rF_one hf l') hmax hmax2 htv
 rw [← List.length_append,← rF_len hf l,List.take_length,← rF_app] at this
 exact this
theorem LOp.appRowB (hf:RowF f q) {t e by_:Nat} {s x:Operand} {z:Value} {fp:List Nat} {id ver:Nat} {l:List α} {a:α} {news:List AV} (ht:P.underlying t=some (.slice e)) (hs:sizeInfo P e=some q) (hz:zeroOf P e=some z) (hby:(P.info? e).map (·.bytes)=some by_) (hzs:z.cells.size=q)
  (hx:aev τ s=.sl id ver 0 l.length) (hb:η id=some ⟨ver,rF f l,q,false⟩) (hsrc:Src η fp (aev τ x) 1 news) (hnews:news=f a) (hmax:(l.length+1) * by_≤140737488355328) (hmax2:l.length+1≤140737488355328) (htv:ver+1≠TV) :
  LOp P ⟨d,.call { callee:=.builtin .append,args:=#[s,x],argTypes:=#[t,t] },ty,pos,af,g⟩ τ η (id :: fp) [(id,some ⟨ver+1,rF f (l++[a]),q,false⟩)] (.sl id (ver+1) 0 (l++[a]).length):=by
 subst hnews
 have:=LOp.append (d:=d) (ty:=ty) (pos:=pos) (af:=af) (g:=g) (m:=1) (news:=f a) ht hs hz hby hzs hx hb rfl rfl rfl (Nat.le_of_eq (rF_len hf l).symm) hsrc (by rw [Nat.one_mul]; exact hf.len a) (hf.one a) hmax hmax2 htv
 rw [← rF_len hf l,List.take_length,← rF_snoc] at this
 simpa using this
end
end Go.Proofs.YtjdblmpkeilbaaaGreatDoor
namespace Go.Proofs.YtjdblmpkeilbaaaGreatDoor
set_option linter.unusedVariables false
set_option linter.unusedSimpArgs false
open Go.RowKit
section
variable {A B:Prop}
theorem cE {a b:Int} (ht:a=b→A) (hf:¬ a=b→B):SpI (a==b) A B:=⟨fun h=>ht (beq_iff_eq.1 h),fun h=>hf (fun e=>by rw [e,beq_self_eq_true] at h; cases h)⟩
theorem cN {a b:Int} (ht:¬ a=b→A) (hf:a=b→B):SpI (a != b) A B:=⟨fun h=>ht (fun e=>by rw [e,bne_self_eq_false] at h; cases h),fun h=>hf (by simpa using h)⟩
theorem cD {p:Prop} [Decidable p] (ht:p→A) (hf:¬ p→B):SpI (decide p) A B:=⟨fun h=>ht (of_decide_eq_true h),fun h=>hf (of_decide_eq_false h)⟩
theorem cL {m n:Nat} (ht:m < n→A) (hf:¬ m < n→B):SpI (decide (((m:Nat):Int) < ((n:Nat):Int))) A B:=⟨fun h=>ht (Int.ofNat_lt.1 (of_decide_eq_true h)),fun h=>hf (fun e=>of_decide_eq_false h (Int.ofNat_lt.2 e))⟩
theorem bF {p:Prop}:∃ b:Bool,AV.v (.bool false)=.v (.bool b)∧(b=true→p):=⟨_,rfl,fun h=>absurd h Bool.false_ne_true⟩
end
section
variable {P:Program} {X:Inf} {N:Nat} {cu st:List Nat}
theorem rV {fn:Func} {t:Nat} {s:St} {R:AV→Prop} (hr:fn.results=#[.tmp t]) (hp:(s.τ t).pureB=true) (h:R (s.τ t)):((Exit.ret:Exit)=.normal∨(Exit.ret:Exit)=.ret)∧∃ ret,Outs P N fn s ret∧R ret:=⟨.inr rfl,_,oV hr rfl hp rfl,h⟩
/-- A loop whose state is told by a variable. -/
theorem LpG.on {α:Type} {c:Code} {Q:Exit→St→Prop} {s:St} (S:α→St) (M:α→Nat) (J:α→Prop) (a:α) (hc:Canon s (S a)) (h0:J a) (hI:∀ k,J k→vc P X N cu st c (andThen (fun s'=>∃ k',M k' < M k∧Canon s' (S k')∧J k') Q) (S k)):LpG P X N cu st c Q s :=
 ⟨fun hX hd=>EWP.loopC (fun m s1=>∃ k,m=M k∧s1=S k∧J k) hc ⟨a,rfl,rfl,h0⟩ fun n s hi=>by
  obtain ⟨k,rfl,rfl,hj⟩:=hi
  refine EWP.mono (vc_ok hX c _ _ hd (hI k hj)) fun e s' h=>?_
  cases e with
  | normal=>
   obtain ⟨k',h1,h2,h3⟩:=h
   exact ⟨_,_,h1,h2,k',rfl,rfl,h3⟩
  | _=>exact h⟩
end
end Go.Proofs.YtjdblmpkeilbaaaGreatDoor
namespace Go.Proofs.YtjdblmpkeilbaaaGreatDoor
set_option linter.unusedVariables false
set_option linter.unusedSimpArgs false
open Go.RowKit
section
variable {P:Program} {τ:Nat→AV} {η:Heap} {d:Option Tmp} {ty:TypeId} {pos:String} {af:Array Edge} {g:Option (Nat×Bool)}
end
end Go.Proofs.YtjdblmpkeilbaaaGreatDoor
namespace Go.Proofs.YtjdblmpkeilbaaaGreatDoor
set_option linter.unusedVariables false
set_option linter.unusedSimpArgs false
open Go.RowKit
section
variable {P:Program} {τ:Nat→AV} {η:Heap} {d:Option Tmp} {ty:TypeId} {pos:String} {af:Array Edge} {g:Option (Nat×Bool)}
end
end Go.Proofs.YtjdblmpkeilbaaaGreatDoor
namespace Go.Proofs.YtjdblmpkeilbaaaGreatDoor
set_option linter.unusedVariables false
set_option linter.unusedSimpArgs false
open Go.RowKit
section
variable {P:Program} {τ:Nat→AV} {η:Heap} {d:Option Tmp} {ty:TypeId} {pos:String} {af:Array Edge} {g:Option (Nat×Bool)}
end
end Go.Proofs.YtjdblmpkeilbaaaGreatDoor
