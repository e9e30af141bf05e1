/- Texts of the claim. -/
import Derived.Lib.MinMax
import Derived.Lib.Bytealg
import Derived.Laws.Externs
import Derived.Test.YtbhhmbchdponjaaGreatDoorQ1
import Derived.Test.YtbhhmbchdponjaaGreatDoorE1
import Derived.Test.YtbhhmbchdponjaaGreatDoorE2
import Derived.Test.YtbhhmbchdponjaaGreatDoorA2
import Derived.Test.YtbhhmbchdponjaaGreatDoorE3
namespace Go.Proofs.YtbhhmbchdponjaaGreatDoor
set_option linter.unusedVariables false
set_option linter.unusedSimpArgs false
open Go.RowKit
section
variable {P:Program} {τ:Nat→AV} {η:Heap} {d:Option Tmp} {ty:TypeId} {pos:String} {af:Array Edge} {g:Option (Nat×Bool)}
theorem LOp.subOne {t t':TypeId} {x y:Operand} {k k':Nat} (hx:aev τ x=.v (.int .i64 ((k:Nat):Int))) (hy:aev τ y=.v (.int .i64 1)) (hk:k=k'+1) (hb:k < 4611686018427387904) :
 LOp P ⟨d,.binOp .sub t x y t',ty,pos,af,g⟩ τ η [] [] (.v (.int .i64 ((k':Nat):Int))):=by
 have:=LOp.subI (P:=P) (τ:=τ) (η:=η) (d:=d) (ty:=ty) (pos:=pos) (af:=af) (g:=g) (t:=t) (t':=t') hx hy (by omega) (by omega)
 rwa [show ((k:Nat):Int) - 1=((k':Nat):Int) by omega] at this
theorem LOp.indexI {α:Type} {t e n:Nat} {x i:Operand} {f:α→List AV} {l:List α} {v:Int} {j:Nat} (he:P.underlying t=some (.slice e)) (hs:sizeInfo P e=some n) (hx:aev τ x=.tree n (l.map f)) (hi:aev τ i=.v (.int .i64 v)) (hv:v=((j:Nat):Int)) (hj:j < l.length) :
 LOp P ⟨d,.indexAddr t x i,ty,pos,af,g⟩ τ η [] [] (.tp (f l[j]) 0):=by
 subst hv
 exact lI he hs hx hi hj
theorem LOp.indexArrT {t len e n j o:Nat} {x i:Operand} {cs:List AV} {k:IntKind} (hu:P.underlying t=some (.array len e)) (hs:sizeInfo P e=some n) (hx:aev τ x=.tp cs o) (hi:aev τ i=.v (.int k (Int.ofNat j))) (hj:Nat.blt j len=true) :
 LOp P ⟨d,.indexAddr t x i,ty,pos,af,g⟩ τ η [] [] (.tp cs (o+j * n)) :=
 indexArrE_ok (u:=0) (r:=⟨[],[],.tp cs (o+j * n),0⟩) (by unfold indexArrE; rw [hu]; simp only [hs,hi,hx,hj,cond_true])
theorem LOp.lenStr {t:Nat} {x:Operand} {s:ByteArray} {ats:Array TypeId} (ha:ats[0]? = some t) (hu:P.underlying t=some .string) (hx:aev τ x=.v (.string s)) :
 LOp P ⟨d,.call { callee:=.builtin .len,args:=#[x],argTypes:=ats },ty,pos,af,g⟩ τ η [] [] (.v (.int .i64 ((s.size:Nat):Int))) :=
 .look [] fun C a hg hxs _=>by have h1:=hxs x (by simp [Op.operands,Call.operands]);rw [hx] at h1;have e1:=h1.v_inv;refine ⟨_,?_,VR.v C _⟩;simp [execOp,e1,resolve,invoke,builtin,Builtin.len_,ha,run_underlying hu,goInt]
def bAt (s:ByteArray) (k:Nat):UInt8:=s.data.getD k 0
theorem bAt_some {s:ByteArray} {k:Nat} (h:k < s.size):s[k]? = some (bAt s k):=by have h1:k < s.data.size:=h;rw [getElem?_pos s k h];unfold bAt;simp [Array.getD,h1];rw [dif_pos h];rfl
theorem LOp.indexStr {t k:Nat} {x i:Operand} {s:ByteArray} (hu:P.underlying t=some .string) (hx:aev τ x=.v (.string s)) (hi:aev τ i=.v (.int .i64 ((k:Nat):Int))) (hk:k < s.size) :
 LOp P ⟨d,.index t x i,ty,pos,af,g⟩ τ η [] [] (.v (.int .u8 (((bAt s k).toNat:Nat):Int))) :=
 .look [] fun C a hg hxs _=>by have h1:=hxs x (by simp [Op.operands]);have h2:=hxs i (by simp [Op.operands]);rw [hx] at h1;rw [hi] at h2;have e1:=h1.v_inv;have e2:=h2.v_inv;refine ⟨_,?_,VR.v C _⟩;simp only [execOp,e1,e2,Instr.index,asIntOf,Sem.run_bind,Sem.run_pure,Result.andThen_ok,run_underlying hu];have h0:(0:Int)≤((k:Nat):Int):=Int.natCast_nonneg k;simp only [h0,if_true,Int.toNat_natCast,bAt_some hk,Sem.run_pure,Result.andThen_ok]
end
theorem vb_eq {b c:Bool} (h:b=c):AV.v (.bool b)=AV.v (.bool c):=by rw [h]
theorem vi_eq {b c:Int} (h:b=c):AV.v (.int .i64 b)=AV.v (.int .i64 c):=by rw [h]
def allN (n:Nat) (p:Nat→Bool):Bool:=(List.range n).all p
theorem allN_hit {n k:Nat} {p:Nat→Bool} (h:k < n) (hp:p k=false):allN n p=false:=by grind [allN]
theorem allN_end {n k:Nat} {p:Nat→Bool} (h:k≤n) (h':¬ k < n) (hp:∀ j,j < k→p j=true):allN n p=true:=by grind [allN]
theorem allN_iff {n:Nat} {p:Nat→Bool}:allN n p=true↔∀ j,j < n→p j=true:=by grind [allN]
def iA (n:Int):List AV:=[.v (.int .i64 n)]
abbrev isA (l:List Int):AV:=.tree 1 (l.map iA)
theorem getD_at {α:Type} {l:List α} {k:Nat} {d:α} (h:k < l.length):l.getD k d=l[k]:=by simp [List.getD,h]
theorem getD_none {α:Type} {l:List α} {k:Nat} {d:α} (h:¬ k < l.length):l.getD k d=d:=by simp [List.getD,List.getElem?_eq_none (Nat.le_of_not_lt h)]
end Go.Proofs.YtbhhmbchdponjaaGreatDoor
namespace Go.Proofs.YtbhhmbchdponjaaGreatDoor
set_option linter.unusedVariables false
set_option linter.unusedSimpArgs false
open Go.RowKit
inductive UK where
 | sl (e:Nat)
 | str
 | bool
 | o
def undK (P:Program) (t:Nat):UK:=match P.underlying t with
 | some (.slice e)=>.sl e
 | some .string=>.str
 | some .bool=>.bool
 | _=>.o
theorem undK_sl {P:Program} {t e:Nat} (h:undK P t=.sl e):P.underlying t=some (.slice e):=by unfold undK at h;split at h <;> first | (cases h; assumption) | cases h
theorem undK_str {P:Program} {t:Nat} (h:undK P t=.str):P.underlying t=some .string:=by unfold undK at h;split at h <;> first | (cases h; assumption) | cases h
theorem undK_bool {P:Program} {t:Nat} (h:undK P t=.bool):P.underlying t=some .bool:=by unfold undK at h;split at h <;> first | (cases h; assumption) | cases h
structure TI where
 ty:Nat
 und:UK
 row:Option Nat
 size:Nat
 bytes:Nat
 zero:Value
 k:Nat
 pl:List (Nat×Nat)
def fiL (P:Program) (i:TI):List (Option (Nat×Nat)):=match i.k with
 | 1=>(List.range i.pl.length).map (fieldInfo P i.ty)
 | _=>[]
def plL (P:Program) (i:TI):Option (List (Nat×Nat)):=match i.k with
 | 0=>none
 | _=>placesOf P i.ty
def TI.v1 (P:Program) (i:TI):=(undK P i.ty,rowOf P i.ty,sizeInfo P i.ty,(P.info? i.ty).map (·.bytes),zeroOf P i.ty,plL P i,fiL P i)
def TI.v2 (i:TI):=(i.und,some i.row,some i.size,some i.bytes,some i.zero,(match i.k with | 0=>none | _=>some i.pl),(match i.k with | 1=>i.pl.map some | _=>[]))
structure TI.Ok (P:Program) (i:TI):Prop where
 und:undK P i.ty=i.und
 row:rowOf P i.ty=some i.row
 size:sizeInfo P i.ty=some i.size
 bytes:(P.info? i.ty).map (·.bytes)=some i.bytes
 zero:zeroOf P i.ty=some i.zero
 pl:Nat.beq i.k 0=false→placesOf P i.ty=some i.pl
 fi:Nat.beq i.k 1=true→∀ j f,i.pl[j]? = some f→fieldInfo P i.ty j=some f
theorem TI.ok_of {P:Program} {i:TI} (h:i.v1 P=i.v2):i.Ok P:=by
 unfold TI.v1 TI.v2 at h
 simp only [Prod.mk.injEq] at h
 obtain ⟨h1,h2,h3,h4,h5,h6,h7⟩:=h
 refine ⟨h1,h2,h3,h4,h5,fun hk=>?_,fun hk j f hj=>?_⟩
 ·cases e:i.k with
  | zero=>rw [e] at hk; cases hk
  | succ n=>unfold plL at h6; simp only [e] at h6; exact h6
 ·have e:i.k=1:=Nat.eq_of_beq_eq_true hk
  unfold fiL at h7
  rw [e] at h7
  obtain ⟨hlt,hf⟩:=List.getElem?_eq_some_iff.1 hj
  have:=congrArg (fun l=>l[j]?) h7
  simp only [List.getElem?_map,List.getElem?_range hlt,Option.map_some,hj] at this
  exact Option.some.inj this
def look1:List TI→Nat→Option TI
 | [],_=>none
 | i :: r,t=>bif Nat.beq i.ty t then some i else look1 r t
structure Inf where
 I:List TI
 B:List Nat
structure Inf.Ok (P:Program) (X:Inf):Prop where
 I:∀ i∈X.I,i.Ok P
 B:∀ f∈X.B,bodied P f=true
 m:P.follows .mixedOrders=true
theorem Inf.ok_of {P:Program} {X:Inf} (h1:X.I.map (TI.v1 P)=X.I.map TI.v2) (h2:X.B.all (bodied P)=true) (h3:P.follows .mixedOrders=true):X.Ok P:=by refine ⟨fun i hi=>TI.ok_of ?_,fun f hf=>List.all_eq_true.1 h2 f hf,h3⟩;obtain ⟨j,hj,rfl⟩:=List.getElem_of_mem hi;have:=congrArg (fun l=>l[j]?) h1;simpa [hj] using this
theorem look1_ok {P:Program} {X:Inf} (h:X.Ok P) {t:Nat} {i:TI} (hl:look1 X.I t=some i):i.Ok P∧i.ty=t:=by
 have:∀ l:List TI,look1 l t=some i→i∈l∧i.ty=t:=by
  intro l
  induction l with
  | nil=>intro h; cases h
  | cons a r ih=>
   intro h
   unfold look1 at h
   cases hb:Nat.beq a.ty t with
   | true=>rw [hb] at h; simp only [cond_true,Option.some.injEq] at h; subst h; exact ⟨by simp,Nat.eq_of_beq_eq_true hb⟩
   | false=>rw [hb] at h; simp only [cond_false] at h; exact ⟨by simp [(ih h).1],(ih h).2⟩
 exact ⟨h.I _ (this _ hl).1,(this _ hl).2⟩
def frc (a:AV) (k:AV→Prop):Prop:=match a with
 | .v x=>k (.v x)
 | .ptr i v o=>k (.ptr i v o)
 | .sl i v o n=>k (.sl i v o n)
 | .tree n xs=>k (.tree n xs)
 | .tp cs o=>k (.tp cs o)
 | .agg cs=>k (.agg cs)
 | .tup cs=>k (.tup cs)
 | .clo f cs=>k (.clo f cs)
 | .unk=>k .unk
 | .mp i v=>k (.mp i v)
 | .it i v=>k (.it i v)
theorem frc_ok {a:AV} {k:AV→Prop} (h:frc a k):k a:=by cases a <;> exact h
def frcL:List AV→(List AV→Prop)→Prop
 | [],k=>k []
 | a :: r,k=>frc a fun a'=>frcL r fun r'=>k (a' :: r')
theorem frcL_ok:∀ {l:List AV} {k:List AV→Prop},frcL l k→k l
 | [],_,h=>h
 | a :: r,k,h=>frcL_ok (k:=fun r'=>k (a :: r')) (frc_ok (k:=fun a'=>frcL r fun r'=>k (a' :: r')) h)
abbrev KT:=List Nat→List (Nat×Option Blk)→AV→Nat→Prop
inductive OpG (P:Program) (o:Oper) (τ:Nat→AV) (η:Heap) (u:Nat) (k:KT):Prop
 | mk (fp:List Nat) (δ:List (Nat×Option Blk)) (v:AV) (u':Nat) (hL:LOp P o τ η fp δ v) (hu:Nat.ble u u'=true) (hn:newOk fp δ u u'=true) (h:k fp δ v u'):OpG P o τ η u k
inductive IdxG (xs:List (List AV)) (j:Nat) (k:AV→Prop):Prop
 | mk (hj:j < xs.length) (h:k (.tp xs[j] 0)):IdxG xs j k
inductive LenG (xs:List (List AV)) (k:AV→Prop):Prop
 | mk (h:k (.v (.int .i64 ((xs.length:Nat):Int)))):LenG xs k
theorem IdxG.of {α:Type} {f:α→List AV} {l:List α} {j:Nat} {k:AV→Prop} (hj:j < l.length) (h:k (.tp (f l[j]) 0)):IdxG (l.map f) j k:=by refine .mk (by rw [List.length_map]; exact hj) ?_;rw [List.getElem_map];exact h
theorem LenG.of {α:Type} {f:α→List AV} {l:List α} {k:AV→Prop} (h:k (.v (.int .i64 ((l.length:Nat):Int)))):LenG (l.map f) k:=by refine .mk ?_;rw [List.length_map];exact h
section
variable {P:Program} {X:Inf} {τ:Nat→AV} {η:Heap} {u:Nat} {k:KT} {d:Option Tmp} {ty:TypeId} {pos:String} {af:Array Edge} {g:Option (Nat×Bool)}
theorem OpG.lk {o:Oper} {fp:List Nat} {v:AV} (hL:LOp P o τ η fp [] v) (h:k fp [] v u):OpG P o τ η u k:=.mk fp [] v u hL (by simp [Nat.ble_eq]) rfl h
theorem OpG.nw {o:Oper} {b:Option Blk} {v:AV} (hL:LOp P o τ η [] [(u,b)] v) (ht:Nat.ble (u+1) TOP=true) (h:k [] [(u,b)] v (u+1)):OpG P o τ η u k:=.mk [] _ v (u+1) hL (by simp [Nat.ble_eq]) (newOk_new ht) h
theorem OpG.wr {o:Oper} {b:Option Blk} {v:AV} {id:Nat} (hL:LOp P o τ η [id] [(id,b)] v) (ht:lowId u id=true) (h:k [id] [(id,b)] v u):OpG P o τ η u k:=.mk [id] _ v u hL (by simp [Nat.ble_eq]) (newOk_old ht) h
theorem cond_and {b:Bool} {A B:Prop} (h:cond b A B):(b=true∧A)∨(b=false∧B):=by cases b with
 | true=>exact .inl ⟨rfl,h⟩
 | false=>exact .inr ⟨rfl,h⟩
def pickS (P:Program) (o:Oper) (τ:Nat→AV) (η:Heap) (u:Nat) (c x y:Operand) (k:KT):Prop:=match aev τ c with
 | .v (.bool t)=>cond t (frc (aev τ x) fun v=>k [] [] v u) (frc (aev τ y) fun v=>k [] [] v u)
 | _=>OpG P o τ η u k
theorem pickS_ok {c x y:Operand} (h:pickS P ⟨d,.pick c x y,ty,pos,af,g⟩ τ η u c x y k):OpG P ⟨d,.pick c x y,ty,pos,af,g⟩ τ η u k:=by unfold pickS at h;split at h;rename_i t hc;rcases cond_and h with ⟨e,h'⟩ | ⟨e,h'⟩;exact .lk (LOp.pkT hc e rfl) (frc_ok (k:=fun v=>k [] [] v u) h');exact .lk (LOp.pkF hc e rfl) (frc_ok (k:=fun v=>k [] [] v u) h');exact h
def loadS (P:Program) (X:Inf) (o:Oper) (τ:Nat→AV) (η:Heap) (u:Nat) (t:Nat) (x:Operand) (k:KT):Prop:=match look1 X.I t with
 | none=>OpG P o τ η u k
 | some i=>match aev τ x with
  | .ptr id ver p=>match liveB η id ver with
   | none=>OpG P o τ η u k
   | some b=>match i.row with
    | none=>match b.cs[p]? with
     | some v=>frc v fun v=>k [id] [] v u
     | none=>OpG P o τ η u k
    | some n=>match takeFrom p n b.cs with
     | some ds=>k [id] [] (.agg ds) u
     | none=>OpG P o τ η u k
  | .tp cs p=>match i.row with
   | none=>match cs[p]? with
    | some v=>frc v fun v=>k [] [] v u
    | none=>OpG P o τ η u k
   | some n=>match takeFrom p n cs with
    | some ds=>k [] [] (.agg ds) u
    | none=>OpG P o τ η u k
  | _=>OpG P o τ η u k
theorem loadS_ok (hX:X.Ok P) {t:Nat} {x:Operand} (h:loadS P X ⟨d,.load t x,ty,pos,af,g⟩ τ η u t x k):OpG P ⟨d,.load t x,ty,pos,af,g⟩ τ η u k:=by unfold loadS at h;split at h;exact h;rename_i i hi;obtain ⟨hI,rfl⟩:=look1_ok hX hi;split at h;rename_i id ver p hx;split at h;exact h;rename_i b hb;obtain ⟨h1,h2,h3⟩:=liveB_ok hb;split at h;rename_i hr;split at h;rename_i v hv;exact .lk (lD (hI.row.trans (by rw [hr])) hx h1 h2 h3 hv) (frc_ok h);exact h;rename_i n hr;split at h;rename_i ds hv;exact .lk (LOp.ldN (hI.row.trans (by rw [hr])) hx h1 h2 h3 hv) h;exact h;rename_i cs p hx;split at h;rename_i hr;split at h;rename_i v hv;exact .lk (lE (hI.row.trans (by rw [hr])) hx hv) (frc_ok h);exact h;rename_i n hr;split at h;rename_i ds hv;exact .lk (LOp.ldTN (hI.row.trans (by rw [hr])) hx hv) h;exact h;exact h
def fieldAS (P:Program) (X:Inf) (o:Oper) (τ:Nat→AV) (η:Heap) (u:Nat) (t:Nat) (x:Operand) (j:Nat) (k:KT):Prop:=match look1 X.I t with
 | none=>OpG P o τ η u k
 | some i=>bif Nat.beq i.k 1 then match i.pl[j]? with
  | none=>OpG P o τ η u k
  | some (off,sz)=>bif Nat.beq sz 0 then OpG P o τ η u k else match aev τ x with
   | .ptr id ver p=>match liveB η id ver with
    | none=>OpG P o τ η u k
    | some b=>k [id] [] (.ptr id ver (p+off)) u
   | .tp cs p=>k [] [] (.tp cs (p+off)) u
   | _=>OpG P o τ η u k
  else OpG P o τ η u k
theorem fieldAS_ok (hX:X.Ok P) {t j:Nat} {x:Operand} (h:fieldAS P X ⟨d,.fieldAddr t x j,ty,pos,af,g⟩ τ η u t x j k):OpG P ⟨d,.fieldAddr t x j,ty,pos,af,g⟩ τ η u k:=by unfold fieldAS at h;split at h;exact h;rename_i i hi;obtain ⟨hI,rfl⟩:=look1_ok hX hi;rcases cond_and h with ⟨hk,h⟩ | ⟨hk,h⟩;split at h;exact h;rename_i off sz hp;have hf:=hI.fi hk _ _ hp;rcases cond_and h with ⟨hz,h⟩ | ⟨hz,h⟩;exact h;split at h;rename_i id ver p hx;split at h;exact h;rename_i b hb;obtain ⟨h1,h2,h3⟩:=liveB_ok hb;exact .lk (lF hf hz hx h1 h2 h3) h;rename_i cs p hx;exact .lk (LOp.fieldAddrT hf hz hx) h;exact h;exact h
def indexAS (P:Program) (X:Inf) (o:Oper) (τ:Nat→AV) (η:Heap) (u:Nat) (t:Nat) (x y:Operand) (k:KT):Prop:=match look1 X.I t with
 | none=>OpG P o τ η u k
 | some i=>match i.und with
  | .sl e=>match look1 X.I e with
   | none=>OpG P o τ η u k
   | some q=>match aev τ x with
    | .tree n xs=>match aev τ y with
     | .v (.int .i64 (.ofNat j))=>bif Nat.beq q.size n then IdxG xs j fun v=>k [] [] v u else OpG P o τ η u k
     | _=>OpG P o τ η u k
    | .sl id ver off len=>match aev τ y with
     | .v (.int .i64 (.ofNat j))=>match liveB η id ver with
      | some b=>bif Nat.beq b.esz q.size then j < len∧k [id] [] (.ptr id ver (off+j * q.size)) u else OpG P o τ η u k
      | none=>OpG P o τ η u k
     | _=>OpG P o τ η u k
    | _=>OpG P o τ η u k
  | _=>OpG P o τ η u k
theorem indexAS_ok (hX:X.Ok P) {t:Nat} {x y:Operand} (h:indexAS P X ⟨d,.indexAddr t x y,ty,pos,af,g⟩ τ η u t x y k):OpG P ⟨d,.indexAddr t x y,ty,pos,af,g⟩ τ η u k:=by unfold indexAS at h;split at h;exact h;rename_i i hi;obtain ⟨hI,rfl⟩:=look1_ok hX hi;split at h;rename_i e he;have hu:=undK_sl (hI.und.trans he);split at h;exact h;rename_i q hq;obtain ⟨hQ,rfl⟩:=look1_ok hX hq;split at h;rename_i n xs hx;split at h;rename_i j hj;rcases cond_and h with ⟨hz,h'⟩ | ⟨hz,h⟩;obtain ⟨hl,h'⟩:=h';have hn:q.size=n:=Nat.eq_of_beq_eq_true hz;subst hn;have:=lI (P:=P) (τ:=τ) (η:=η) (d:=d) (ty:=ty) (pos:=pos) (af:=af) (g:=g) (f:=fun r:List AV=>r) (l:=xs) hu hQ.size (by rw [hx]; simp) hj hl;exact .lk this h';exact h;exact h;rename_i id ver off len hx;split at h;rename_i j hj;split at h;rename_i b hb;obtain ⟨h1,h2,h3⟩:=liveB_ok hb;rcases cond_and h with ⟨hz,h⟩ | ⟨hz,h⟩;exact .lk (LOp.indexS hu hQ.size hx hj h.1 h1 h2 h3 (Nat.eq_of_beq_eq_true hz)) h.2;exact h;exact h;exact h;exact h;exact h
def indexStrS (P:Program) (X:Inf) (o:Oper) (τ:Nat→AV) (η:Heap) (u:Nat) (t:Nat) (x y:Operand) (k:KT):Prop:=match look1 X.I t with
 | none=>OpG P o τ η u k
 | some i=>match i.und with
  | .str=>match aev τ x with
   | .v (.string s)=>match aev τ y with
    | .v (.int .i64 (.ofNat j))=>j < s.size∧k [] [] (.v (.int .u8 ((bAt s j).toNat:Int))) u
    | _=>OpG P o τ η u k
   | _=>OpG P o τ η u k
  | _=>OpG P o τ η u k
theorem indexStrS_ok (hX:X.Ok P) {t:Nat} {x y:Operand} (h:indexStrS P X ⟨d,.index t x y,ty,pos,af,g⟩ τ η u t x y k):OpG P ⟨d,.index t x y,ty,pos,af,g⟩ τ η u k:=by unfold indexStrS at h;split at h;exact h;rename_i i hi;obtain ⟨hI,rfl⟩:=look1_ok hX hi;split at h;rename_i he;have hu:=undK_str (hI.und.trans he);split at h;rename_i s hx;split at h;rename_i j hj;exact .lk (LOp.indexStr hu hx hj h.1) h.2;exact h;exact h;exact h
def storeS (P:Program) (X:Inf) (o:Oper) (τ:Nat→AV) (η:Heap) (u:Nat) (t:Nat) (x y:Operand) (k:KT):Prop:=match look1 X.I t with
 | none=>OpG P o τ η u k
 | some i=>match aev τ x with
  | .ptr id ver p=>match η id with
   | some ⟨w,cs,z,np⟩=>bif Nat.beq w ver&&!np&&lowId u id then match cellsO (aev τ y) with
    | some vs=>frcL vs fun vs=>bif Nat.beq vs.length i.size&&vs.all AV.one then match putAt p cs vs with
     | some ds=>k [id] [(id,some ⟨w,ds,z,np⟩)] (.v undef) u
     | none=>OpG P o τ η u k
     else OpG P o τ η u k
    | none=>OpG P o τ η u k
    else OpG P o τ η u k
   | none=>OpG P o τ η u k
  | _=>OpG P o τ η u k
theorem storeS_ok (hX:X.Ok P) {t:Nat} {x y:Operand} (h:storeS P X ⟨d,.store t x y,ty,pos,af,g⟩ τ η u t x y k):OpG P ⟨d,.store t x y,ty,pos,af,g⟩ τ η u k:=by unfold storeS at h;split at h;exact h;rename_i i hi;obtain ⟨hI,rfl⟩:=look1_ok hX hi;split at h;rename_i id ver p hx;split at h;rename_i w cs z np hb;rcases cond_and h with ⟨hc,h⟩ | ⟨hc,h⟩;simp only [Bool.and_eq_true,Bool.not_eq_true'] at hc;split at h;rename_i vs hv;rcases cond_and (frcL_ok h) with ⟨hz,h⟩ | ⟨hz,h⟩;rw [Bool.and_eq_true] at hz;split at h;rename_i ds hd;exact .wr (LOp.st hI.size hx hb (Nat.eq_of_beq_eq_true hc.1.1) hc.1.2 hv (Nat.eq_of_beq_eq_true hz.1) hz.2 hd) hc.2 h;exact h;exact h;exact h;exact h;exact h;exact h
def newS (P:Program) (o:Oper) (τ:Nat→AV) (η:Heap) (u:Nat) (cs:Option (List AV)) (k:KT):Prop:=match cs with
 | some vs=>bif Nat.ble (u+1) TOP then frcL vs fun vs=>k [] [(u,some ⟨0,vs,0,false⟩)] (.ptr u 0 0) (u+1) else OpG P o τ η u k
 | none=>OpG P o τ η u k
theorem boxS_ok {t:Nat} {x:Operand} (h:newS P ⟨d,.box t x,ty,pos,af,g⟩ τ η u (cellsO (aev τ x)) k):OpG P ⟨d,.box t x,ty,pos,af,g⟩ τ η u k:=by unfold newS at h;split at h;rename_i vs hv;rcases cond_and h with ⟨hz,h⟩ | ⟨hz,h⟩;have h:=frcL_ok h;exact .nw (LOp.bx hv) hz h;exact h;exact h
def allocS (P:Program) (X:Inf) (o:Oper) (τ:Nat→AV) (η:Heap) (u:Nat) (t:Nat) (k:KT):Prop:=match look1 X.I t with
 | none=>OpG P o τ η u k
 | some i=>newS P o τ η u (cellsO (.v i.zero)) k
theorem allocS_ok (hX:X.Ok P) {t:Nat} (h:allocS P X ⟨d,.alloc t,ty,pos,af,g⟩ τ η u t k):OpG P ⟨d,.alloc t,ty,pos,af,g⟩ τ η u k:=by unfold allocS at h;split at h;exact h;rename_i i hi;obtain ⟨hI,rfl⟩:=look1_ok hX hi;unfold newS at h;split at h;rename_i vs hv;rcases cond_and h with ⟨hz,h⟩ | ⟨hz,h⟩;have h:=frcL_ok h;exact .nw (LOp.al hI.zero hv) hz h;exact h;exact h
def buildS (P:Program) (X:Inf) (o:Oper) (τ:Nat→AV) (η:Heap) (u:Nat) (t:Nat) (parts:Array (Nat×Operand)) (k:KT):Prop:=match look1 X.I t with
 | none=>OpG P o τ η u k
 | some i=>bif Nat.beq i.k 0 then OpG P o τ η u k else match cellsO (.v i.zero) with
  | none=>OpG P o τ η u k
  | some cs=>match fillO i.pl cs (partsA τ parts) with
   | some out=>frcL out fun out=>k [] [] (.agg out) u
   | none=>OpG P o τ η u k
theorem buildS_ok (hX:X.Ok P) {t:Nat} {parts:Array (Nat×Operand)} (h:buildS P X ⟨d,.build t parts,ty,pos,af,g⟩ τ η u t parts k):OpG P ⟨d,.build t parts,ty,pos,af,g⟩ τ η u k:=by unfold buildS at h;split at h;exact h;rename_i i hi;obtain ⟨hI,rfl⟩:=look1_ok hX hi;rcases cond_and h with ⟨hz,h⟩ | ⟨hz,h⟩;exact h;split at h;exact h;rename_i cs hc;split at h;rename_i out ho;have h:=frcL_ok h;exact .lk (LOp.bd hI.zero (hI.pl hz) hc ho) h;exact h
def buildSlS (P:Program) (X:Inf) (o:Oper) (τ:Nat→AV) (η:Heap) (u:Nat) (t len:Nat) (parts:Array (Nat×Operand)) (k:KT):Prop:=match look1 X.I t with
 | none=>OpG P o τ η u k
 | some i=>match i.und with
  | .sl e=>match look1 X.I e with
   | none=>OpG P o τ η u k
   | some q=>bif Nat.ble (u+1) TOP&&Nat.ble (len * q.size) 16777216&&Nat.ble len 16777216&&!Nat.beq (len * q.size) 0 then match fillO (slotsOf len q.size) (zerosA q.zero (len * q.size)) (partsA τ parts) with
    | some out=>frcL out fun out=>k [] [(u,some ⟨TV,out,q.size,false⟩)] (.sl u TV 0 len) (u+1)
    | none=>OpG P o τ η u k
    else OpG P o τ η u k
  | _=>OpG P o τ η u k
theorem buildSlS_ok (hX:X.Ok P) {t len:Nat} {parts:Array (Nat×Operand)} (h:buildSlS P X ⟨d,.buildSlice t len parts,ty,pos,af,g⟩ τ η u t len parts k):OpG P ⟨d,.buildSlice t len parts,ty,pos,af,g⟩ τ η u k:=by unfold buildSlS at h;split at h;exact h;rename_i i hi;obtain ⟨hI,rfl⟩:=look1_ok hX hi;split at h;rename_i e he;have hu:=undK_sl (hI.und.trans he);split at h;exact h;rename_i q hq;obtain ⟨hQ,rfl⟩:=look1_ok hX hq;rcases cond_and h with ⟨hc,h⟩ | ⟨hc,h⟩;simp only [Bool.and_eq_true,Bool.not_eq_true'] at hc;split at h;rename_i out ho;have h:=frcL_ok h;exact .nw (LOp.bs hu hQ.size hQ.zero hc.1.1.2 hc.1.2 hc.2 ho) hc.1.1.1 h;exact h;exact h;exact h
def nilS (P:Program) (o:Oper) (τ:Nat→AV) (η:Heap) (u:Nat) (x:Operand) (k:KT):Prop:=match aev τ x with
 | .ptr id ver p=>match liveB η id ver with
  | some b=>k [id] [] (.ptr id ver p) u
  | none=>OpG P o τ η u k
 | .tp cs p=>k [] [] (.tp cs p) u
 | _=>OpG P o τ η u k
theorem nilS_ok {x:Operand} (h:nilS P ⟨d,.nilCheck x,ty,pos,af,g⟩ τ η u x k):OpG P ⟨d,.nilCheck x,ty,pos,af,g⟩ τ η u k:=by unfold nilS at h;split at h;rename_i id ver p hx;split at h;rename_i b hb;obtain ⟨h1,h2,h3⟩:=liveB_ok hb;exact .lk (lN hx h1 h2) h;exact h;rename_i cs p hx;exact .lk (LOp.nilCheckT hx) h;exact h
def extractS (P:Program) (o:Oper) (τ:Nat→AV) (η:Heap) (u:Nat) (x:Operand) (j:Nat) (k:KT):Prop:=match aev τ x with
 | .tup cs=>match cs[j]? with
  | some v=>frc v fun v=>k [] [] v u
  | none=>OpG P o τ η u k
 | _=>OpG P o τ η u k
theorem extractS_ok {x:Operand} {j:Nat} (h:extractS P ⟨d,.extract x j,ty,pos,af,g⟩ τ η u x j k):OpG P ⟨d,.extract x j,ty,pos,af,g⟩ τ η u k:=by unfold extractS at h;split at h;rename_i cs hx;split at h;rename_i v hv;exact .lk (LOp.extract hx hv) (frc_ok h);exact h;exact h
end
end Go.Proofs.YtbhhmbchdponjaaGreatDoor
namespace Go.Proofs.YtbhhmbchdponjaaGreatDoor
set_option linter.unusedVariables false
set_option linter.unusedSimpArgs false
open Go.RowKit
def cmpI (b:BinOp) (m n:Int):Option Bool:=match b with
 | .eql=>some (m==n)
 | .neq=>some (m != n)
 | .lss=>some (decide (m < n))
 | .leq=>some (decide (m≤n))
 | .gtr=>some (decide (m > n))
 | .geq=>some (decide (m≥n))
 | _=>none
def cmpT (b:BinOp) (s r:ByteArray):Option Bool:=match b with
 | .eql=>some (s.toList==r.toList)
 | .neq=>some (!(s.toList==r.toList))
 | .lss=>some (Op.bytesLess s.toList r.toList)
 | .leq=>some (Op.bytesLess s.toList r.toList||s.toList==r.toList)
 | .gtr=>some (!(Op.bytesLess s.toList r.toList||s.toList==r.toList))
 | .geq=>some (!Op.bytesLess s.toList r.toList)
 | _=>none
section
variable {P:Program} {X:Inf} {τ:Nat→AV} {η:Heap} {u:Nat} {k:KT} {d:Option Tmp} {ty:TypeId} {pos:String} {af:Array Edge} {g:Option (Nat×Bool)}
theorem LOp.cmpI {t t':TypeId} {b:BinOp} {x y:Operand} {m n:Int} {kk:IntKind} {v:Bool} (hx:aev τ x=.v (.int kk m)) (hy:aev τ y=.v (.int kk n)) (h:cmpI b m n=some v):LOp P ⟨d,.binOp b t x y t',ty,pos,af,g⟩ τ η [] [] (.v (.bool v)) :=
 .look [] fun C a hg hxs _=>⟨.bool v,by
  have e1:=hxs x (by simp [Op.operands]);have e2:=hxs y (by simp [Op.operands])
  rw [hx] at e1;rw [hy] at e2;have e1':=e1.v_inv
  have e2':=e2.v_inv;have hgd:∀ w:World,(eqGuard b t x y (.int kk m) (.int kk n)).run P w=.ok () w:=by intro w;unfold eqGuard;split <;> rfl
  have hb:∀ w:World,(Go.binOp b t (.int kk m) (.int kk n)).run P w=.ok (.bool v) w:=by
   intro w
   cases b <;> simp only [Go.Proofs.YtbhhmbchdponjaaGreatDoor.cmpI] at h <;> first
    | (cases h; done)
    | (obtain rfl:=Option.some.inj h; simp [Go.binOp,Op.intCmp])
  simp only [execOp,e1',e2',Sem.run_bind,hgd,Result.andThen_ok,hb];rfl,VR.v C _⟩
theorem LOp.cmpT {t t':TypeId} {b:BinOp} {x y:Operand} {m n:ByteArray} {v:Bool} (hx:aev τ x=.v (.string m)) (hy:aev τ y=.v (.string n)) (h:cmpT b m n=some v):LOp P ⟨d,.binOp b t x y t',ty,pos,af,g⟩ τ η [] [] (.v (.bool v)) :=
 .look [] fun C a hg hxs _=>⟨.bool v,by
  have e1:=hxs x (by simp [Op.operands]);have e2:=hxs y (by simp [Op.operands])
  rw [hx] at e1;rw [hy] at e2;have e1':=e1.v_inv
  have e2':=e2.v_inv;have hgd:∀ w:World,(eqGuard b t x y (.string m) (.string n)).run P w=.ok () w:=by intro w;unfold eqGuard;split <;> rfl
  have hb:∀ w:World,(Go.binOp b t (.string m) (.string n)).run P w=.ok (.bool v) w:=by
   intro w
   cases b <;> simp only [Go.Proofs.YtbhhmbchdponjaaGreatDoor.cmpT] at h <;> first
    | (cases h; done)
    | (obtain rfl:=Option.some.inj h; rfl)
  simp only [execOp,e1',e2',Sem.run_bind,hgd,Result.andThen_ok,hb];rfl,VR.v C _⟩
def binIS (P:Program) (o:Oper) (τ:Nat→AV) (η:Heap) (u:Nat) (b:BinOp) (m n:Int) (k:KT):Prop:=match cmpI b m n with
 | some v=>k [] [] (.v (.bool v)) u
 | none=>match b with
  | .add=>(-9223372036854775808≤m+n∧m+n≤9223372036854775807)∧k [] [] (.v (.int .i64 (m+n))) u
  | .sub=>(-9223372036854775808≤m - n∧m - n≤9223372036854775807)∧k [] [] (.v (.int .i64 (m - n))) u
  | _=>OpG P o τ η u k
def binTS (P:Program) (o:Oper) (τ:Nat→AV) (η:Heap) (u:Nat) (b:BinOp) (m n:ByteArray) (k:KT):Prop:=match cmpT b m n with
 | some v=>k [] [] (.v (.bool v)) u
 | none=>match b with
  | .add=>m.size+n.size≤9223372036854775807∧k [] [] (.v (.string (m++n))) u
  | _=>OpG P o τ η u k
def binBS (P:Program) (X:Inf) (o:Oper) (τ:Nat→AV) (η:Heap) (u:Nat) (b:BinOp) (t:Nat) (p q:Bool) (k:KT):Prop:=match look1 X.I t with
 | none=>OpG P o τ η u k
 | some i=>match i.und with
  | .bool=>match b with
   | .eql=>k [] [] (.v (.bool (p==q))) u
   | .neq=>k [] [] (.v (.bool (!(p==q)))) u
   | _=>OpG P o τ η u k
  | _=>OpG P o τ η u k
def binS (P:Program) (X:Inf) (o:Oper) (τ:Nat→AV) (η:Heap) (u:Nat) (b:BinOp) (t:Nat) (x y:Operand) (k:KT):Prop:=match aev τ x with
 | .v (.int .i64 m)=>match aev τ y with
  | .v (.int .i64 n)=>binIS P o τ η u b m n k
  | _=>OpG P o τ η u k
 | .v (.int .u8 m)=>match aev τ y with
  | .v (.int .u8 n)=>match cmpI b m n with
   | some v=>k [] [] (.v (.bool v)) u
   | none=>OpG P o τ η u k
  | _=>OpG P o τ η u k
 | .v (.string m)=>match aev τ y with
  | .v (.string n)=>binTS P o τ η u b m n k
  | _=>OpG P o τ η u k
 | .v (.bool p)=>match aev τ y with
  | .v (.bool q)=>binBS P X o τ η u b t p q k
  | _=>OpG P o τ η u k
 | _=>OpG P o τ η u k
theorem binS_ok (hX:X.Ok P) {t t':Nat} {b:BinOp} {x y:Operand} (h:binS P X ⟨d,.binOp b t x y t',ty,pos,af,g⟩ τ η u b t x y k):OpG P ⟨d,.binOp b t x y t',ty,pos,af,g⟩ τ η u k:=by unfold binS at h;split at h;rename_i m hx;split at h;rename_i n hy;unfold binIS at h;split at h;rename_i v hv;exact .lk (LOp.cmpI hx hy hv) h;split at h;exact .lk (lJ hx hy h.1.1 h.1.2) h.2;exact .lk (LOp.subI hx hy h.1.1 h.1.2) h.2;exact h;exact h;rename_i m hx;split at h;rename_i n hy;split at h;rename_i v hv;exact .lk (LOp.cmpI hx hy hv) h;exact h;exact h;rename_i m hx;split at h;rename_i n hy;unfold binTS at h;split at h;rename_i v hv;exact .lk (LOp.cmpT hx hy hv) h;split at h;exact .lk (LOp.addStr hx hy h.1) h.2;exact h;exact h;rename_i p hx;split at h;rename_i q hy;unfold binBS at h;split at h;exact h;rename_i i hi;obtain ⟨hI,rfl⟩:=look1_ok hX hi;split at h;rename_i hu;split at h;exact .lk (LOp.eqB hx hy (undK_bool (hI.und.trans hu))) h;exact .lk (LOp.neB hx hy (undK_bool (hI.und.trans hu))) h;exact h;exact h;exact h;exact h
def notS (P:Program) (o:Oper) (τ:Nat→AV) (η:Heap) (u:Nat) (x:Operand) (k:KT):Prop:=match aev τ x with
 | .v (.bool b)=>k [] [] (.v (.bool (!b))) u
 | _=>OpG P o τ η u k
theorem notS_ok {t:Nat} {x:Operand} (h:notS P ⟨d,.unOp .not t x,ty,pos,af,g⟩ τ η u x k):OpG P ⟨d,.unOp .not t x,ty,pos,af,g⟩ τ η u k:=by unfold notS at h;split at h;rename_i b hx;exact .lk (fastE_ok (by unfold fastE; simp only [hx])) h;exact h
def lenG (P:Program) (X:Inf) (o:Oper) (τ:Nat→AV) (η:Heap) (u:Nat) (t:Nat) (x:Operand) (k:KT):Prop:=match look1 X.I t with
 | none=>OpG P o τ η u k
 | some i=>match i.und with
  | .sl e=>match aev τ x with
   | .tree n xs=>LenG xs fun v=>k [] [] v u
   | .sl id ver off len=>match liveB η id ver with
    | some b=>k [id] [] (.v (.int .i64 ((len:Nat):Int))) u
    | none=>OpG P o τ η u k
   | .v (.slice none 0 0)=>k [] [] (.v (.int .i64 0)) u
   | _=>OpG P o τ η u k
  | .str=>match aev τ x with
   | .v (.string s)=>k [] [] (.v (.int .i64 ((s.size:Nat):Int))) u
   | _=>OpG P o τ η u k
  | _=>OpG P o τ η u k
theorem lenG_ok (hX:X.Ok P) {t:Nat} {x:Operand} {ats:Array TypeId} (ha:ats[0]? = some t) (h:lenG P X ⟨d,.call { callee:=.builtin .len,args:=#[x],argTypes:=ats },ty,pos,af,g⟩ τ η u t x k):OpG P ⟨d,.call { callee:=.builtin .len,args:=#[x],argTypes:=ats },ty,pos,af,g⟩ τ η u k:=by unfold lenG at h;split at h;exact h;rename_i i hi;obtain ⟨hI,rfl⟩:=look1_ok hX hi;split at h;rename_i e he;have hu:=undK_sl (hI.und.trans he);split at h;rename_i n xs hx;obtain ⟨h⟩:=h;exact .lk (lT (n:=n) (f:=fun r:List AV=>r) (l:=xs) ha hu (by rw [hx]; simp)) h;rename_i id ver off len hx;split at h;rename_i b hb;obtain ⟨h1,h2,h3⟩:=liveB_ok hb;exact .lk (LOp.lenS ha hu hx h1 h2) h;exact h;rename_i hx;exact .lk (LOp.lenNil ha hu hx) h;exact h;rename_i he;have hu:=undK_str (hI.und.trans he);split at h;rename_i s hx;exact .lk (LOp.lenStr ha hu hx) h;exact h;exact h
def memB (n:Nat):List Nat→Bool
 | []=>false
 | a :: r=>bif Nat.beq a n then true else memB n r
theorem memB_ok {n:Nat}:∀ {l:List Nat},memB n l=true→n∈l
 | [],h=>by cases h
 | a :: r,h=>by
  unfold memB at h
  cases hb:Nat.beq a n with
  | true=>rw [Nat.eq_of_beq_eq_true hb]; simp
  | false=>rw [hb] at h; exact List.mem_cons_of_mem _ (memB_ok h)
inductive ArgG (P:Program) (f:FuncId) (args:List AV) (k:AV→Prop):Prop
 | mk {R:AV→Prop} (h:PRet P f args R) (hp:pureL args=true) (hk:∀ ret,R ret→k ret):ArgG P f args k
def callS (P:Program) (X:Inf) (o:Oper) (τ:Nat→AV) (η:Heap) (u:Nat) (f:FuncId) (xs:List Operand) (k:KT):Prop :=
 bif memB f X.B then frcL (xs.map (aev τ)) fun ys=>ArgG P f ys fun v=>frc v fun v=>k [] [] v u else OpG P o τ η u k
theorem callS_ok (hX:X.Ok P) {f:FuncId} {xs:Array Operand} {ats:Array TypeId} (h:callS P X ⟨d,.call { callee:=.value (.func f),args:=xs,argTypes:=ats },ty,pos,af,g⟩ τ η u f xs.toList k):OpG P ⟨d,.call { callee:=.value (.func f),args:=xs,argTypes:=ats },ty,pos,af,g⟩ τ η u k:=by unfold callS at h;rcases cond_and h with ⟨hb,h⟩ | ⟨hb,h⟩;obtain ⟨⟨ret,hR,hc⟩,hp,hk⟩:=frcL_ok h;exact .lk (LOp.call (hX.B _ (memB_ok hb)) hp hc) (frc_ok (k:=fun v=>k [] [] v u) (hk ret hR));exact h
def keyO (o:Oper):Nat:=match o.dst with
 | some d=>d
 | none=>match o.op with
  | .store _ (.tmp q) _=>q+100000
  | _=>99999
def stepS (P:Program) (X:Inf) (cu:List Nat) (o:Oper) (τ:Nat→AV) (η:Heap) (u:Nat) (k:KT):Prop :=
 bif memB (keyO o) cu then OpG P o τ η u k else match o.op with
 | .move x=>frc (aev τ x) fun v=>k [] [] v u
 | .assign x=>frc (aev τ x) fun v=>k [] [] v u
 | .pick c x y=>pickS P o τ η u c x y k
 | .load t x=>loadS P X o τ η u t x k
 | .store t x y=>storeS P X o τ η u t x y k
 | .fieldAddr t x j=>fieldAS P X o τ η u t x j k
 | .indexAddr t x y=>indexAS P X o τ η u t x y k
 | .index t x y=>indexStrS P X o τ η u t x y k
 | .box t x=>newS P o τ η u (cellsO (aev τ x)) k
 | .alloc t=>allocS P X o τ η u t k
 | .build t parts=>buildS P X o τ η u t parts k
 | .buildSlice t len parts=>buildSlS P X o τ η u t len parts k
 | .nilCheck x=>nilS P o τ η u x k
 | .extract x j=>extractS P o τ η u x j k
 | .binOp b t x y _=>binS P X o τ η u b t x y k
 | .unOp .not _ x=>notS P o τ η u x k
 | .call ⟨.value (.func f),xs,_⟩=>callS P X o τ η u f xs.toList k
 | .call ⟨.builtin .len,⟨[x]⟩,ats⟩=>match ats[0]? with
  | some t=>lenG P X o τ η u t x k
  | none=>OpG P o τ η u k
 | _=>OpG P o τ η u k
theorem stepS_ok (hX:X.Ok P) {cu:List Nat} {o:Oper} (h:stepS P X cu o τ η u k):OpG P o τ η u k:=by obtain ⟨d,op,ty,pos,af,g⟩:=o;unfold stepS at h;rcases cond_and h with ⟨_,h⟩ | ⟨_,h⟩;exact h;simp only at h;split at h;exact .lk (LOp.move _) (frc_ok (k:=fun v=>k [] [] v u) h);exact .lk (LOp.assign _) (frc_ok (k:=fun v=>k [] [] v u) h);exact pickS_ok h;exact loadS_ok hX h;exact storeS_ok hX h;exact fieldAS_ok hX h;exact indexAS_ok hX h;exact indexStrS_ok hX h;exact boxS_ok h;exact allocS_ok hX h;exact buildS_ok hX h;exact buildSlS_ok hX h;exact nilS_ok h;exact extractS_ok h;exact binS_ok hX h;exact notS_ok h;exact callS_ok hX h;split at h;rename_i t ht;exact lenG_ok hX ht h;exact h;exact h
end
inductive GS where
 | no
 | on (q:Nat) (b:Bool)
 | bad
def gslot (ops:Array Oper) (o:Oper):GS:=match o.guard with
 | none=>.no
 | some (j,b)=>match (ops[j]?).bind (·.dst) with
  | some d=>.on d b
  | none=>.bad
abbrev KR:=List Rec→(Nat→AV)→Heap→Nat→Prop
def eqB':Bool→Bool→Bool
 | true,b=>b
 | false,b=>!b
def doneS (d:Option Tmp) (τ:Nat→AV) (η:Heap) (δ:List (Nat×Option Blk)) (v:AV) (u:Nat) (K:(Nat→AV)→Heap→Nat→Prop):Prop:=match d with
 | some d=>match δ with
  | []=>K (upd τ d v) η u
  | [(i,b)]=>K (upd τ d v) (η.set i b) u
  | δ=>K (upd τ d v) (η.put δ) u
 | none=>match δ with
  | []=>K τ η u
  | [(i,b)]=>K τ (η.set i b) u
  | δ=>K τ (η.put δ) u
theorem doneS_ok {d:Option Tmp} {τ:Nat→AV} {η:Heap} {δ:List (Nat×Option Blk)} {v:AV} {u:Nat} {K:(Nat→AV)→Heap→Nat→Prop} (h:doneS d τ η δ v u K):K (updO τ d v) (η.put δ) u:=by
 unfold doneS at h
 repeat' split at h
 all_goals exact h
inductive SpI (t:Bool) (A B:Prop):Prop
 | mk (ht:t=true→A) (hf:t=false→B):SpI t A B
theorem SpI.at {t:Bool} {A B:Prop} (h:SpI t A B):(t=true∧A)∨(t=false∧B):=by
 obtain ⟨h1,h2⟩:=h
 cases t with
 | true=>exact .inl ⟨rfl,h1 rfl⟩
 | false=>exact .inr ⟨rfl,h2 rfl⟩
theorem cB {t:Bool} {A B:Prop} (ht:t=true→A) (hf:t=false→B):SpI t A B:=⟨ht,hf⟩
theorem cT {A B:Prop} (h:A):SpI true A B:=⟨fun _=>h,fun e=>Bool.noConfusion e⟩
theorem cF {A B:Prop} (h:B):SpI false A B:=⟨fun e=>Bool.noConfusion e,fun _=>h⟩
abbrev KV:=List Nat→KR→(Nat→AV)→Heap→Nat→Prop
def goV (P:Program) (X:Inf) (cu:List Nat) (o:Oper) (ih:KV) (kn:List Nat) (K:KR) (τ:Nat→AV) (η:Heap) (u:Nat):Prop :=
 stepS P X cu o τ η u fun fp δ v u'=>doneS o.dst τ η δ v u' (ih kn fun rs=>K (⟨fp,δ,v,u'⟩ :: rs))
def skV (o:Oper) (ih:KV) (kn:List Nat) (K:KR) (τ:Nat→AV) (η:Heap) (u:Nat):Prop :=
 doneS o.dst τ η [] (.v undef) u (ih kn fun rs=>K (⟨[],[],.v undef,u⟩ :: rs))
def opV (P:Program) (X:Inf) (cu:List Nat) (ops:Array Oper) (o:Oper) (ih:KV):KV:=fun kn K τ η u=>match gslot ops o with
 | .no=>goV P X cu o ih kn K τ η u
 | .on q b=>match τ q with
  | .v (.bool c)=>cond (memB q kn) (cond (eqB' b c) (goV P X cu o ih kn K τ η u) (skV o ih kn K τ η u))
   (SpI c
    (cond b (goV P X cu o ih (q :: kn) K (upd τ q (.v (.bool true))) η u) (skV o ih (q :: kn) K (upd τ q (.v (.bool true))) η u))
    (cond b (skV o ih (q :: kn) K (upd τ q (.v (.bool false))) η u) (goV P X cu o ih (q :: kn) K (upd τ q (.v (.bool false))) η u)))
  | .v (.tuple _)=>skV o ih kn K τ η u
  | _=>False
 | .bad=>False
noncomputable def vcOps (P:Program) (X:Inf) (cu:List Nat) (ops:Array Oper) (l:List Oper):KV :=
 List.rec (motive:=fun _=>KV) (fun kn K τ η u=>K [] τ η u) (fun o _ ih=>opV P X cu ops o ih) l
section
variable {P:Program} {X:Inf} {cu:List Nat} {N:Nat} {ops:Array Oper}
theorem vc_go {o:Oper} {l:List Oper} {K:KR} {τ:Nat→AV} {η:Heap} {u:Nat} (hX:X.Ok P) (hd:dstOk N ops o=true) (hw:want ops τ o=some true)
 {kn:List Nat} (ih:∀ (kn:List Nat) (K:KR) τ η u,vcOps P X cu ops l kn K τ η u→SeqC P N ops l (fun rs s=>K rs s.τ s.η s.u) ⟨τ,η,u⟩)
 (h:goV P X cu o (vcOps P X cu ops l) kn K τ η u):SeqC P N ops (o :: l) (fun rs s=>K rs s.τ s.η s.u) ⟨τ,η,u⟩:=by
 obtain ⟨fp,δ,v,u',hL,hu,hn,h⟩:=stepS_ok hX h
 obtain ⟨rs,s',h1,h2⟩:=ih _ _ _ _ _ (doneS_ok h)
 exact ⟨_,s',Seq.op (s:=⟨τ,η,u⟩) u' hL hw hd hu hn h1,h2⟩
theorem vc_skip {o:Oper} {l:List Oper} {K:KR} {τ:Nat→AV} {η:Heap} {u:Nat} (hd:dstOk N ops o=true) (hw:want ops τ o=some false)
 {kn:List Nat} (ih:∀ (kn:List Nat) (K:KR) τ η u,vcOps P X cu ops l kn K τ η u→SeqC P N ops l (fun rs s=>K rs s.τ s.η s.u) ⟨τ,η,u⟩)
 (h:skV o (vcOps P X cu ops l) kn K τ η u):SeqC P N ops (o :: l) (fun rs s=>K rs s.τ s.η s.u) ⟨τ,η,u⟩:=by
 obtain ⟨rs,s',h1,h2⟩:=ih _ _ _ _ _ (doneS_ok h)
 exact ⟨_,s',Seq.skip (s:=⟨τ,η,u⟩) hw hd h1,h2⟩
theorem vcOps_ok (hX:X.Ok P):∀ (l:List Oper) (_:l.all (dstOk N ops)=true) (kn:List Nat) (K:KR) (τ:Nat→AV) (η:Heap) (u:Nat),vcOps P X cu ops l kn K τ η u→SeqC P N ops l (fun rs s=>K rs s.τ s.η s.u) ⟨τ,η,u⟩
 | [],_,kn,K,τ,η,u,h=>⟨[],_,.nil,h⟩
 | o :: l,hall,kn,K,τ,η,u,h=>by
  rw [List.all_cons,Bool.and_eq_true] at hall;have ih:=vcOps_ok hX l hall.2
  have h:opV P X cu ops o (vcOps P X cu ops l) kn K τ η u:=h;unfold opV at h;split at h;rename_i hg;refine vc_go hX hall.1 ?_ ih h;unfold gslot at hg;unfold want;split at hg;rename_i e;rw [e];split at hg <;> cases hg;rename_i q b hg
  have hwant:∀ (τ':Nat→AV) c,τ' q=.v (.bool c)→want ops τ' o=some (c==b):=by
   intro τ' c hc;unfold gslot at hg;unfold want;split at hg;cases hg;rename_i j b' e;split at hg;rename_i d' e2;cases hg;rw [e];simp only [e2,hc];cases hg
  split at h;rename_i c hc;have hup:=upd_self hc
  have hw:=hwant τ c hc;rcases cond_and h with ⟨_,h⟩ | ⟨_,h⟩;rcases cond_and h with ⟨e,h'⟩ | ⟨e,h'⟩;exact vc_go hX hall.1 (by rw [hw]; cases b <;> cases c <;> first | rfl | cases e) ih h';exact vc_skip hall.1 (by rw [hw]; cases b <;> cases c <;> first | rfl | cases e) ih h';rcases h.at with ⟨rfl,h'⟩ | ⟨rfl,h'⟩;rw [hup] at h';rcases cond_and h' with ⟨e,h''⟩ | ⟨e,h''⟩;exact vc_go hX hall.1 (by rw [hw,e]; rfl) ih h'';exact vc_skip hall.1 (by rw [hw,e]; rfl) ih h'';rw [hup] at h';rcases cond_and h' with ⟨e,h''⟩ | ⟨e,h''⟩;exact vc_skip hall.1 (by rw [hw,e]; rfl) ih h'';exact vc_go hX hall.1 (by rw [hw,e]; rfl) ih h'';rename_i c hc;refine vc_skip hall.1 ?_ ih h;unfold gslot at hg;unfold want;split at hg;cases hg;rename_i j b' e;split at hg;rename_i d' e2;cases hg;rw [e];simp only [e2,hc];cases hg;exact h.elim;exact h.elim
def codeOk (N:Nat):Code→Bool
 | .region _ ops _=>ops.toList.all (dstOk N ops)
 | .seq a b=>codeOk N a&&codeOk N b
 | .cond _ a b=>codeOk N a&&codeOk N b
 | .block _ c=>codeOk N c
 | .loop c=>codeOk N c
 | _=>true
inductive LpG (P:Program) (X:Inf) (N:Nat) (cu st:List Nat) (c:Code) (Q:Exit→St→Prop) (s:St):Prop
 | mk (h:X.Ok P→codeOk N c=true→EWP P N (.loop c) Q s):LpG P X N cu st c Q s
inductive RegG (P:Program) (X:Inf) (N:Nat) (cu st:List Nat) (id:Nat) (ops:Array Oper) (dr:Bool) (Q:Exit→St→Prop) (s:St):Prop
 | mk (h:X.Ok P→ops.toList.all (dstOk N ops)=true→EWP P N (.region id ops dr) Q s):RegG P X N cu st id ops dr Q s
def vcReg (P:Program) (X:Inf) (cu:List Nat) (ops:Array Oper) (dr:Bool) (Q:Exit→St→Prop) (s:St):Prop:=match s with
 | ⟨τ,η,u⟩=>match ops with
  | ⟨l⟩=>match dr with
   | false=>vcOps P X cu l.toArray l [] (fun _ τ η u=>Q .normal ⟨τ,η,u⟩) τ η u
   | true=>vcOps P X cu l.toArray l [] (fun rs τ η u=>checkR l.toArray rs=true∧Q .normal ⟨τ,η,u⟩) τ η u
theorem vcReg_ok {id:Nat} {dr:Bool} {Q:Exit→St→Prop} {s:St} (hX:X.Ok P) (hd:ops.toList.all (dstOk N ops)=true) (h:vcReg P X cu ops dr Q s):EWP P N (.region id ops dr) Q s:=by
 obtain ⟨τ,η,u⟩:=s
 obtain ⟨l⟩:=ops
 unfold vcReg at h
 cases dr with
 | false=>exact EWP.region (vcOps_ok hX l hd _ _ _ _ _ h)
 | true=>exact EWP.regD hX.m (vcOps_ok hX l hd _ _ _ _ _ h)
abbrev KC:=(Exit→St→Prop)→St→Prop
def condV (c:Operand) (a b:KC):KC:=fun Q s=>match aev s.τ c with
 | .v (.bool t)=>SpI t (a Q s) (b Q s)
 | _=>False
def regV (P:Program) (X:Inf) (N:Nat) (cu st:List Nat) (id:Nat) (ops:Array Oper) (dr:Bool):KC:=fun Q s=>bif memB id st then RegG P X N cu st id ops dr Q s else vcReg P X cu ops dr Q s
noncomputable def vc (P:Program) (X:Inf) (N:Nat) (cu st:List Nat) (c:Code):KC :=
 Code.rec (motive:=fun _=>KC) (fun Q s=>Q .normal s) (fun id ops dr=>regV P X N cu st id ops dr) (fun _ _ a b Q s=>a (andThen (b Q) Q) s) (fun c _ _ a b=>condV c a b) (fun id _ c Q s=>c (inBlk id Q) s)
  (fun c _ Q s=>LpG P X N cu st c Q s) (fun _ _ _ _ _ _ _ _=>False) (fun id Q s=>Q (.exit id) s) (fun _ _ _ _=>False) (fun _ _ _=>False) (fun _ _ _=>False) (fun Q s=>Q .ret s) (fun _ _ _=>False) c
variable {st:List Nat}
theorem vc_ok (hX:X.Ok P):∀ (c:Code) (Q:Exit→St→Prop) (s:St),codeOk N c=true→vc P X N cu st c Q s→EWP P N c Q s:=by
 intro c
 induction c with
 | skip=>exact fun Q s _ h=>EWP.skip h
 | exit id=>exact fun Q s _ h=>EWP.exit h
 | ret=>exact fun Q s _ h=>EWP.ret h
 | seq a b iha ihb=>
  intro Q s hd h
  rw [codeOk,Bool.and_eq_true] at hd
  refine EWP.seq (EWP.mono (iha _ _ hd.1 h) fun e s' h=>?_)
  cases e with
  | normal=>exact ihb _ _ hd.2 h
  | _=>exact h
 | block id c ih=>exact fun Q s hd h=>EWP.block (ih _ _ hd h)
 | cond c a b iha ihb=>
  intro Q s hd h
  rw [codeOk,Bool.and_eq_true] at hd
  have h:condV c (vc P X N cu st a) (vc P X N cu st b) Q s:=h
  unfold condV at h
  split at h
  ·rename_i t ht
   refine EWP.cond ht (fun e=>?_) (fun e=>?_)
   ·exact iha _ _ hd.1 (h.1 e)
   ·exact ihb _ _ hd.2 (h.2 e)
  ·exact h.elim
 | loop c ih=>exact fun Q s hd h=>h.1 hX hd
 | region id ops dr=>
  intro Q s hd h
  have h:regV P X N cu st id ops dr Q s:=h
  unfold regV at h
  rcases cond_and h with ⟨_,h⟩ | ⟨_,h⟩
  ·exact h.1 hX hd
  ·exact vcReg_ok hX hd h
 | _=>intro Q s hd h; exact h.elim
theorem LpG.via {c:Code} {Q:Exit→St→Prop} {s s2:St} (hv:∀ Q,AWP P N (.loop c) Q s2→AWP P N (.loop c) Q s) (h:LpG P X N cu st c Q s2):LpG P X N cu st c Q s:=⟨fun hX hd=>EWP.via hv (h.1 hX hd)⟩
theorem LpG.loop {c:Code} {Q:Exit→St→Prop} {s:St} (I:Nat→St→Prop) {n:Nat} {s1:St} (hc:Canon s s1) (h0:I n s1) (hI:∀ n s,I n s→vc P X N cu st c (andThen (fun s'=>∃ m s1,m < n∧Canon s' s1∧I m s1) Q) s):LpG P X N cu st c Q s :=
 ⟨fun hX hd=>EWP.loopC I hc h0 fun n s hi=>vc_ok hX c _ _ hd (hI n s hi)⟩
theorem RegG.via {id:Nat} {dr:Bool} {Q:Exit→St→Prop} {s s2:St} (hv:∀ Q,AWP P N (.region id ops dr) Q s2→AWP P N (.region id ops dr) Q s) (h:RegG P X N cu st id ops dr Q s2):RegG P X N cu st id ops dr Q s:=⟨fun hX hd=>EWP.via hv (h.1 hX hd)⟩
theorem RegG.go {id:Nat} {dr:Bool} {Q:Exit→St→Prop} {s:St} (h:vcReg P X cu ops dr Q s):RegG P X N cu st id ops dr Q s:=⟨fun hX hd=>vcReg_ok hX hd h⟩
theorem PRet.of_vc {f:FuncId} {fn:Func} {c:Code} {args:List AV} {R:AV→Prop} (hX:X.Ok P) (cu st:List Nat) (hf:P.funcs[f]? = some fn) (hb:fn.body=some c) (hN:fn.ntmps=N) (hl:Nat.ble args.length N=true) (hc:codeOk N c=true)
 (h:vc P X N cu st c (fun e s'=>(e=.normal∨e=.ret)∧∃ ret,Outs P N fn s' ret∧R ret) ⟨frameOf args,noHeap,0⟩):PRet P f args R :=
 PRet.of_body hf hb hN (Nat.le_of_ble_eq_true hl) (vc_ok hX c _ _ hc h)
theorem PRet.eq {f:FuncId} {args:List AV} {ret:AV} (h:PRet P f args (fun r=>r=ret)):PCall P f args ret:=by obtain ⟨_,rfl,h⟩:=h;exact h
theorem PRet.of_call {f:FuncId} {args:List AV} {ret:AV} (h:PCall P f args ret):PRet P f args (fun r=>r=ret):=⟨_,rfl,h⟩
end
end Go.Proofs.YtbhhmbchdponjaaGreatDoor
namespace Go.Proofs.YtbhhmbchdponjaaGreatDoor
set_option linter.unusedVariables false
set_option linter.unusedSimpArgs false
open Go.RowKit
section
variable {P:Program} {X:Inf} {N:Nat}
theorem HRet.of_vc {f:FuncId} {fn:Func} {c:Code} {args:List AV} {hb:List (Nat×Blk)} {hb':List (Nat×Option Blk)} {R:AV→Prop} (hX:X.Ok P) (cu st:List Nat) (hf:P.funcs[f]? = some fn) (hbo:fn.body=some c) (hN:fn.ntmps=N) (hl:Nat.ble args.length N=true) (hc:codeOk N c=true)
 (h:vc P X N cu st c (fun e s'=>(e=.normal∨e=.ret)∧∃ ret,OutsH P N fn s' hb' ret∧R ret) ⟨frameOf args,hLz hb,0⟩):HRet P f args hb hb' R :=
 HRet.of_body hf hbo hN (Nat.le_of_ble_eq_true hl) (vc_ok hX c _ _ hc h)
end
end Go.Proofs.YtbhhmbchdponjaaGreatDoor
namespace Go.Proofs.YtbhhmbchdponjaaGreatDoor
set_option linter.unusedVariables false
set_option linter.unusedSimpArgs false
open Go.RowKit
theorem takeN_self:∀ l:List AV,takeN l.length l=some l
 | []=>rfl
 | a :: l=>by simp only [List.length_cons,takeN,takeN_self l]
section
variable {P:Program} {τ:Nat→AV} {η:Heap} {d:Option Tmp} {ty:TypeId} {pos:String} {af:Array Edge} {g:Option (Nat×Bool)} {α:Type} {f:α→List AV} {q:Nat}
theorem LOp.fzN {o:Oper} {u:Nat} {b:Blk} {v v':AV} (h:LOp P o τ η [] [(u,some b)] v) (hf:∀ η':Heap,η' u=some b→FzP [u] η' v v'):LOp P o τ η [] [(u,none)] v':=by
 intro C a hg hxs hfp hn K Q hK;refine h C a hg hxs hfp (fun p hp hq=>by rw [List.mem_singleton] at hp;subst hp;exact hn (u,none) (by simp) hq) K Q fun x C1 h1 h2 h3 h4 h5=>?_;have hub:C1.η u=some b:=by rw [h1]; exact Heap.set_same _ _ _
 let C':Ctx:={ C1 with η:=C.η.put [(u,none)],T:=fun k=>C1.T k∨C1.mineOf [u] k }
 have hold:∀ {i b'},C'.η i=some b'→C1.η i=some b'∧i≠u:=by
  intro i b' hb;have hb:(C.η.set u none) i=some b':=hb
  by_cases e:i=u;subst e;rw [Heap.set_same] at hb;cases hb;refine ⟨?_,e⟩;rw [h1];show (C.η.set u (some b)) i=some b'
  rw [Heap.set_other _ _ e] at hb ⊢;exact hb
 have hvr:∀ {a:AV} {x:Value},VR C1 a x→VR C' a x:=fun hv=>VR.shift (C:=C1) (C':=C') rfl rfl rfl rfl (fun b hb=>.inl hb) h3.used (fun id b' hb=>⟨b',(hold hb).1,rfl,rfl,rfl,rfl⟩) hv;have hlive:∀ {i},C'.live i→C1.live i∧i≠u:=by rintro i ⟨b',hb1,hk⟩;exact ⟨⟨b',(hold hb1).1,hk⟩,(hold hb1).2⟩
 have hg':Good C':=by
  refine ⟨fun h=>h3.used (hold h).1,by intro i b' hb1 hk;obtain ⟨o,g1,g2⟩:=h3.obj (hold hb1).1 hk;exact ⟨o,g1,ObjR.shift hvr g2⟩,by intro i b' hb1 hn';obtain ⟨c,t,g1,g2,g3,g4⟩:=h3.blk (hold hb1).1 hn';exact ⟨c,t,g1,g2,g3,fun j hj hj'=>hvr (g4 j hj hj')⟩,fun hi hj e=>h3.inj (hlive hi).1 (hlive hj).1 e,?_,?_,fun h hv hn=>h3.tight (hold h).1 hv hn⟩;refine h3.tokT (fun _ h=>.inl h) ?_;rintro k (hk | hk);exact h3.tlt hk;exact Ctx.mine_lt h3 (Ctx.mineOf_mine hk);rintro k ⟨i,hl',hk⟩ (hT | ⟨i',hi',hl'',e⟩);exact h3.apart ⟨i,(hlive hl').1,hk⟩ hT;have e2:i'=i:=h3.inj hl'' (hlive hl').1 (e.trans hk.symm)
  rw [List.mem_singleton] at hi';exact (hlive hl').2 (e2 ▸ hi')
 have hev:Ev C C':=⟨⟨h4.os,h4.tape,h4.output,h4.size,h4.keep,fun k ⟨i,q1,q2⟩=>h4.mine k ⟨i,(hlive q1).1,q2⟩,fun k h=>.inl (h4.T k h),fun k h=>h.elim (fun h=>h4.Tnew k h) (fun h=>.inr (h4.mine k (Ctx.mineOf_mine h)))⟩,h4.U,fun id b' hU hb=>h4.old id b' hU (hold hb).1⟩;exact hK x C' rfl (fun id=>by rw [show C'.U=C1.U from rfl,h2]; simp) hg' hev (.imm (hf C1.η hub C1 h3 (fun _ _=>rfl) x h5))
end
end Go.Proofs.YtbhhmbchdponjaaGreatDoor
namespace Go.Proofs.YtbhhmbchdponjaaGreatDoor
set_option linter.unusedVariables false
set_option linter.unusedSimpArgs false
open Go.RowKit
section
variable {A B:Prop}
theorem cE {a b:Int} (ht:a=b→A) (hf:¬ a=b→B):SpI (a==b) A B:=⟨fun h=>ht (beq_iff_eq.1 h),fun h=>hf (fun e=>by rw [e,beq_self_eq_true] at h; cases h)⟩
theorem cN {a b:Int} (ht:¬ a=b→A) (hf:a=b→B):SpI (a != b) A B:=⟨fun h=>ht (fun e=>by rw [e,bne_self_eq_false] at h; cases h),fun h=>hf (by simpa using h)⟩
theorem cD {p:Prop} [Decidable p] (ht:p→A) (hf:¬ p→B):SpI (decide p) A B:=⟨fun h=>ht (of_decide_eq_true h),fun h=>hf (of_decide_eq_false h)⟩
theorem cL {m n:Nat} (ht:m < n→A) (hf:¬ m < n→B):SpI (decide (((m:Nat):Int) < ((n:Nat):Int))) A B:=⟨fun h=>ht (Int.ofNat_lt.1 (of_decide_eq_true h)),fun h=>hf (fun e=>of_decide_eq_false h (Int.ofNat_lt.2 e))⟩
theorem bF {p:Prop}:∃ b:Bool,AV.v (.bool false)=.v (.bool b)∧(b=true→p):=⟨_,rfl,fun h=>absurd h Bool.false_ne_true⟩
end
section
variable {P:Program} {X:Inf} {N:Nat} {cu st:List Nat}
theorem rV {fn:Func} {t:Nat} {s:St} {R:AV→Prop} (hr:fn.results=#[.tmp t]) (hp:(s.τ t).pureB=true) (h:R (s.τ t)):((Exit.ret:Exit)=.normal∨(Exit.ret:Exit)=.ret)∧∃ ret,Outs P N fn s ret∧R ret:=⟨.inr rfl,_,oV hr rfl hp rfl,h⟩
theorem LpG.on {α:Type} {c:Code} {Q:Exit→St→Prop} {s:St} (S:α→St) (M:α→Nat) (J:α→Prop) (a:α) (hc:Canon s (S a)) (h0:J a) (hI:∀ k,J k→vc P X N cu st c (andThen (fun s'=>∃ k',M k' < M k∧Canon s' (S k')∧J k') Q) (S k)):LpG P X N cu st c Q s :=
 ⟨fun hX hd=>EWP.loopC (fun m s1=>∃ k,m=M k∧s1=S k∧J k) hc ⟨a,rfl,rfl,h0⟩ fun n s hi=>by
  obtain ⟨k,rfl,rfl,hj⟩:=hi;refine EWP.mono (vc_ok hX c _ _ hd (hI k hj)) fun e s' h=>?_;cases e with
  | normal=>
   obtain ⟨k',h1,h2,h3⟩:=h
   exact ⟨_,_,h1,h2,k',rfl,rfl,h3⟩
  | _=>exact h⟩
end
end Go.Proofs.YtbhhmbchdponjaaGreatDoor
namespace Go.Proofs.YtbhhmbchdponjaaGreatDoor
set_option linter.unusedVariables false
set_option linter.unusedSimpArgs false
open Go.RowKit
section
variable {P:Program} {τ:Nat→AV} {η:Heap} {d:Option Tmp} {ty:TypeId} {pos:String} {af:Array Edge} {g:Option (Nat×Bool)}
theorem LOp.callVH {g0:Operand} {f:FuncId} {caps:List AV} {xs:Array Operand} {ats:Array TypeId} {args:List AV} {hb:List (Nat×Blk)} {hb':List (Nat×Option Blk)} {ret r:AV} {fp:List Nat} {δ:List (Nat×Option Blk)} (m:List (Nat×Nat)) (hbd:bodied P f=true) (hc:HCall P f args hb hb' ret)
 (hg0:aev τ g0=.clo f caps)
 (hm:m.map (·.1)=hb'.map (·.1)) (h1:nodupB (m.map (·.1))=true) (h2:nodupB (m.map (·.2))=true) (hsub:hb.all (fun p=>Nat.ble TOP p.1&&(m.map (·.1)).contains p.1)=true)
 (hη:allP (fun p=>η (gOf m p.1)=some (p.2.ren (gOf m))) hb) (hok:allP (fun p=>okBlk (hb.map (·.1)) p.2) hb) (hok':allP (fun p=>okO (m.map (·.1)) p.2) hb') (hargs:inL (hb.map (·.1)) args=true) (hret:ret.inB (m.map (·.1))=true)
 (hxs:xs.toList.map (aev τ)++caps=renL (gOf m) args) (hfp:(hb.map fun p=>gOf m p.1)=fp) (hδ:deltaH m hb'=δ) (hr:ret.ren (gOf m)=r) :
 LOp P ⟨d,.call { callee:=.value g0,args:=xs,argTypes:=ats },ty,pos,af,g⟩ τ η fp δ r:=by
 subst hfp hδ hr
 refine LOp.of_callH m hc hm h1 h2 hsub hη hok hok' hargs hret fun C a hg hx=>?_
 have h0:=hx g0 (by simp [Op.operands,Call.operands])
 rw [hg0] at h0
 obtain ⟨vs,hv,hl,hi⟩:=h0.clo_inv
 refine ⟨xs.map a.eval++vs,?_,?_⟩
 ·rw [← hxs]
  refine ⟨by simp [hl],fun i h h'=>?_⟩
  by_cases hlx:i < xs.size
  ·have e1:(xs.toList.map (aev τ)++caps)[i]=aev τ xs[i]:=by
    rw [List.getElem_append_left (by simpa using hlx)]; simp
   have e2:(xs.map a.eval++vs)[i]=a.eval xs[i]:=by
    rw [Array.getElem_append_left (by simpa using hlx)]; simp
   rw [e1,e2]
   exact hx _ (by simp [Op.operands,Call.operands])
  ·have e1:(xs.toList.map (aev τ)++caps)[i]=caps[i - xs.size]'(by simp at h; omega):=by
    rw [List.getElem_append_right (by simpa using hlx)]; simp
   have e2:(xs.map a.eval++vs)[i]=vs[i - xs.size]'(by simp at h'; omega):=by
    rw [Array.getElem_append_right (by simpa using hlx)]; simp
   rw [e1,e2]
   exact hi _ _ _
 ·have e:(execOp a.eval ⟨d,.call { callee:=.value g0,args:=xs,argTypes:=ats },ty,pos,af,g⟩).run P C.w=(callFunc f (#[]++xs.map a.eval++vs)).run P C.w:=by
   have e0:execOp a.eval ⟨d,.call { callee:=.value g0,args:=xs,argTypes:=ats },ty,pos,af,g⟩=(do let dd ← Deferred.ofValue (a.eval g0) (xs.map a.eval); invoke dd.target dd.args):=rfl
   rw [e0,hv]
   rfl
  rw [e,run_callFunc' hbd]
  simp
end
end Go.Proofs.YtbhhmbchdponjaaGreatDoor
namespace Go.Proofs.YtbhhmbchdponjaaGreatDoor
set_option linter.unusedVariables false
set_option linter.unusedSimpArgs false
open Go.RowKit
section
variable {P:Program} {τ:Nat→AV} {η:Heap} {d:Option Tmp} {ty:TypeId} {pos:String} {af:Array Edge} {g:Option (Nat×Bool)}
theorem LOp.mkFn0 {f:FuncId} {caps:Array Operand} {cs:List AV} (h:caps.toList.map (aev τ)=cs):LOp P ⟨d,.makeFunc (.func f) #[] caps,ty,pos,af,g⟩ τ η [] [] (.clo f cs):=by subst h;exact LOp.makeFunc
end
end Go.Proofs.YtbhhmbchdponjaaGreatDoor
namespace Go.Proofs.YtbhhmbchdponjaaGreatDoor
set_option linter.unusedVariables false
set_option linter.unusedSimpArgs false
open Go.RowKit
section
variable {P:Program} {τ:Nat→AV} {η:Heap} {d:Option Tmp} {ty:TypeId} {pos:String} {af:Array Edge} {g:Option (Nat×Bool)}
theorem LOp.indexArrS {t len e n j o id ver:Nat} {x i:Operand} {k:IntKind} {b:Blk} (hu:P.underlying t=some (.array len e)) (hs:sizeInfo P e=some n) (hx:aev τ x=.ptr id ver o) (hi:aev τ i=.v (.int k (Int.ofNat j))) (hj:Nat.blt j len=true) (hb:η id=some b) (hv:b.ver=ver) (hn:b.nilp=false) :
 LOp P ⟨d,.indexAddr t x i,ty,pos,af,g⟩ τ η [id] [] (.ptr id ver (o+j * n)) :=
 indexArrE_ok (u:=0) (r:=⟨[id],[],.ptr id ver (o+j * n),0⟩) (by unfold indexArrE; rw [hu]; simp only [hs,hi,hx,hj,cond_true,liveB,hb,hv,hn,Nat.beq_refl,Bool.not_false,Bool.and_true,cond_true])
end
end Go.Proofs.YtbhhmbchdponjaaGreatDoor
namespace Go.Proofs.YtbhhmbchdponjaaGreatDoor
set_option linter.unusedVariables false
set_option linter.unusedSimpArgs false
open Go.RowKit
section
variable {P:Program} {τ:Nat→AV} {η:Heap} {d:Option Tmp} {ty:TypeId} {pos:String} {af:Array Edge} {g:Option (Nat×Bool)}
end
end Go.Proofs.YtbhhmbchdponjaaGreatDoor
namespace Go.Proofs.YtbhhmbchdponjaaGreatDoor
set_option linter.unusedVariables false
set_option linter.unusedSimpArgs false
open Go.RowKit
section
variable {α:Type} {f:α→List AV} {q:Nat} {l:List α} {k o:Nat}
end
section
variable {P:Program} {τ:Nat→AV} {η:Heap} {d:Option Tmp} {ty:TypeId} {pos:String} {af:Array Edge} {g:Option (Nat×Bool)} {α:Type} {f:α→List AV} {q:Nat} {L:List α} {k o:Nat}
end
end Go.Proofs.YtbhhmbchdponjaaGreatDoor
namespace Go.Proofs.YtbhhmbchdponjaaGreatDoor
set_option linter.unusedVariables false
set_option linter.unusedSimpArgs false
open Go.RowKit
def HRetX (P:Program) (f:FuncId) (args:List AV) (hb:List (Nat×Blk)) (R:AV→List (Nat×Option Blk)→Prop):Prop:=∃ ret hb',R ret hb'∧HCall P f args hb hb' ret
theorem HRetX.of_vc {P:Program} {X:Inf} {N:Nat} {f:FuncId} {fn:Func} {c:Code} {args:List AV} {hb:List (Nat×Blk)} {R:AV→List (Nat×Option Blk)→Prop} (hX:X.Ok P) (cu st:List Nat) (hf:P.funcs[f]? = some fn) (hbo:fn.body=some c) (hN:fn.ntmps=N) (hl:Nat.ble args.length N=true) (hc:codeOk N c=true)
 (h:vc P X N cu st c (fun e s'=>(e=.normal∨e=.ret)∧∃ ret hb',OutsH P N fn s' hb' ret∧R ret hb') ⟨frameOf args,hLz hb,0⟩):HRetX P f args hb R:=by
 obtain ⟨e,s',⟨he,ret,hb',ho,hR⟩,h2⟩:=vc_ok hX c _ _ hc h
 refine ⟨ret,hb',hR,HCall.of_body hf hbo hN (Nat.le_of_ble_eq_true hl) (AWP.mono h2 ?_)⟩
 rintro e1 s1 ⟨rfl,rfl⟩
 exact ⟨he,ho⟩
end Go.Proofs.YtbhhmbchdponjaaGreatDoor
namespace Go.Proofs.YtbhhmbchdponjaaGreatDoor
set_option linter.unusedVariables false
set_option linter.unusedSimpArgs false
open Go.RowKit
section
variable {P:Program} {τ:Nat→AV} {η:Heap} {d:Option Tmp} {ty:TypeId} {pos:String} {af:Array Edge} {g:Option (Nat×Bool)}
end
end Go.Proofs.YtbhhmbchdponjaaGreatDoor
namespace Go.Proofs.YtbhhmbchdponjaaGreatDoor
set_option linter.unusedVariables false
set_option linter.unusedSimpArgs false
open Go.RowKit
section
variable {s:St} {fl:List (Nat×AV)} {hl:List (Nat×Blk)} {u:Nat}
end
section
variable {P:Program} {N:Nat} {fn:Func} {s:St} {R:AV→Prop} {t t2 ty n id v z:Nat} {cs:List AV} {ret:AV}
end
section
variable {P:Program} {τ:Nat→AV} {η:Heap} {d:Option Tmp} {ty:TypeId} {pos:String} {af:Array Edge} {g:Option (Nat×Bool)} {k:KT} {u:Nat}
end
end Go.Proofs.YtbhhmbchdponjaaGreatDoor
namespace Go.Proofs.YtbhhmbchdponjaaGreatDoor
set_option linter.unusedVariables false
set_option linter.unusedSimpArgs false
open Go.RowKit
section
variable {P:Program} {τ:Nat→AV} {η:Heap} {d:Option Tmp} {ty:TypeId} {pos:String} {af:Array Edge} {g:Option (Nat×Bool)}
theorem LOp.makeV (u:Nat) {t e len by_:Nat} {z:Value} {x y:Operand} {v:Int} (he:P.underlying t=some (.slice e)) (hs:sizeInfo P e=some 1) (hz:zeroOf P e=some z) (hby:(P.info? e).map (·.bytes)=some by_)
 (hx:aev τ x=.v (.int .i64 v)) (hy:aev τ y=.v (.int .i64 v)) (hv:v=((len:Nat):Int)) (hl:by_ * len≤140737488355328) (hl2:len≤140737488355328) (h0:len≠0) :
 LOp P ⟨d,.makeSlice t x y,ty,pos,af,g⟩ τ η [] [(u,some ⟨0,zerosA z (len * 1),1,false⟩)] (.sl u 0 0 len):=by
 subst hv
 intro C a hg hxs _ hnew K Q hK
 have hu:¬ C.U u:=hnew (u,some ⟨0,zerosA z (len * 1),1,false⟩) (by simp) (by simp)
 have e1:=hxs x (by simp [Op.operands])
 have e2:=hxs y (by simp [Op.operands])
 rw [hx] at e1
 rw [hy] at e2
 unfold sizeInfo at hs
 unfold zeroOf at hz
 cases hi:P.info? e with
 | none=>rw [hi] at hz; cases hz
 | some inf=>
  rw [hi] at hz hs hby
  simp only [Option.bind_some] at hz
  simp only [Option.map_some,Option.some.injEq] at hs hby
  let es:Array Value:=(Array.range (len * inf.size)).map fun i=>z.cells[i % z.cells.size]!
  have z1:(zerosA z (len * inf.size)).length=es.size:=by simp [zerosA,es]
  have z2:∀ i (h:i < (zerosA z (len * inf.size)).length) (h':i < es.size),VR C (zerosA z (len * inf.size))[i] es[i]:=fun i h h'=>by simp only [zerosA,List.getElem_map,List.getElem_range,es,Array.getElem_map,Array.getElem_range];exact VR.v C _
  have gsz:es.size=len * inf.size:=by simp [es]
  have hrun:(execOp a.eval ⟨d,.makeSlice t x y,ty,pos,af,g⟩).run P C.w=.ok (.value (.slice (some ⟨C.w.heap.size,0,none⟩) len len)) (C.w.alloc (.cells es e)):=by
   have h0:¬ (len * inf.size=0):=by rw [hs,Nat.mul_one]; exact h0
   have hw:IntKind.i64.wrap (Int.ofNat len)=Int.ofNat len:=IntWalk.i64_in _ (by constructor <;> simp <;> omega);have c1:¬ (((inf.bytes:Int) * Int.ofNat len > 2 ^ 48)):=by have:(inf.bytes:Int) * Int.ofNat len=((inf.bytes * len:Nat):Int):=(by simp);rw [this,hby];omega
   have c2:¬ ((Int.ofNat len:Int) < 0):=by simp
   have e1':a.eval x=.int .i64 (Int.ofNat len):=e1.v_inv;have e2':a.eval y=.int .i64 (Int.ofNat len):=e2.v_inv
   simp only [execOp,e1',e2',Instr.makeSlice,Sem.run_bind,run_underlying he,Result.andThen_ok,asInt,typeInfo,run_program,hi,Sem.run_pure];have a1:∀ w:World,(asIntOf (Value.int IntKind.i64 (Int.ofNat len))).run P w=.ok (IntKind.i64,Int.ofNat len) w:=fun w=>rfl
   simp only [a1,Result.andThen_ok,hw];have cc:(decide ((Int.ofNat len:Int) < 0)||decide ((inf.bytes:Int) * Int.ofNat len > 2 ^ 48)||decide ((Int.ofNat len:Int) < 0)||decide ((Int.ofNat len:Int) > Int.ofNat len))=false:=by simp only [Bool.or_eq_false_iff,decide_eq_false_iff_not];exact ⟨⟨⟨c2,c1⟩,c2⟩,Int.lt_irrefl _⟩
   rw [if_neg (by rw [cc]; exact Bool.false_ne_true)];have tn:(Int.ofNat len).toNat=len:=rfl
   simp only [tn,Sem.run_bind];have ar:∀ w:World,(askRoom (len * inf.bytes)).run P w=.ok () w:=fun w=>by unfold askRoom; split <;> rfl
   simp only [ar,Result.andThen_ok,sizeOf,typeInfo,Sem.run_bind,run_program,hi,Sem.run_pure];rw [if_neg h0];simp only [Sem.run_bind,zeroValue,typeInfo,run_program,hi,Sem.run_pure,Result.andThen_ok,hz];rfl
  have hs':(1:Nat)=inf.size:=hs.symm
  rw [hs'] at hK
  unfold Oper.wp
  rw [hrun]
  refine hK _ (C.alloc u es e ⟨0,zerosA z (len * inf.size),inf.size,false⟩) rfl (fun i=>by simp [Ctx.alloc]) (Ctx.alloc_good hg hu rfl (Nat.le_of_eq z1) z2) (Ctx.alloc_ev hg hu rfl) ?_
  have h3:(C.alloc u es e ⟨0,zerosA z (len * inf.size),inf.size,false⟩).ρ u=(C.w.heap.size,0):=by simp [Ctx.alloc]
  have h4:(C.alloc u es e ⟨0,zerosA z (len * inf.size),inf.size,false⟩).sz u=es.size:=by simp [Ctx.alloc]
  have:=VR.sl (C:=C.alloc u es e ⟨0,zerosA z (len * inf.size),inf.size,false⟩) (id:=u) (ver:=0) (off:=0) (len:=len) (cap:=len) (b:=⟨0,zerosA z (len * inf.size),inf.size,false⟩) (Heap.set_same _ _ _) rfl rfl (Nat.le_refl _) (by unfold maxLen; omega) (by omega)
   (by rw [h3,h4,gsz]; simp)
  rw [h3] at this
  exact this
end
end Go.Proofs.YtbhhmbchdponjaaGreatDoor
namespace Go.Proofs.YtbhhmbchdponjaaGreatDoor
set_option linter.unusedVariables false
set_option linter.unusedSimpArgs false
open Go.RowKit
section
variable {C:Ctx} {id k:Nat} {b:Blk}
def Ctx.ext (C:Ctx) (id:Nat) (b:Blk) (k:Nat):Ctx:={ C with η:=C.η.set id (some { b with cs:=b.cs++List.replicate k .unk }) }
theorem Ctx.ext_ev (hb:C.η id=some b) (hn:b.nilp=false):Ev C (C.ext id b k) where
 os:=rfl
 tape:=rfl
 output:=rfl
 size:=Nat.le_refl _
 keep:=fun k _ hm=>rfl
 mine:=fun k ⟨id',⟨b',hb',hn'⟩,hk⟩=>by
  left
  by_cases e:id'=id
  ·subst e; exact ⟨id',⟨b,hb,Blk.k0' hn⟩,hk⟩
  ·simp only [Ctx.ext] at hb'
   rw [Heap.set_other _ _ e] at hb'
   exact ⟨id',⟨b',hb',hn'⟩,hk⟩
 T:=fun _ h=>h
 Tnew:=fun _ h=>.inl h
 U:=fun _ h=>h
 old:=fun id' b' hid hb'=>by
  simp only [Ctx.ext] at hb'
  by_cases e:id'=id
  ·subst e
   rw [Heap.set_same] at hb'
   cases hb'
   exact ⟨b,hb,Nat.le_refl _,fun _=>⟨rfl,rfl,by rw [Blk.k0 hn]; exact Blk.k0 hn,rfl⟩⟩
  ·rw [Heap.set_other _ _ e] at hb'
   exact ⟨b',hb',Nat.le_refl _,fun _=>⟨rfl,rfl,rfl,rfl⟩⟩
theorem Ctx.ext_good (hg:Good C) (hb:C.η id=some b) (hn:b.nilp=false) (ht:b.ver≠TV) (hk:(C.ρ id).2+b.cs.length+k≤C.sz id):Good (C.ext id b k):=by
 have he:=Ctx.ext_ev (k:=k) hb hn
 have hlive:∀ {id' b'},(C.ext id b k).η id'=some b'→(id'=id∧b'={ b with cs:=b.cs++List.replicate k .unk })∨(id'≠id∧C.η id'=some b'):=by
  intro id' b' hb'
  simp only [Ctx.ext] at hb'
  by_cases e:id'=id
  ·subst e; rw [Heap.set_same] at hb'; cases hb'; exact .inl ⟨rfl,rfl⟩
  ·rw [Heap.set_other _ _ e] at hb'; exact .inr ⟨e,hb'⟩
 have hold:∀ {id' b'},(C.ext id b k).η id'=some b'→b'.kind≠1→C.live id':=by
  intro id' b' hb' hn'
  rcases hlive hb' with ⟨rfl,rfl⟩ | ⟨_,h⟩
  ·exact ⟨b,hb,Blk.k0' hn⟩
  ·exact ⟨b',h,hn'⟩
 refine ⟨?_,?_,?_,?_,?_,?_,?_⟩
 ·intro id' b' hb'
  rcases hlive hb' with ⟨rfl,rfl⟩ | ⟨e,hb'⟩
  ·exact hg.used hb
  ·exact hg.used hb'
 ·intro id' b' hb' hn'
  rcases hlive hb' with ⟨rfl,rfl⟩ | ⟨e,hb'⟩
  ·rw [show Blk.kind { b with cs:=b.cs++List.replicate k .unk }=0 from Blk.k0 hn] at hn'; cases hn'
  ·obtain ⟨ob,h1,h2⟩:=hg.obj hb' hn'
   exact ⟨ob,h1,h2.mono hg he⟩
 ·intro id' b' hb' hn'
  rcases hlive hb' with ⟨rfl,rfl⟩ | ⟨e,hb'⟩
  ·obtain ⟨c,t',h1,h2,h3,h4⟩:=hg.blk hb hn
   refine ⟨c,t',h1,h2,by show (C.ρ id').2+(b.cs++List.replicate k AV.unk).length≤_; rw [List.length_append,List.length_replicate]; omega,fun j h h'=>?_⟩
   by_cases hj:j < b.cs.length
   ·have:=(h4 j hj h').mono hg he
    show VR _ ((b.cs++List.replicate k AV.unk)[j]'h) _
    rw [List.getElem_append_left hj]; exact this
   ·have e1:(b.cs++List.replicate k AV.unk)[j]'h=.unk:=by rw [List.getElem_append_right (by omega)]; simp
    show VR _ ((b.cs++List.replicate k AV.unk)[j]'h) _
    rw [e1]; exact .imm (.unk _)
  ·obtain ⟨c,t',h1,h2,h3,h4⟩:=hg.blk hb' hn'
   exact ⟨c,t',h1,h2,h3,fun j h h'=>(h4 j h h').mono hg he⟩
 ·intro i i' h1 h2 h3
  obtain ⟨b1,g1,g2⟩:=h1
  obtain ⟨b2,g3,g4⟩:=h2
  exact hg.inj (hold g1 g2) (hold g3 g4) h3
 ·exact hg.tok
 ·intro q hq hT
  obtain ⟨i,⟨b1,g1,g2⟩,g3⟩:=hq
  exact hg.apart ⟨i,hold g1 g2,g3⟩ hT
 ·intro id' b' hb' hv hn'
  rcases hlive hb' with ⟨rfl,rfl⟩ | ⟨e,hb'⟩
  ·exact absurd hv ht
  ·exact hg.tight hb' hv hn'
end
theorem setRange_rep {cs news:List AV} {o:Nat} (ho:o≤cs.length):setRange (cs++List.replicate (o+news.length - cs.length) .unk) o news=setRange cs o news:=by
 unfold setRange
 rw [List.take_append_of_le_length ho]
 congr 1
 by_cases h:o+news.length≤cs.length
 ·rw [show o+news.length - cs.length=0 by omega]; simp
 ·rw [List.drop_eq_nil_of_le (by simp; omega),List.drop_eq_nil_of_le (by omega)]
section
variable {P:Program} {N:Nat} {τ:Nat→AV} {η:Heap} {ty:TypeId} {pos:String} {af:Array Edge} {g:Option (Nat×Bool)} {u d:Nat}
theorem app2_run {t e sz by_:Nat} {s x:Operand} {z:Value} {fp:List Nat} {id ver len m:Nat} {b:Blk} {news:List AV} (ht:P.underlying t=some (.slice e)) (hs:sizeInfo P e=some sz) (hz:zeroOf P e=some z) (hby:(P.info? e).map (·.bytes)=some by_) (hzs:z.cells.size=sz)
 (hx:aev τ s=.sl id ver 0 len) (hb:η id=some b) (hv:b.ver=ver) (hn:b.nilp=false) (hez:b.esz=sz) (htv:ver≠TV) (hlen:len * sz≤b.cs.length) (hpos:0 < len) (hsrc:Src η fp (aev τ x) m news) (hm:0 < m) (hnl:news.length=m * sz) (h1:news.all AV.one=true)
 (hmax:(len+m) * by_≤140737488355328) (hmax2:len+m≤140737488355328) (C:Ctx) (a:Act) (hg:Good C) (hxs:∀ y∈[s,x],VR C (aev τ y) (a.eval y)) (hfp:∀ i∈id :: fp,C.η i=η i) (hU:¬ C.U u) :
 ∃ v C',(Builtin.append_ #[t,t] ty #[a.eval s,a.eval x]).run P C.w=.ok v C'.w∧Good C'∧Ev C C' ∧
  ((C'.η=C.η.set id (some ⟨ver,setRange b.cs (len * sz) news,sz,false⟩)∧(∀ i,C'.U i↔C.U i)∧VR C' (.sl id ver 0 (len+m)) v) ∨
   (C'.η=C.η.set u (some ⟨0,b.cs.take (len * sz)++news,sz,false⟩)∧(∀ i,C'.U i↔C.U i∨i=u)∧VR C' (.sl u 0 0 (len+m)) v)):=by
 have hb':C.η id=some b:=(hfp id (by simp)).trans hb
 have e1:=hxs s (by simp)
 rw [hx] at e1
 obtain ⟨ad,cap,e2,c1,c2,c3,c4⟩:=e1.sl_inv hb' hv hn
 unfold sizeInfo at hs
 unfold zeroOf at hz
 cases hi:P.info? e with
 | none=>rw [hi] at hz; cases hz
 | some inf=>
  rw [hi] at hz hs hby
  simp only [Option.bind_some] at hz
  simp only [Option.map_some,Option.some.injEq] at hs hby
  subst hs; subst hby
  have htl:(b.cs.take (len * inf.size)).length=len * inf.size:=by simp; omega
  have c5:ad=⟨(C.ρ id).1,(C.ρ id).2+0,none⟩∧(C.ρ id).2+0+cap * b.esz≤C.sz id:=c4.resolve_left (fun h=>by omega)
  clear c4
  rcases hsrc C hg (fun i hi=>hfp i (by simp [hi])) _ (hxs x (by simp)) with ⟨h0,_⟩ | ⟨ad2,c',vals,hx2,v1,v2,v3⟩
  ·omega
  have hvone:∀ u∈vals,u.oneCell'=true:=by
   intro u hu
   obtain ⟨j,hj,rfl⟩:=List.getElem_of_mem hu
   exact (v3 j (by omega) hj).one (List.all_eq_true.1 h1 _ (List.getElem_mem _))
  by_cases hroom:len+m≤cap
  ·obtain ⟨rfl,c4⟩:=c5
   have hvl:vals.length=m * inf.size:=by omega
   obtain ⟨cs,t',g1,g2,g3,g4⟩:=hg.blk hb' hn
   have hmul:(len+m) * inf.size≤cap * inf.size:=Nat.mul_le_mul_right _ hroom
   rw [Nat.add_mul] at hmul
   have hfit:(C.ρ id).2+len * inf.size+news.length≤cs.size:=by rw [hez] at c4; omega
   have hr:=run_append_mid (P:=P) (ty:=ty) ht hi C.w (C.ρ id).1 ((C.ρ id).2+0) len cap cs t' g1 ad2 m c' vals hvl v2 hvone hroom (by omega)
   rw [← e2,← hx2] at hr
   generalize hk:len * inf.size+news.length - b.cs.length=k
   have hgE:=Ctx.ext_good (k:=k) hg hb' hn (by rw [hv]; exact htv) (by omega)
   have heE:=Ctx.ext_ev (C:=C) (k:=k) hb' hn
   have hbE:(C.ext id b k).η id=some { b with cs:=b.cs++List.replicate k .unk }:=Heap.set_same _ _ _
   have hvE:∀ i (h:i < news.length) (h':i < vals.length),VR (C.ext id b k) news[i] vals[i]:=fun i h h'=>(v3 i h h').mono hg heE
   have hgS:=Ctx.store_good (o:=len * inf.size) (vs:=news) (xs:=vals) hgE hbE hn (by simp; omega) v1 hvE
   have heS:=Ctx.store_ev (o:=len * inf.size) (vs:=news) (xs:=vals) hgE hbE hn
   have hη:((C.ext id b k).store id { b with cs:=b.cs++List.replicate k .unk } (len * inf.size) news vals).η=C.η.set id (some ⟨ver,setRange b.cs (len * inf.size) news,inf.size,false⟩):=by
    have e5:({ b with cs:=setRange (b.cs++List.replicate k .unk) (len * inf.size) news }:Blk)=⟨ver,setRange b.cs (len * inf.size) news,inf.size,false⟩:=by
     rw [← hk,setRange_rep hlen,← hv,← hez,← hn]
    show (C.η.set id _).set id _=_
    rw [e5]
    funext i
    by_cases ei:i=id
    ·subst ei; rw [Heap.set_same,Heap.set_same]
    ·rw [Heap.set_other _ _ ei,Heap.set_other _ _ ei,Heap.set_other _ _ ei]
   refine ⟨_,_,by rw [Nat.add_zero] at hr; exact hr,hgS,heE.trans heS,.inl ⟨hη,fun i=>Iff.rfl,?_⟩⟩
   have:=VR.sl (C:=(C.ext id b k).store id { b with cs:=b.cs++List.replicate k .unk } (len * inf.size) news vals) (id:=id) (ver:=ver) (off:=0) (len:=len+m) (cap:=cap) (b:=⟨ver,setRange b.cs (len * inf.size) news,inf.size,false⟩) (by rw [hη]; exact Heap.set_same _ _ _) rfl rfl hroom c2 hmax2 (by rw [hez] at c4; exact c4)
   simpa [Ctx.store,Ctx.ext] using this
  ·-- a new row
   have hvl:vals.length=m * inf.size:=by omega
   obtain ⟨f,hf⟩:=choose_cells (n:=len * inf.size) (p:=fun j y=>C.w.cell? ⟨(C.ρ id).1,(C.ρ id).2+j,none⟩=some y∧∀ h:j < b.cs.length,VR C b.cs[j] y) (fun j hj=>by
    obtain ⟨y,hy,hvy⟩:=hg.cell hb' hn (j:=j) (by omega)
    exact ⟨y,hy,fun _=>hvy⟩)
   have holds:∀ (j:Nat) (u:Value),((List.range (len * inf.size)).map f)[j]? = some u→C.w.cell? (ad.add j)=some u:=by
    intro j u hj
    obtain ⟨hlt,he⟩:=List.getElem?_eq_some_iff.1 hj
    simp only [List.getElem_map,List.getElem_range] at he
    subst he
    have hlt':j < len * inf.size:=by simpa using hlt
    rw [c5.1,Addr.add_mid,Nat.add_zero]
    exact (hf j hlt').1
   have hlt:cap < len+m:=by omega
   have hr:=run_append_grow (P:=P) C.w t ty e inf z ht hi hz ad len cap ((List.range (len * inf.size)).map f) (by simp) holds ad2 m c' vals hvl v2 hlt (by omega) (growslice_fits hlt hmax)
   rw [← e2,← hx2] at hr
   have hge:=grownCap_ge C.w (len+m) cap e
   have hmx:len+m≤maxLen:=by unfold maxLen; omega
   have hcm:grownCap C.w (len+m) cap e≤maxLen:=grownCap_le_maxLen C.w (len+m) cap e hmx
   generalize hcell:(((List.range (len * inf.size)).map f).toArray++vals.toArray++Builtin.zeroCells z.cells (grownCap C.w (len+m) cap e - (len+m)))=nc at hr
   have hncs:nc.size=grownCap C.w (len+m) cap e * inf.size:=by
    rw [← hcell]
    simp only [Array.size_append,List.size_toArray,List.length_map,List.length_range,size_zeroCells,hzs,hvl,← Nat.add_mul]
    congr 1
    omega
   have hget:∀ j (h:j < (b.cs.take (len * inf.size)++news).length) (h':j < nc.size),VR C (b.cs.take (len * inf.size)++news)[j] nc[j]:=by
    intro j hj hj'
    have hjl:j < len * inf.size+news.length:=by simpa [htl] using hj
    have hnj:nc[j]? = (((List.range (len * inf.size)).map f)++vals)[j]?:=by
     rw [← hcell,Array.getElem?_append_left (by simp; omega)]
     simp
    rw [Array.getElem?_eq_getElem hj'] at hnj
    by_cases hlt:j < len * inf.size
    ·have e4:(b.cs.take (len * inf.size)++news)[j]=b.cs[j]'(by omega):=by
      rw [List.getElem_append_left (by omega)]; simp
     rw [List.getElem?_append_left (by simpa using hlt)] at hnj
     simp only [List.getElem?_map,List.getElem?_range hlt,Option.map_some,Option.some.injEq] at hnj
     rw [e4,hnj]
     exact (hf j hlt).2 (by omega)
    ·obtain ⟨q,rfl⟩:∃ q,j=len * inf.size+q:=⟨j - len * inf.size,by omega⟩
     have hq:q < news.length:=by omega
     have e4:(b.cs.take (len * inf.size)++news)[len * inf.size+q]=news[q]:=by
      have:(b.cs.take (len * inf.size)++news)[len * inf.size+q]? = news[q]?:=by
       rw [List.getElem?_append_right (by omega)]
       congr 1
       omega
      rw [List.getElem?_eq_getElem hj,List.getElem?_eq_getElem hq] at this
      exact Option.some.inj this
     rw [List.getElem?_append_right (by simp)] at hnj
     simp only [List.length_map,List.length_range,Nat.add_sub_cancel_left] at hnj
     rw [List.getElem?_eq_getElem (by omega)] at hnj
     rw [e4,Option.some.inj hnj]
     exact v3 q hq (by omega)
   have hwh:(C.w.drew.alloc (.cells nc e)).heap[C.w.heap.size]? = some (.cells nc e (0,0)):=heap_alloc_new C.w.drew _
   have hok:ReplOk C u (C.w.heap.size,0) nc.size ⟨0,b.cs.take (len * inf.size)++news,inf.size,false⟩ (C.w.drew.alloc (.cells nc e)):=by
    refine ⟨rfl,rfl,rfl,by simp,fun k hk _=>Below.heap_alloc C.w.drew _ k hk,.inr (Nat.le_refl _),fun h=>absurd h hU,rfl,fun e=>absurd e (by show ¬ ((0:Nat)=TV); decide),nc,e,hwh,rfl,?_,fun j h h'=>?_⟩
    ·rw [hncs]
     have:(len+m) * inf.size≤grownCap C.w (len+m) cap e * inf.size:=Nat.mul_le_mul_right _ hge
     rw [Nat.add_mul] at this
     simp [htl]; omega
    ·have:=hget j h (by simpa using h')
     simpa using this
   have:=VR.sl (C:=C.repl u (C.w.heap.size,0) nc.size ⟨0,b.cs.take (len * inf.size)++news,inf.size,false⟩ (C.w.drew.alloc (.cells nc e))) (id:=u) (ver:=0) (off:=0) (len:=len+m) (cap:=grownCap C.w (len+m) cap e) (b:=⟨0,b.cs.take (len * inf.size)++news,inf.size,false⟩) (Heap.set_same _ _ _) rfl rfl hge hcm hmax2
    (by simp [Ctx.repl,hncs])
   exact ⟨_,_,hr,Ctx.repl_good hg hok,Ctx.repl_ev hg hok,.inr ⟨rfl,fun i=>by simp [Ctx.repl],by simpa [Ctx.repl] using this⟩⟩
theorem AOps.append2 {ops:Array Oper} {K:St→Prop} {l:List Oper} {t e sz by_:Nat} {s x:Operand} {z:Value} {fp:List Nat} {id ver len m:Nat} {b:Blk} {news:List AV} (ht:P.underlying t=some (.slice e)) (hs:sizeInfo P e=some sz) (hz:zeroOf P e=some z) (hby:(P.info? e).map (·.bytes)=some by_) (hzs:z.cells.size=sz)
 (hx:aev τ s=.sl id ver 0 len) (hb:η id=some b) (hv:b.ver=ver) (hn:b.nilp=false) (hez:b.esz=sz) (htv:ver≠TV) (hlen:len * sz≤b.cs.length) (hpos:0 < len) (hsrc:Src η fp (aev τ x) m news) (hm:0 < m) (hnl:news.length=m * sz) (h1:news.all AV.one=true)
 (hmax:(len+m) * by_≤140737488355328) (hmax2:len+m≤140737488355328)
 (hw:want ops τ ⟨some d,.call { callee:=.builtin .append,args:=#[s,x],argTypes:=#[t,t] },ty,pos,af,g⟩=some true) (hd:dstOk N ops ⟨some d,.call { callee:=.builtin .append,args:=#[s,x],argTypes:=#[t,t] },ty,pos,af,g⟩=true) (hu:Nat.ble (u+1) TOP=true)
 (hA:AOps P N ops l K ⟨updO τ (some d) (.sl id ver 0 (len+m)),η.set id (some ⟨ver,setRange b.cs (len * sz) news,sz,false⟩),u⟩)
 (hB:AOps P N ops l K ⟨updO τ (some d) (.sl u 0 0 (len+m)),η.set u (some ⟨0,b.cs.take (len * sz)++news,sz,false⟩),u+1⟩) :
 AOps P N ops (⟨some d,.call { callee:=.builtin .append,args:=#[s,x],argTypes:=#[t,t] },ty,pos,af,g⟩ :: l) K ⟨τ,η,u⟩:=by
 intro C a Q hr hK
 unfold wpList
 rw [want_spec hw hr (dstOk.guard hd)]
 simp only [if_true]
 left
 have hu1:=Nat.le_of_ble_eq_true hu
 have hU:¬ C.U u:=fun h=>by have:=hr.u _ h; simp only at this; omega
 obtain ⟨v,C',hrun,hg',he,hcase⟩:=app2_run (ty:=ty) (u:=u) ht hs hz hby hzs hx hb hv hn hez htv hlen hpos hsrc hm hnl h1 hmax hmax2 C a hr.good (fun y _=>hr.eval y) (fun i _=>by rw [hr.η]) hU
 unfold Oper.wp
 rw [exec_append C.w hrun]
 rcases hcase with ⟨hη,hUU,hv'⟩ | ⟨hη,hUU,hv'⟩
 ·have hs':=hr.put he hg' (u':=u) (fun i hi=>hr.u i ((hUU i).1 hi)) (dstOk.dst hd) hv'
  rw [hη,hr.η] at hs'
  exact hA C' _ Q hs' (fun s' C'' a' hk hr' he'=>hK s' C'' a' hk hr' (he.toFr.trans he'))
 ·have hs':=hr.put he hg' (u':=u+1) (fun i hi=>by
   rcases (hUU i).1 hi with h | rfl
   ·have:=hr.u i h; simp only at this; omega
   ·exact .inl (Nat.lt_succ_self _)) (dstOk.dst hd) hv'
  rw [hη,hr.η] at hs'
  exact hB C' _ Q hs' (fun s' C'' a' hk hr' he'=>hK s' C'' a' hk hr' (he.toFr.trans he'))
end
end Go.Proofs.YtbhhmbchdponjaaGreatDoor
namespace Go.Proofs.YtbhhmbchdponjaaGreatDoor
set_option linter.unusedVariables false
set_option linter.unusedSimpArgs false
open Go.RowKit
section
variable {P:Program} {τ:Nat→AV} {η:Heap} {d:Option Tmp} {ty:TypeId} {pos:String} {af:Array Edge} {g:Option (Nat×Bool)}
theorem LOp.cvtB {t t':Nat} {x:Operand} {td:TypeDesc} {m:Int} {k:IntKind} (hs:P.underlying t=some td) (hd:P.underlying t'=some (.int .u8)) (hx:aev τ x=.v (.int k m)) (h1:0≤m) (h2:m≤255) :
 LOp P ⟨d,.convert t t' x,ty,pos,af,g⟩ τ η [] [] (.v (.int .u8 m)) :=
 .look [] fun C a _ hxs _=>by
  have e1:=hxs x (by simp [Op.operands])
  rw [hx] at e1
  refine ⟨.int .u8 m,?_,VR.v C _⟩
  simp [execOp,e1.v_inv,convert,run_underlying hs,run_underlying hd,Conv.intToInt,Go.IntWalk.u8_in m ⟨h1,h2⟩]
end
end Go.Proofs.YtbhhmbchdponjaaGreatDoor
namespace Go.Proofs.YtbhhmbchdponjaaGreatDoor
set_option linter.unusedVariables false
set_option linter.unusedSimpArgs false
open Go.RowKit
def mSs:Nat→List ByteArray→List (Value×AV×Nat)
 | _,[]=>[]
 | i,p :: r=>(.string p,.v (.bool true),i) :: mSs (i+1) r
theorem mSs_app:∀ (i:Nat) (l:List ByteArray) (p:ByteArray),mSs i l++[(.string p,.v (.bool true),i+l.length)]=mSs i (l++[p])
 | i,[],p=>rfl
 | i,q :: r,p=>by
  have:=mSs_app (i+1) r p
  simp only [mSs,List.cons_append,List.length_cons]
  rw [show i+(r.length+1)=i+1+r.length by omega,this]
theorem mSs_pure (D:List Nat):∀ (i:Nat) (l:List ByteArray),inL D ((mSs i l).map fun e=>.agg [.v e.1,e.2.1,.v (.int .i64 (Int.ofNat e.2.2))])=true
 | _,[]=>rfl
 | i,p :: r=>by
  have:=mSs_pure D (i+1) r
  simp only [mSs,List.map_cons,inL,AV.inB,this]
  rfl
theorem mSs_low (u:Nat):∀ (i:Nat) (l:List ByteArray),lowL u ((mSs i l).map fun e=>.agg [.v e.1,e.2.1,.v (.int .i64 (Int.ofNat e.2.2))])=true
 | _,[]=>rfl
 | i,p :: r=>by
  have:=mSs_low u (i+1) r
  simp only [mSs,List.map_cons,lowL,AV.lowB,this]
  rfl
theorem mSs_ren (g:Nat→Nat):∀ (i:Nat) (l:List ByteArray),((mSs i l).map fun e=>(e.1,e.2.1.ren g,e.2.2))=mSs i l
 | _,[]=>rfl
 | i,p :: r=>by simp [mSs,AV.ren,mSs_ren g (i+1) r]
abbrev mapS (L:List ByteArray):Blk:=mapBlk 0 0 L.length (mSs 0 L)
theorem mapS_low (u:Nat) (L:List ByteArray):lowL u (mapS L).cs=true:=by
 show lowL u (mapCs L.length (mSs 0 L))=true
 unfold mapCs
 simp only [lowL,AV.lowB,Bool.true_and]
 exact mSs_low u 0 L
theorem mapS_in (D:List Nat) (c:Nat) (l:List ByteArray):inL D (mapCs c (mSs 0 l))=true:=by
 unfold mapCs
 simp only [inL,AV.inB,Bool.true_and]
 exact mSs_pure D 0 l
theorem mapS_ren {g:Nat→Nat} {L:List ByteArray}:(mapS L).ren g=mapS L:=by
 show (mapBlk _ _ _ _).ren g=_
 unfold mapBlk Blk.ren
 simp only [mapCs_ren,mSs_ren]
 rfl
theorem ok_mapS {K:List Nat} {L:List ByteArray}:okBlk K (mapS L):=⟨mapS_in _ _ _,.inr (.inr (.inl ⟨L.length,_,rfl⟩))⟩
def hasS (L:List ByteArray) (k:ByteArray):Bool:=L.any fun x=>k==x
theorem ba_beq {a b:ByteArray} (h:(a==b)=true):a=b:=by
 cases a; cases b
 have h1:(_==_)=true:=h
 exact congrArg _ (eq_of_beq h1)
theorem ba_refl (a:ByteArray):(a==a)=true:=by
 obtain ⟨d⟩:=a
 show (d==d)=true
 exact beq_self_eq_true d
theorem hasS_mem {L:List ByteArray} {k:ByteArray} (h:hasS L k=true):k∈L:=by
 obtain ⟨x,hx,e⟩:=List.any_eq_true.1 h
 rw [ba_beq e]; exact hx
section
variable {P:Program} {kt:TypeId}
theorem quiet_keyS {k:ByteArray} {e:Bool} (hk:P.underlying kt=some .string):quiet P (Instr.checkKey e 10000 kt (.string k))=some ():=by
 show quiet P (Instr.checkKey e (9999+1) kt (.string k))=some ()
 unfold Instr.checkKey
 have:quiet P (underlying kt)=some .string:=quiet_und hk
 exact quiet_bind_of this rfl
theorem findNowS {k:ByteArray}:∀ (L:List ByteArray) (i j:Nat),∃ r,Instr.findNow .string (.string k) (dummies (mSs i L)) j=some r∧(match r with
 | none=>hasS L k=false
 | some (q,_)=>hasS L k=true∧∃ h:q - j < L.length,j≤q∧(mSs i L)[q - j]? = some (.string L[q - j],.v (.bool true),i+(q - j))∧L[q - j]=k)
 | [],i,j=>⟨none,rfl,rfl⟩
 | x :: L,i,j=>by
  obtain ⟨r,h1,h2⟩:=findNowS (k:=k) L (i+1) (j+1)
  cases hx:(k==x) with
  | true=>exact ⟨some (j,undef),by simp [dummies,mSs,Instr.findNow,Instr.sameNow,hx],⟨by simp [hasS,hx],by simp,Nat.le_refl _,by simp [mSs],by simp [ba_beq hx]⟩⟩
  | false=>
   refine ⟨r,?_,?_⟩
   ·simp only [dummies,mSs,List.map_cons,Instr.findNow,Instr.sameNow,hx]
    exact h1
   ·cases r with
    | none=>simpa [hasS,hx] using h2
    | some p=>
     obtain ⟨q,v⟩:=p
     obtain ⟨g1,g2,g3,g4,g5⟩:=h2
     refine ⟨by simpa [hasS,hx] using g1,by simp; omega,by omega,?_,by simp only [show q - j=q - (j+1)+1 by omega,List.getElem_cons_succ]; exact g5⟩
     have e:q - j=q - (j+1)+1:=by omega
     simp only [mSs,e,List.getElem?_cons_succ,List.getElem_cons_succ]
     rw [g4,show i+1+(q - (j+1))=i+(q - (j+1)+1) by omega]
theorem findES {k:ByteArray} {L:List ByteArray} (hk:P.underlying kt=some .string):∃ r,findE P kt (.string k) (mSs 0 L)=some r∧(match r with
 | none=>hasS L k=false
 | some q=>hasS L k=true∧∃ h:q < L.length,(mSs 0 L)[q]? = some (.string L[q],.v (.bool true),q)∧L[q]=k):=by
 obtain ⟨r,h1,h2⟩:=findNowS (k:=k) L 0 0
 have h3:quiet P (Instr.findKey kt (.string k) (dummies (mSs 0 L)))=some r:=by
  unfold Instr.findKey
  refine quiet_bind_of (quiet_und hk) ?_
  rw [h1]
  rfl
 unfold findE
 rw [quiet_keyS hk]
 simp only [h3]
 cases r with
 | none=>exact ⟨none,rfl,h2⟩
 | some p=>
  obtain ⟨q,v⟩:=p
  obtain ⟨g1,g2,g3,g4,g5⟩:=h2
  exact ⟨some q,rfl,g1,by simpa using g2,by simpa using g4,by simpa using g5⟩
end
section
variable {P:Program} {τ:Nat→AV} {η:Heap} {d:Option Tmp} {ty:TypeId} {pos:String} {af:Array Edge} {g:Option (Nat×Bool)}
theorem LOp.hasS {t kt et id ver z clock:Nat} {x i:Operand} {k:ByteArray} {L:List ByteArray} (ht:P.underlying t=some (.map kt et)) (hk:P.underlying kt=some .string) (hz:zeroOf P et=some (.bool false)) (hm:aev τ x=.mp id ver) (hkey:aev τ i=.v (.string k)) (hb:η id=some (mapBlk ver z clock (mSs 0 L))) :
 LOp P ⟨d,.lookup t x i false,ty,pos,af,g⟩ τ η [id] [] (.v (.bool (hasS L k))):=by
 obtain ⟨r,h1,h2⟩:=findES (P:=P) (k:=k) (L:=L) hk
 refine lookE_ok (u:=0) (r:=⟨[id],[],.v (.bool (YtbhhmbchdponjaaGreatDoor.hasS L k)),0⟩) ?_
 unfold lookE
 rw [ht]
 simp only [hkey,hz,hm,liveM_map hb,h1]
 cases r with
 | none=>simp only [h2]; rfl
 | some q=>
  obtain ⟨g1,g2,g3⟩:=h2
  simp only [g1,g3]; rfl
def insS (L:List ByteArray) (k:ByteArray):List ByteArray:=bif hasS L k then L else L++[k]
theorem setNth_self {α:Type}:∀ (l:List α) (n:Nat) (a:α),l[n]? = some a→setNth l n a=l
 | [],_,_,_=>rfl
 | x :: l,0,a,h=>by simp at h; simp [setNth,h]
 | x :: l,n+1,a,h=>by simp only [setNth]; rw [setNth_self l n a (by simpa using h)]
theorem LOp.addS {t kt et id:Nat} {m i x:Operand} {k:ByteArray} {L:List ByteArray} (ht:P.underlying t=some (.map kt et)) (hk:P.underlying kt=some .string) (hm:aev τ m=.mp id 0) (hkey:aev τ i=.v (.string k)) (hx:aev τ x=.v (.bool true)) (hb:η id=some (mapS L)) :
 LOp P ⟨d,.mapUpdate t m i x,ty,pos,af,g⟩ τ η [id] [(id,some (mapS (insS L k)))] (.v undef):=by
 obtain ⟨r,h1,h2⟩:=findES (P:=P) (k:=k) (L:=L) hk
 cases r with
 | none=>
  have e:mapS (insS L k)=mapBlk 0 0 (L.length+1) (mSs 0 L++[(.string k,.v (.bool true),L.length)]):=by
   have:=mSs_app 0 L k
   rw [Nat.zero_add] at this
   rw [this,insS,h2]; simp [mapS]
  rw [e]
  refine mapSetE_ok (u:=0) (r:=⟨[id],[(id,some (mapBlk 0 0 (L.length+1) (mSs 0 L++[(.string k,.v (.bool true),L.length)])))],.v undef,0⟩) (.inl rfl) ?_
  unfold mapSetE
  rw [ht]
  simp only [hkey,hm,hx,liveM_map hb,quiet_keyS hk,h1]; rfl
 | some q=>
  obtain ⟨g1,g2,g3,g4⟩:=h2
  have e:mapS (insS L k)=mapBlk 0 0 L.length (setNth (mSs 0 L) q (.string k,.v (.bool true),q)):=by
   rw [setNth_self _ _ _ (by rw [g3,g4]),insS,g1]; rfl
  rw [e]
  refine mapSetE_ok (u:=0) (r:=⟨[id],[(id,some (mapBlk 0 0 L.length (setNth (mSs 0 L) q (.string k,.v (.bool true),q))))],.v undef,0⟩) (.inl rfl) ?_
  unfold mapSetE
  rw [ht]
  have sb:Instr.sameBits 10000 (.string L[q]) (.string k)=true:=by
   rw [g4]
   show (k==k)=true
   exact ba_refl k
  simp only [hkey,hm,hx,liveM_map hb,quiet_keyS hk,h1,g3,sb]; rfl
end
end Go.Proofs.YtbhhmbchdponjaaGreatDoor
namespace Go.Proofs.YtbhhmbchdponjaaGreatDoor
set_option linter.unusedVariables false
set_option linter.unusedSimpArgs false
open Go.RowKit
def WkS (s s1:St):Prop:=∀ N C a,SRel N C s a→∃ C',C'.w=C.w∧SRel N C' s1 a∧Fr C C'
theorem Canon.wks {s s1:St} (h:Canon s s1):WkS s s1:=fun _ _ _ hr=>h.rel hr
theorem WkS.trans {s s1 s2:St} (h:WkS s s1) (k:WkS s1 s2):WkS s s2:=fun N C a hr=>by
 obtain ⟨C1,w1,r1,f1⟩:=h N C a hr
 obtain ⟨C2,w2,r2,f2⟩:=k N C1 a r1
 exact ⟨C2,w2.trans w1,r2,f1.trans f2⟩
section
variable {P:Program} {N:Nat} {Q:Exit→St→Prop} {s:St}
theorem EWP.weak {c:Code} {e:Exit} {s1:St} (h:AWP P N c (fun e1 s0=>e1=e∧WkS s0 s1) s) (hq:Q e s1):EWP P N c Q s:=by
 refine ⟨e,s1,hq,fun C a hr=>Code.wp_mono ?_ (h C a hr)⟩
 rintro e1 a' w' ⟨s0,C',⟨rfl,hw⟩,rfl,hr',hf⟩
 obtain ⟨C2,w2,r2,f2⟩:=hw N C' a' hr'
 exact ⟨s1,C2,⟨rfl,rfl⟩,w2,r2,hf.trans f2⟩
variable {X:Inf} {cu st:List Nat} {ops:Array Oper}
theorem RegG.dn {id:Nat} {dr:Bool} {Q:Exit→St→Prop} {s s1:St} (h:AWP P N (.region id ops dr) (fun e1 s0=>e1=.normal∧WkS s0 s1) s) (hq:Q .normal s1):RegG P X N cu st id ops dr Q s:=⟨fun _ _=>EWP.weak h hq⟩
end
theorem WkS.cut {τ:Nat→AV} {η:Heap} {u id:Nat} {b:Blk} (n:Nat) (hb:η id=some b) (hn:b.nilp=false) (ht:b.ver≠TV) {b':Blk} (hb':b'=⟨b.ver,b.cs.take n,b.esz,false⟩):WkS ⟨τ,η,u⟩ ⟨τ,η.set id (some b'),u⟩:=by
 subst hb'
 intro N C a hr
 have hbC:C.η id=some b:=by rw [hr.η]; exact hb
 let C':Ctx:={ C with η:=C.η.set id (some ⟨b.ver,b.cs.take n,b.esz,false⟩) }
 have same:C'.η id=some ⟨b.ver,b.cs.take n,b.esz,false⟩:=Heap.set_same _ _ _
 have oth:∀ {i},i≠id→C'.η i=C.η i:=fun h=>Heap.set_other _ _ h
 have hk:(Blk.mk b.ver (b.cs.take n) b.esz false).kind=b.kind:=by rw [Blk.k0 hn]; rfl
 have cas:∀ {i b1},C'.η i=some b1→(i=id∧b1=⟨b.ver,b.cs.take n,b.esz,false⟩)∨(i≠id∧C.η i=some b1):=by
  intro i b1 h
  by_cases e:i=id
  ·subst e; rw [same] at h; cases h; exact .inl ⟨rfl,rfl⟩
  ·rw [oth e] at h; exact .inr ⟨e,h⟩
 have back:∀ {i b1},C.η i=some b1→∃ b2,C'.η i=some b2∧b2.ver=b1.ver∧b2.kind=b1.kind∧b2.esz=b1.esz:=by
  intro i b1 h
  by_cases e:i=id
  ·subst e; rw [hbC] at h; cases h; exact ⟨_,same,rfl,hk,rfl⟩
  ·exact ⟨b1,(oth e).trans h,rfl,rfl,rfl⟩
 have fwd:∀ {i b2},C'.η i=some b2→∃ b1,C.η i=some b1∧b2.ver=b1.ver∧b2.kind=b1.kind∧b2.esz=b1.esz:=by
  intro i b2 h
  rcases cas h with ⟨rfl,rfl⟩ | ⟨e,h⟩
  ·exact ⟨b,hbC,rfl,hk,rfl⟩
  ·exact ⟨b2,h,rfl,rfl,rfl⟩
 have hlive:∀ {i},C'.live i→C.live i:=by
  rintro i ⟨b2,h,hn'⟩
  obtain ⟨b1,h1,_,h2,_⟩:=fwd h
  exact ⟨b1,h1,by rw [← h2]; exact hn'⟩
 have hmine:∀ {k},C'.mine k→C.mine k:=fun ⟨i,h1,h2⟩=>⟨i,hlive h1,h2⟩
 have hev:Ev C C':=by
  refine ⟨⟨rfl,rfl,rfl,Nat.le_refl _,fun _ _ _=>rfl,fun k h=>.inl (hmine h),fun _ h=>h,fun _ h=>.inl h⟩,fun _ h=>h,fun i b2 hu h=>?_⟩
  obtain ⟨b1,h1,h2,h3,h4⟩:=fwd h
  exact ⟨b1,h1,by omega,fun _=>⟨rfl,rfl,h3,h4⟩⟩
 have hg:Good C':=by
  refine ⟨?_,?_,?_,fun h1 h2=>hr.good.inj (hlive h1) (hlive h2),hr.good.tok,fun h=>hr.good.apart (hmine h),?_⟩
  ·intro i b2 h
   obtain ⟨b1,h1,_⟩:=fwd h
   exact hr.good.used h1
  ·intro i b2 h h2
   rcases cas h with ⟨rfl,rfl⟩ | ⟨e,h⟩
   ·rw [hk,Blk.k0 hn] at h2; cases h2
   ·obtain ⟨o,g1,g2⟩:=hr.good.obj h h2
    exact ⟨o,g1,g2.mono hr.good hev⟩
  ·intro i b2 h h2
   rcases cas h with ⟨rfl,rfl⟩ | ⟨e,h⟩
   ·obtain ⟨c,t,g1,g2,g3,g4⟩:=hr.good.blk hbC hn
    refine ⟨c,t,g1,g2,Nat.le_trans (Nat.add_le_add_left (by simp; omega) _) g3,fun j hj hj'=>?_⟩
    have hl:j < b.cs.length:=by simp at hj; omega
    have:=(g4 j hl hj').mono hr.good hev
    simpa using this
   ·obtain ⟨c,t,g1,g2,g3,g4⟩:=hr.good.blk h h2
    exact ⟨c,t,g1,g2,g3,fun j hj hj'=>(g4 j hj hj').mono hr.good hev⟩
  ·intro i b2 h h1 h2
   rcases cas h with ⟨rfl,rfl⟩ | ⟨e,h⟩
   ·exact absurd h1 ht
   ·exact hr.good.tight h h1 h2
 refine ⟨C',rfl,⟨hg,?_,hr.u,hr.defers,hr.size,fun t=>(hr.τ t).mono hr.good hev⟩,hev.toFr⟩
 show C.η.set id _=η.set id _
 rw [hr.η]
end Go.Proofs.YtbhhmbchdponjaaGreatDoor
namespace Go.Proofs.YtbhhmbchdponjaaGreatDoor
set_option linter.unusedVariables false
set_option linter.unusedSimpArgs false
open Go.RowKit
theorem setRange_row {α:Type} {f:α→List AV} {q:Nat} (hf:RowF f q) {l:List α} {k:Nat} (h:k < l.length) (v:α):setRange (rF f l) (k * q) (f v)=rF f (l.set k v):=by
 have e:l.set k v=l.take k++(v :: l.drop (k+1)):=List.set_eq_take_append_cons_drop.trans (if_pos h)
 have h1:(rF f (l.take k)).length=k * q:=rF_pre hf h
 have h2:(f v).length=q:=hf.len v
 have h3:(f l[k]).length=q:=hf.len _
 rw [e,rF_app,rF_cons,rF_at (f:=f) h]
 unfold setRange
 rw [List.take_append_of_le_length (by omega),List.take_of_length_le (by omega),← h1,List.append_assoc,List.drop_append,List.drop_append]
 have e2:(rF f (l.take k)).length+(f v).length - (rF f (l.take k)).length=q:=by omega
 simp [e2,h2,h3,List.drop_of_length_le]
section
variable {P:Program} {τ:Nat→AV} {η:Heap} {d:Option Tmp} {ty:TypeId} {pos:String} {af:Array Edge} {g:Option (Nat×Bool)}
theorem LOp.addI32 {t t':Nat} {x y:Operand} {m n:Int} (hx:aev τ x=.v (.int .i32 m)) (hy:aev τ y=.v (.int .i32 n)) (h1:-2147483648≤m+n) (h2:m+n≤2147483647) :
 LOp P ⟨d,.binOp .add t x y t',ty,pos,af,g⟩ τ η [] [] (.v (.int .i32 (m+n))) :=
 .look [] fun C a _ hxs _=>by
  have e1:=hxs x (by simp [Op.operands])
  have e2:=hxs y (by simp [Op.operands])
  rw [hx] at e1
  rw [hy] at e2
  refine ⟨.int .i32 (m+n),?_,VR.v C _⟩
  rw [← IntWalk.i32_in (m+n) ⟨h1,h2⟩]
  simp only [execOp,e1.v_inv,e2.v_inv]
  rfl
theorem LOp.storeV1 {α:Type} {f:α→List AV} (hf:RowF f 1) {t:Nat} {x y:Operand} {id ver i:Nat} {L:List α} {v:α} {w:Value} (hs:sizeInfo P t=some 1) (hx:aev τ x=.ptr id ver i) (hb:η id=some ⟨ver,rF f L,1,false⟩) (hy:aev τ y=.v w) (hw:f v=[.v w]) (hc:AV.cells (.v w)=[.v w]) (ho:AV.one (.v w)=true) (hi:i < L.length) :
 LOp P ⟨d,.store t x y,ty,pos,af,g⟩ τ η [id] [(id,some ⟨ver,rF f (L.set i v),1,false⟩)] (.v undef):=by
 have hl:=rF_len hf L
 have:=LOp.store (P:=P) (τ:=τ) (η:=η) (d:=d) (ty:=ty) (pos:=pos) (af:=af) (g:=g) (b:=⟨ver,rF f L,1,false⟩) (y:=y) hs hx hb rfl rfl (by rw [hy]; rfl) (by rw [hy,hc]; rfl) (by rw [hy,hc]; simp [ho]) (by show i+1≤(rF f L).length; rw [hl]; omega)
 have e:setRange (rF f L) i (aev τ y).cells=rF f (L.set i v):=by
  have:=setRange_row hf hi v
  rw [Nat.mul_one] at this
  rw [hy,hc,← hw]; exact this
 simp only [e] at this
 exact this
theorem LOp.indexV1 {α:Type} {f:α→List AV} {t e:Nat} {x y:Operand} {id ver i n:Nat} {v:Int} {L:List α} (he:P.underlying t=some (.slice e)) (hs:sizeInfo P e=some 1) (hx:aev τ x=.sl id ver 0 n) (hi:aev τ y=.v (.int .i64 v)) (hv:v=((i:Nat):Int)) (hj:i < n) (hb:η id=some ⟨ver,rF f L,1,false⟩) :
 LOp P ⟨d,.indexAddr t x y,ty,pos,af,g⟩ τ η [id] [] (.ptr id ver i):=by
 subst hv
 have:=LOp.indexS (P:=P) (τ:=τ) (η:=η) (d:=d) (ty:=ty) (pos:=pos) (af:=af) (g:=g) (j:=i) he hs hx hi hj hb rfl rfl rfl
 rwa [Nat.zero_add,Nat.mul_one] at this
theorem zeros_one {f:Int→List AV} (hf:RowF f 1) {z:Value} (hz:z.cells=#[z]) (h0:f 0=[.v z]) (n:Nat):zerosA z (n * 1)=rF f (List.replicate n 0):=by
 rw [Nat.mul_one]
 have e:rF f (List.replicate n 0)=List.replicate n (.v z):=by
  induction n with
  | zero=>rfl
  | succ n ih=>rw [List.replicate_succ,rF_cons,ih,h0]; rfl
 rw [e]
 refine List.ext_getElem (by simp [zerosA]) fun i h h'=>?_
 have e2:i % (#[z]:Array Value).size=0:=Nat.mod_one i
 simp only [zerosA,List.getElem_map,List.getElem_range,List.getElem_replicate,hz,e2]; rfl
theorem LOp.makeZ {f:Int→List AV} (hf:RowF f 1) (u:Nat) {t e len by_:Nat} {z:Value} {x y:Operand} {v:Int} (he:P.underlying t=some (.slice e)) (hs:sizeInfo P e=some 1) (hz:zeroOf P e=some z) (hby:(P.info? e).map (·.bytes)=some by_) (hzc:z.cells=#[z]) (h0f:f 0=[.v z])
 (hx:aev τ x=.v (.int .i64 v)) (hy:aev τ y=.v (.int .i64 v)) (hv:v=((len:Nat):Int)) (hl:by_ * len≤140737488355328) (hl2:len≤140737488355328) (h0:len≠0) :
 LOp P ⟨d,.makeSlice t x y,ty,pos,af,g⟩ τ η [] [(u,some ⟨0,rF f (List.replicate len 0),1,false⟩)] (.sl u 0 0 len):=by
 rw [← zeros_one hf hzc h0f]; exact LOp.makeV u he hs hz hby hx hy hv hl hl2 h0
end
end Go.Proofs.YtbhhmbchdponjaaGreatDoor
