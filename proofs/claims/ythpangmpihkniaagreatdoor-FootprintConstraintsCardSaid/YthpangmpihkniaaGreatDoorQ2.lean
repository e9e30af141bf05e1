/- Texts of the claim. -/
import Derived.Lib.MinMax
import Derived.Lib.Bytealg
import Derived.Laws.Externs
import Derived.Test.YthpangmpihkniaaGreatDoorQ1
import Derived.Test.YthpangmpihkniaaGreatDoorE1
namespace Go.Proofs.YthpangmpihkniaaGreatDoor
set_option linter.unusedVariables false
set_option linter.unusedSimpArgs false
open Go.RowKit
section
variable {P:Program} {τ:Nat->AV} {η:au} {d:Option Tmp} {ty:TypeId} {pos:String} {af:Array Edge} {g:Option (Nat×Bool)}
theorem wt {t t':TypeId} {x y:Operand} {k k':Nat} (hx:aev τ x=.v (.int .i64 ((k:Nat):Int))) (hy:aev τ y=.v (.int .i64 1)) (hk:k=k'+1) (hb:k < 1000000) :
  LOp P ⟨d,.binOp .sub t x y t',ty,pos,af,g⟩ τ η [] [] (.v (.int .i64 ((k':Nat):Int))):=by
 have:=jz (P:=P) (τ:=τ) (η:=η) (d:=d) (ty:=ty) (pos:=pos) (af:=af) (g:=g) (t:=t) (t':=t') hx hy (by omega) (by omega)
 rwa [show ((k:Nat):Int) - 1=((k':Nat):Int) by omega] at this
theorem ah {α:Type} {t e n:Nat} {x i:Operand} {f:α->List AV} {l:List α} {v:Int} {j:Nat} (he:P.underlying t=some (.slice e)) (hs:aa P e=some n) (hx:aev τ x=.tree n (l.map f)) (hi:aev τ i=.v (.int .i64 v)) (hv:v=((j:Nat):Int)) (hj:j < l.length) :
  LOp P ⟨d,.indexAddr t x i,ty,pos,af,g⟩ τ η [] [] (.tp (f l[j]) 0):=by
 subst hv
 exact lI he hs hx hi hj
theorem ee {t len e n j o:Nat} {x i:Operand} {cs:List AV} {k:IntKind} (hu:P.underlying t=some (.array len e)) (hs:aa P e=some n) (hx:aev τ x=.tp cs o) (hi:aev τ i=.v (.int k (Int.ofNat j))) (hj:Nat.blt j len=true) :
  LOp P ⟨d,.indexAddr t x i,ty,pos,af,g⟩ τ η [] [] (.tp cs (o+j * n)) :=
 mm (u:=0) (r:=⟨[],[],.tp cs (o+j * n),0⟩) (by unfold mn; rw [hu]; simp only [hs,hi,hx,hj,cond_true])
theorem Fx {t:Nat} {x:Operand} {s:ByteArray} {ats:Array TypeId} (ha:ats[0]? = some t) (hu:P.underlying t=some .string) (hx:aev τ x=.v (.string s)) :
  LOp P ⟨d,.call { callee:=.builtin .len,args:=#[x],argTypes:=ats },ty,pos,af,g⟩ τ η [] [] (.v (.int .i64 ((s.size:Nat):Int))) :=
 .look [] fun C a hg hxs _=>by
  have h1:=hxs x (by simp [Op.operands,Call.operands])
  rw [hx] at h1
  have e1:=h1.v_inv
  refine ⟨_,?_,VR.v C _⟩
  simp [execOp,e1,resolve,invoke,builtin,Builtin.len_,ha,run_underlying hu,goInt]
/-- The byte at a place. -/
def bAt (s:ByteArray) (k:Nat):UInt8:=s.data.getD k 0
theorem M3 {s:ByteArray} {k:Nat} (h:k < s.size):s[k]? = some (bAt s k):=by
 have h1:k < s.data.size:=h
 rw [getElem?_pos s k h]
 unfold bAt
 simp [Array.getD,h1]
 rw [dif_pos h]
 rfl
theorem ru {t k:Nat} {x i:Operand} {s:ByteArray} (hu:P.underlying t=some .string) (hx:aev τ x=.v (.string s)) (hi:aev τ i=.v (.int .i64 ((k:Nat):Int))) (hk:k < s.size) :
  LOp P ⟨d,.index t x i,ty,pos,af,g⟩ τ η [] [] (.v (.int .u8 (((bAt s k).toNat:Nat):Int))) :=
 .look [] fun C a hg hxs _=>by
  have h1:=hxs x (by simp [Op.operands])
  have h2:=hxs i (by simp [Op.operands])
  rw [hx] at h1
  rw [hi] at h2
  have e1:=h1.v_inv
  have e2:=h2.v_inv
  refine ⟨_,?_,VR.v C _⟩
  simp only [execOp,e1,e2,Instr.index,asIntOf,Sem.run_bind,Sem.run_pure,Result.andThen_ok,run_underlying hu]
  have h0:(0:Int)<=((k:Nat):Int):=Int.natCast_nonneg k
  simp only [h0,if_true,Int.toNat_natCast,M3 hk,Sem.run_pure,Result.andThen_ok]
end
theorem ba {b c:Bool} (h:b=c):AV.v (.bool b)=AV.v (.bool c):=by rw [h]
theorem g8 {b c:Int} (h:b=c):AV.v (.int .i64 b)=AV.v (.int .i64 c):=by rw [h]
def rq (n:Nat) (p:Nat->Bool):Bool:=(List.range n).all p
theorem cp {n k:Nat} {p:Nat->Bool} (h:k < n) (hp:p k=false):rq n p=false:=by
 unfold rq
 rw [List.all_eq_false]
 exact ⟨k,List.mem_range.2 h,by simp [hp]⟩
theorem ci {n k:Nat} {p:Nat->Bool} (h:k<=n) (h':¬ k < n) (hp:∀ j,j < k->p j=true):rq n p=true:=by
 unfold rq
 rw [List.all_eq_true]
 exact fun j hj=>hp j (by have:=List.mem_range.1 hj; omega)
theorem ld {n:Nat} {p:Nat->Bool}:rq n p=true↔∀ j,j < n->p j=true:=by
 unfold rq
 rw [List.all_eq_true]
 exact ⟨fun h j hj=>h j (List.mem_range.2 hj),fun h j hj=>h j (List.mem_range.1 hj)⟩
def iA (n:Int):List AV:=[.v (.int .i64 n)]
abbrev isA (l:List Int):AV:=.tree 1 (l.map iA)
theorem bu {α:Type} {l:List α} {k:Nat} {d:α} (h:k < l.length):l.getD k d=l[k]:=by simp [List.getD,h]
theorem Ik {α:Type} {l:List α} {k:Nat} {d:α} (h:¬ k < l.length):l.getD k d=d:=by simp [List.getD,List.getElem?_eq_none (Nat.le_of_not_lt h)]
inductive UK where
 | sl (e:Nat)
 | str
 | bool
 | o
def Nk (P:Program) (t:Nat):UK:=match P.underlying t with
 | some (.slice e)=>.sl e
 | some .string=>.str
 | some .bool=>.bool
 | _=>.o
theorem Ax {P:Program} {t e:Nat} (h:Nk P t=.sl e):P.underlying t=some (.slice e):=by
 unfold Nk at h
 split at h <;> first | (cases h; assumption) | cases h
theorem Ci {P:Program} {t:Nat} (h:Nk P t=.str):P.underlying t=some .string:=by
 unfold Nk at h
 split at h <;> first | (cases h; assumption) | cases h
theorem yw {P:Program} {t:Nat} (h:Nk P t=.bool):P.underlying t=some .bool:=by
 unfold Nk at h
 split at h <;> first | (cases h; assumption) | cases h
/-- What is known of a type. k: 1 struct, 2 array, 0 else. -/
structure TI where
 ty:Nat
 und:UK
 row:Option Nat
 size:Nat
 bytes:Nat
 zero:Value
 k:Nat
 pl:List (Nat×Nat)
def fiL (P:Program) (i:TI):List (Option (Nat×Nat)):=match i.k with
 | 1=>(List.range i.pl.length).map (ir P i.ty)
 | _=>[]
def plL (P:Program) (i:TI):Option (List (Nat×Nat)):=match i.k with
 | 0=>none
 | _=>kz P i.ty
def TI.v1 (P:Program) (i:TI):=(Nk P i.ty,el P i.ty,aa P i.ty,(P.info? i.ty).map (·.bytes),ax P i.ty,plL P i,fiL P i)
def TI.v2 (i:TI):=(i.und,some i.row,some i.size,some i.bytes,some i.zero,(match i.k with | 0=>none | _=>some i.pl),(match i.k with | 1=>i.pl.map some | _=>[]))
structure TI.Ok (P:Program) (i:TI):Prop where
 und:Nk P i.ty=i.und
 row:el P i.ty=some i.row
 size:aa P i.ty=some i.size
 bytes:(P.info? i.ty).map (·.bytes)=some i.bytes
 zero:ax P i.ty=some i.zero
 pl:Nat.beq i.k 0=false->kz P i.ty=some i.pl
 fi:Nat.beq i.k 1=true->∀ j f,i.pl[j]? = some f->ir P i.ty j=some f
theorem TI.ok_of {P:Program} {i:TI} (h:i.v1 P=i.v2):i.Ok P:=by
 unfold TI.v1 TI.v2 at h
 simp only [Prod.mk.injEq] at h
 obtain ⟨h1,h2,h3,h4,h5,h6,h7⟩:=h
 refine ⟨h1,h2,h3,h4,h5,fun hk=>?_,fun hk j f hj=>?_⟩
 ·cases e:i.k with
  | zero=>rw [e] at hk; cases hk
  | succ n=>unfold plL at h6; simp only [e] at h6; exact h6
 ·have e:i.k=1:=Zg hk
  unfold fiL at h7
  rw [e] at h7
  obtain ⟨hlt,hf⟩:=List.getElem?_eq_some_iff.1 hj
  have:=congrArg (fun l=>l[j]?) h7
  simp only [List.getElem?_map,List.getElem?_range hlt,Option.map_some,hj] at this
  exact Option.some.inj this
def nu:List TI->Nat->Option TI
 | [],_=>none
 | i :: r,t=>bif Nat.beq i.ty t then some i else nu r t
/-- What is known of the program: its types, its functions that have bodies. -/
structure Inf where
 I:List TI
 B:List Nat
structure Inf.Ok (P:Program) (X:Inf):Prop where
 I:∀ i∈X.I,i.Ok P
 B:∀ f∈X.B,co P f=true
 m:P.follows .mixedOrders=true
theorem Inf.ok_of {P:Program} {X:Inf} (h1:X.I.map (TI.v1 P)=X.I.map TI.v2) (h2:X.B.all (co P)=true) (h3:P.follows .mixedOrders=true):X.Ok P:=by
 refine ⟨fun i hi=>TI.ok_of ?_,fun f hf=>List.all_eq_true.1 h2 f hf,h3⟩
 obtain ⟨j,hj,rfl⟩:=List.getElem_of_mem hi
 have:=congrArg (fun l=>l[j]?) h1
 simpa [hj] using this
theorem fx {P:Program} {X:Inf} (h:X.Ok P) {t:Nat} {i:TI} (hl:nu X.I t=some i):i.Ok P/\i.ty=t:=by
 have:∀ l:List TI,nu l t=some i->i∈l/\i.ty=t:=by
  intro l
  induction l with
  | nil=>intro h; cases h
  | cons a r ih=>
   intro h
   unfold nu at h
   cases hb:Nat.beq a.ty t with
   | true=>rw [hb] at h; simp only [cond_true,Zh] at h; subst h; exact ⟨by simp,Zg hb⟩
   | false=>rw [hb] at h; simp only [cond_false] at h; exact ⟨by simp [(ih h).1],(ih h).2⟩
 exact ⟨h.I _ (this _ hl).1,(this _ hl).2⟩
/-- A value in the form of a constructor. -/
def frc (a:AV) (k:AV->Prop):Prop:=match a with
 | .v x=>k (.v x)
 | .ptr i v o=>k (.ptr i v o)
 | .sl i v o n=>k (.sl i v o n)
 | .tree n xs=>k (.tree n xs)
 | .tp cs o=>k (.tp cs o)
 | .agg cs=>k (.agg cs)
 | .tup cs=>k (.tup cs)
 | .clo f cs=>k (.clo f cs)
 | .unk=>k .unk
 | .mp i v=>k (.mp i v)
 | .it i v=>k (.it i v)
theorem py {a:AV} {k:AV->Prop} (h:frc a k):k a:=by cases a <;> exact h
def Og:List AV->(List AV->Prop)->Prop
 | [],k=>k []
 | a :: r,k=>frc a fun a'=>Og r fun r'=>k (a' :: r')
theorem ow:∀ {l:List AV} {k:List AV->Prop},Og l k->k l
 | [],_,h=>h
 | a :: r,k,h=>ow (k:=fun r'=>k (a :: r')) (py (k:=fun a'=>Og r fun r'=>k (a' :: r')) h)
abbrev KT:=List Nat->List (Nat×Option Blk)->AV->Nat->Prop
/-- An operation that the prover takes himself. -/
inductive OpG (P:Program) (o:Oper) (τ:Nat->AV) (η:au) (u:Nat) (k:KT):Prop
 | mk (fp:List Nat) (δ:List (Nat×Option Blk)) (v:AV) (u':Nat) (hL:LOp P o τ η fp δ v) (hu:Nat.ble u u'=true) (hn:vh fp δ u u'=true) (h:k fp δ v u'):OpG P o τ η u k
inductive IdxG (xs:List (List AV)) (j:Nat) (k:AV->Prop):Prop
 | mk (hj:j < xs.length) (h:k (.tp xs[j] 0)):IdxG xs j k
inductive LenG (xs:List (List AV)) (k:AV->Prop):Prop
 | mk (h:k (.v (.int .i64 ((xs.length:Nat):Int)))):LenG xs k
theorem IdxG.of {α:Type} {f:α->List AV} {l:List α} {j:Nat} {k:AV->Prop} (hj:j < l.length) (h:k (.tp (f l[j]) 0)):IdxG (l.map f) j k:=by
 refine .mk (by rw [Zl]; exact hj) ?_
 rw [List.getElem_map]; exact h
theorem aw {α:Type} {f:α->List AV} {l:List α} {j:Nat} {cs:List AV} {k:AV->Prop} (hj:j < l.length) (hc:f l[j]=cs) (h:k (.tp cs 0)):IdxG (l.map f) j k:=by
 subst hc; exact .of hj h
theorem LenG.of {α:Type} {f:α->List AV} {l:List α} {k:AV->Prop} (h:k (.v (.int .i64 ((l.length:Nat):Int)))):LenG (l.map f) k:=by
 refine .mk ?_
 rw [Zl]; exact h
section
variable {P:Program} {X:Inf} {τ:Nat->AV} {η:au} {u:Nat} {k:KT} {d:Option Tmp} {ty:TypeId} {pos:String} {af:Array Edge} {g:Option (Nat×Bool)}
theorem OpG.lk {o:Oper} {fp:List Nat} {v:AV} (hL:LOp P o τ η fp [] v) (h:k fp [] v u):OpG P o τ η u k:=.mk fp [] v u hL (by simp [Nat.ble_eq]) rfl h
theorem OpG.nw {o:Oper} {b:Option Blk} {v:AV} (hL:LOp P o τ η [] [(u,b)] v) (ht:Nat.ble (u+1) TOP=true) (h:k [] [(u,b)] v (u+1)):OpG P o τ η u k:=.mk [] _ v (u+1) hL (by simp [Nat.ble_eq]) (zl ht) h
theorem OpG.wr {o:Oper} {b:Option Blk} {v:AV} {id:Nat} (hL:LOp P o τ η [id] [(id,b)] v) (ht:oq u id=true) (h:k [id] [(id,b)] v u):OpG P o τ η u k:=.mk [id] _ v u hL (by simp [Nat.ble_eq]) (Hv ht) h
theorem c9 {b:Bool} {A B:Prop} (h:cond b A B):(b=true/\A)\/(b=false/\B):=by cases b with
 | true=>exact .inl ⟨rfl,h⟩
 | false=>exact .inr ⟨rfl,h⟩
def P5 (P:Program) (o:Oper) (τ:Nat->AV) (η:au) (u:Nat) (c x y:Operand) (k:KT):Prop:=match aev τ c with
 | .v (.bool t)=>cond t (frc (aev τ x) fun v=>k [] [] v u) (frc (aev τ y) fun v=>k [] [] v u)
 | _=>OpG P o τ η u k
theorem Le {c x y:Operand} (h:P5 P ⟨d,.pick c x y,ty,pos,af,g⟩ τ η u c x y k):OpG P ⟨d,.pick c x y,ty,pos,af,g⟩ τ η u k:=by
 unfold P5 at h
 split at h
 ·rename_i t hc
  rcases c9 h with ⟨e,h'⟩ | ⟨e,h'⟩
  ·exact .lk (B3 hc e rfl) (py (k:=fun v=>k [] [] v u) h')
  ·exact .lk (B4 hc e rfl) (py (k:=fun v=>k [] [] v u) h')
 ·exact h
def Qp (P:Program) (X:Inf) (o:Oper) (τ:Nat->AV) (η:au) (u:Nat) (t:Nat) (x:Operand) (k:KT):Prop:=match nu X.I t with
 | none=>OpG P o τ η u k
 | some i=>match aev τ x with
  | .ptr id ver p=>match fm η id ver with
   | none=>OpG P o τ η u k
   | some b=>match i.row with
    | none=>match b.cs[p]? with
     | some v=>frc v fun v=>k [id] [] v u
     | none=>OpG P o τ η u k
    | some n=>match cn p n b.cs with
     | some ds=>k [id] [] (.agg ds) u
     | none=>OpG P o τ η u k
  | .tp cs p=>match i.row with
   | none=>match cs[p]? with
    | some v=>frc v fun v=>k [] [] v u
    | none=>OpG P o τ η u k
   | some n=>match cn p n cs with
    | some ds=>k [] [] (.agg ds) u
    | none=>OpG P o τ η u k
  | _=>OpG P o τ η u k
theorem Lv (hX:X.Ok P) {t:Nat} {x:Operand} (h:Qp P X ⟨d,.load t x,ty,pos,af,g⟩ τ η u t x k):OpG P ⟨d,.load t x,ty,pos,af,g⟩ τ η u k:=by
 unfold Qp at h
 split at h
 ·exact h
 ·rename_i i hi
  obtain ⟨hI,rfl⟩:=fx hX hi
  split at h
  ·rename_i id ver p hx
   split at h
   ·exact h
   ·rename_i b hb
    obtain ⟨h1,h2,h3⟩:=cb hb
    split at h
    ·rename_i hr
     split at h
     ·rename_i v hv
      exact .lk (lD (hI.row.trans (by rw [hr])) hx h1 h2 h3 hv) (py h)
     ·exact h
    ·rename_i n hr
     split at h
     ·rename_i ds hv
      exact .lk (q9 (hI.row.trans (by rw [hr])) hx h1 h2 h3 hv) h
     ·exact h
  ·rename_i cs p hx
   split at h
   ·rename_i hr
    split at h
    ·rename_i v hv
     exact .lk (lE (hI.row.trans (by rw [hr])) hx hv) (py h)
    ·exact h
   ·rename_i n hr
    split at h
    ·rename_i ds hv
     exact .lk (aq (hI.row.trans (by rw [hr])) hx hv) h
    ·exact h
  ·exact h
def Bn (P:Program) (X:Inf) (o:Oper) (τ:Nat->AV) (η:au) (u:Nat) (t:Nat) (x:Operand) (j:Nat) (k:KT):Prop:=match nu X.I t with
 | none=>OpG P o τ η u k
 | some i=>bif Nat.beq i.k 1 then match i.pl[j]? with
  | none=>OpG P o τ η u k
  | some (off,sz)=>bif Nat.beq sz 0 then OpG P o τ η u k else match aev τ x with
   | .ptr id ver p=>match fm η id ver with
    | none=>OpG P o τ η u k
    | some b=>k [id] [] (.ptr id ver (p+off)) u
   | .tp cs p=>k [] [] (.tp cs (p+off)) u
   | _=>OpG P o τ η u k
  else OpG P o τ η u k
theorem E5 (hX:X.Ok P) {t j:Nat} {x:Operand} (h:Bn P X ⟨d,.fieldAddr t x j,ty,pos,af,g⟩ τ η u t x j k):OpG P ⟨d,.fieldAddr t x j,ty,pos,af,g⟩ τ η u k:=by
 unfold Bn at h
 split at h
 ·exact h
 ·rename_i i hi
  obtain ⟨hI,rfl⟩:=fx hX hi
  rcases c9 h with ⟨hk,h⟩ | ⟨hk,h⟩
  ·split at h
   ·exact h
   ·rename_i off sz hp
    have hf:=hI.fi hk _ _ hp
    rcases c9 h with ⟨hz,h⟩ | ⟨hz,h⟩
    ·exact h
    ·split at h
     ·rename_i id ver p hx
      split at h
      ·exact h
      ·rename_i b hb
       obtain ⟨h1,h2,h3⟩:=cb hb
       exact .lk (lF hf hz hx h1 h2 h3) h
     ·rename_i cs p hx
      exact .lk (j9 hf hz hx) h
     ·exact h
  ·exact h
def Bk (P:Program) (X:Inf) (o:Oper) (τ:Nat->AV) (η:au) (u:Nat) (t:Nat) (x y:Operand) (k:KT):Prop:=match nu X.I t with
 | none=>OpG P o τ η u k
 | some i=>match i.und with
  | .sl e=>match nu X.I e with
   | none=>OpG P o τ η u k
   | some q=>match aev τ x with
    | .tree n xs=>match aev τ y with
     | .v (.int .i64 (.ofNat j))=>bif Nat.beq q.size n then IdxG xs j fun v=>k [] [] v u else OpG P o τ η u k
     | _=>OpG P o τ η u k
    | .sl id ver off len=>match aev τ y with
     | .v (.int .i64 (.ofNat j))=>match fm η id ver with
      | some b=>bif Nat.beq b.esz q.size then j < len/\k [id] [] (.ptr id ver (off+j * q.size)) u else OpG P o τ η u k
      | none=>OpG P o τ η u k
     | _=>OpG P o τ η u k
    | _=>OpG P o τ η u k
  | _=>OpG P o τ η u k
theorem Ex (hX:X.Ok P) {t:Nat} {x y:Operand} (h:Bk P X ⟨d,.indexAddr t x y,ty,pos,af,g⟩ τ η u t x y k):OpG P ⟨d,.indexAddr t x y,ty,pos,af,g⟩ τ η u k:=by
 unfold Bk at h
 split at h
 ·exact h
 ·rename_i i hi
  obtain ⟨hI,rfl⟩:=fx hX hi
  split at h
  ·rename_i e he
   have hu:=Ax (hI.und.trans he)
   split at h
   ·exact h
   ·rename_i q hq
    obtain ⟨hQ,rfl⟩:=fx hX hq
    split at h
    ·rename_i n xs hx
     split at h
     ·rename_i j hj
      rcases c9 h with ⟨hz,h'⟩ | ⟨hz,h⟩
      ·obtain ⟨hl,h'⟩:=h'
       have hn:q.size=n:=Zg hz
       subst hn
       have:=lI (P:=P) (τ:=τ) (η:=η) (d:=d) (ty:=ty) (pos:=pos) (af:=af) (g:=g) (f:=fun r:List AV=>r) (l:=xs) hu hQ.size (by rw [hx]; simp) hj hl
       exact .lk this h'
      ·exact h
     ·exact h
    ·rename_i id ver off len hx
     split at h
     ·rename_i j hj
      split at h
      ·rename_i b hb
       obtain ⟨h1,h2,h3⟩:=cb hb
       rcases c9 h with ⟨hz,h⟩ | ⟨hz,h⟩
       ·exact .lk (nq hu hQ.size hx hj h.1 h1 h2 h3 (Zg hz)) h.2
       ·exact h
      ·exact h
     ·exact h
    ·exact h
  ·exact h
def uh (P:Program) (X:Inf) (o:Oper) (τ:Nat->AV) (η:au) (u:Nat) (t:Nat) (x y:Operand) (k:KT):Prop:=match nu X.I t with
 | none=>OpG P o τ η u k
 | some i=>match i.und with
  | .str=>match aev τ x with
   | .v (.string s)=>match aev τ y with
    | .v (.int .i64 (.ofNat j))=>j < s.size/\k [] [] (.v (.int .u8 ((bAt s j).toNat:Int))) u
    | _=>OpG P o τ η u k
   | _=>OpG P o τ η u k
  | _=>OpG P o τ η u k
theorem zo (hX:X.Ok P) {t:Nat} {x y:Operand} (h:uh P X ⟨d,.index t x y,ty,pos,af,g⟩ τ η u t x y k):OpG P ⟨d,.index t x y,ty,pos,af,g⟩ τ η u k:=by
 unfold uh at h
 split at h
 ·exact h
 ·rename_i i hi
  obtain ⟨hI,rfl⟩:=fx hX hi
  split at h
  ·rename_i he
   have hu:=Ci (hI.und.trans he)
   split at h
   ·rename_i s hx
    split at h
    ·rename_i j hj
     exact .lk (ru hu hx hj h.1) h.2
    ·exact h
   ·exact h
  ·exact h
def Gr (P:Program) (X:Inf) (o:Oper) (τ:Nat->AV) (η:au) (u:Nat) (t:Nat) (x y:Operand) (k:KT):Prop:=match nu X.I t with
 | none=>OpG P o τ η u k
 | some i=>match aev τ x with
  | .ptr id ver p=>match η id with
   | some ⟨w,cs,z,np⟩=>bif Nat.beq w ver&&!np&&oq u id then match gu (aev τ y) with
    | some vs=>Og vs fun vs=>bif Nat.beq vs.length i.size&&vs.all AV.one then match sb p cs vs with
     | some ds=>k [id] [(id,some ⟨w,ds,z,np⟩)] (.v undef) u
     | none=>OpG P o τ η u k
     else OpG P o τ η u k
    | none=>OpG P o τ η u k
    else OpG P o τ η u k
   | none=>OpG P o τ η u k
  | _=>OpG P o τ η u k
theorem Gq (hX:X.Ok P) {t:Nat} {x y:Operand} (h:Gr P X ⟨d,.store t x y,ty,pos,af,g⟩ τ η u t x y k):OpG P ⟨d,.store t x y,ty,pos,af,g⟩ τ η u k:=by
 unfold Gr at h
 split at h
 ·exact h
 ·rename_i i hi
  obtain ⟨hI,rfl⟩:=fx hX hi
  split at h
  ·rename_i id ver p hx
   split at h
   ·rename_i w cs z np hb
    rcases c9 h with ⟨hc,h⟩ | ⟨hc,h⟩
    ·simp only [Bool.and_eq_true,Bool.not_eq_true'] at hc
     split at h
     ·rename_i vs hv
      rcases c9 (ow h) with ⟨hz,h⟩ | ⟨hz,h⟩
      ·rw [Bool.and_eq_true] at hz
       split at h
       ·rename_i ds hd
        exact .wr (LOp.st hI.size hx hb (Zg hc.1.1) hc.1.2 hv (Zg hz.1) hz.2 hd) hc.2 h
       ·exact h
      ·exact h
     ·exact h
    ·exact h
   ·exact h
  ·exact h
def T6 (P:Program) (o:Oper) (τ:Nat->AV) (η:au) (u:Nat) (cs:Option (List AV)) (k:KT):Prop:=match cs with
 | some vs=>bif Nat.ble (u+1) TOP then Og vs fun vs=>k [] [(u,some ⟨0,vs,0,false⟩)] (.ptr u 0 0) (u+1) else OpG P o τ η u k
 | none=>OpG P o τ η u k
theorem R0 {t:Nat} {x:Operand} (h:T6 P ⟨d,.box t x,ty,pos,af,g⟩ τ η u (gu (aev τ x)) k):OpG P ⟨d,.box t x,ty,pos,af,g⟩ τ η u k:=by
 unfold T6 at h
 split at h
 ·rename_i vs hv
  rcases c9 h with ⟨hz,h⟩ | ⟨hz,h⟩
  ·have h:=ow h
   exact .nw (O4 hv) hz h
  ·exact h
 ·exact h
def Jy (P:Program) (X:Inf) (o:Oper) (τ:Nat->AV) (η:au) (u:Nat) (t:Nat) (k:KT):Prop:=match nu X.I t with
 | none=>OpG P o τ η u k
 | some i=>T6 P o τ η u (gu (.v i.zero)) k
theorem Jx (hX:X.Ok P) {t:Nat} (h:Jy P X ⟨d,.alloc t,ty,pos,af,g⟩ τ η u t k):OpG P ⟨d,.alloc t,ty,pos,af,g⟩ τ η u k:=by
 unfold Jy at h
 split at h
 ·exact h
 ·rename_i i hi
  obtain ⟨hI,rfl⟩:=fx hX hi
  unfold T6 at h
  split at h
  ·rename_i vs hv
   rcases c9 h with ⟨hz,h⟩ | ⟨hz,h⟩
   ·have h:=ow h
    exact .nw (O5 hI.zero hv) hz h
   ·exact h
  ·exact h
def Jn (P:Program) (X:Inf) (o:Oper) (τ:Nat->AV) (η:au) (u:Nat) (t:Nat) (parts:Array (Nat×Operand)) (k:KT):Prop:=match nu X.I t with
 | none=>OpG P o τ η u k
 | some i=>bif Nat.beq i.k 0 then OpG P o τ η u k else match gu (.v i.zero) with
  | none=>OpG P o τ η u k
  | some cs=>match x6 i.pl cs (kc τ parts) with
   | some out=>Og out fun out=>k [] [] (.agg out) u
   | none=>OpG P o τ η u k
theorem Jm (hX:X.Ok P) {t:Nat} {parts:Array (Nat×Operand)} (h:Jn P X ⟨d,.build t parts,ty,pos,af,g⟩ τ η u t parts k):OpG P ⟨d,.build t parts,ty,pos,af,g⟩ τ η u k:=by
 unfold Jn at h
 split at h
 ·exact h
 ·rename_i i hi
  obtain ⟨hI,rfl⟩:=fx hX hi
  rcases c9 h with ⟨hz,h⟩ | ⟨hz,h⟩
  ·exact h
  ·split at h
   ·exact h
   ·rename_i cs hc
    split at h
    ·rename_i out ho
     have h:=ow h
     exact .lk (LOp.bd hI.zero (hI.pl hz) hc ho) h
    ·exact h
def ye (P:Program) (X:Inf) (o:Oper) (τ:Nat->AV) (η:au) (u:Nat) (t len:Nat) (parts:Array (Nat×Operand)) (k:KT):Prop:=match nu X.I t with
 | none=>OpG P o τ η u k
 | some i=>match i.und with
  | .sl e=>match nu X.I e with
   | none=>OpG P o τ η u k
   | some q=>bif Nat.ble (u+1) TOP&&Nat.ble (len * q.size) 16777216&&Nat.ble len 16777216&&!Nat.beq (len * q.size) 0 then match x6 (qj len q.size) (bz q.zero (len * q.size)) (kc τ parts) with
    | some out=>Og out fun out=>k [] [(u,some ⟨TV,out,q.size,false⟩)] (.sl u TV 0 len) (u+1)
    | none=>OpG P o τ η u k
    else OpG P o τ η u k
  | _=>OpG P o τ η u k
theorem Bx (hX:X.Ok P) {t len:Nat} {parts:Array (Nat×Operand)} (h:ye P X ⟨d,.buildSlice t len parts,ty,pos,af,g⟩ τ η u t len parts k):OpG P ⟨d,.buildSlice t len parts,ty,pos,af,g⟩ τ η u k:=by
 unfold ye at h
 split at h
 ·exact h
 ·rename_i i hi
  obtain ⟨hI,rfl⟩:=fx hX hi
  split at h
  ·rename_i e he
   have hu:=Ax (hI.und.trans he)
   split at h
   ·exact h
   ·rename_i q hq
    obtain ⟨hQ,rfl⟩:=fx hX hq
    rcases c9 h with ⟨hc,h⟩ | ⟨hc,h⟩
    ·simp only [Bool.and_eq_true,Bool.not_eq_true'] at hc
     split at h
     ·rename_i out ho
      have h:=ow h
      exact .nw (qe hu hQ.size hQ.zero hc.1.1.2 hc.1.2 hc.2 ho) hc.1.1.1 h
     ·exact h
    ·exact h
  ·exact h
def X1 (P:Program) (o:Oper) (τ:Nat->AV) (η:au) (u:Nat) (x:Operand) (k:KT):Prop:=match aev τ x with
 | .ptr id ver p=>match fm η id ver with
  | some b=>k [id] [] (.ptr id ver p) u
  | none=>OpG P o τ η u k
 | .tp cs p=>k [] [] (.tp cs p) u
 | _=>OpG P o τ η u k
theorem Qi {x:Operand} (h:X1 P ⟨d,.nilCheck x,ty,pos,af,g⟩ τ η u x k):OpG P ⟨d,.nilCheck x,ty,pos,af,g⟩ τ η u k:=by
 unfold X1 at h
 split at h
 ·rename_i id ver p hx
  split at h
  ·rename_i b hb
   obtain ⟨h1,h2,h3⟩:=cb hb
   exact .lk (lN hx h1 h2) h
  ·exact h
 ·rename_i cs p hx
  exact .lk (p9 hx) h
 ·exact h
def x9 (P:Program) (o:Oper) (τ:Nat->AV) (η:au) (u:Nat) (x:Operand) (j:Nat) (k:KT):Prop:=match aev τ x with
 | .tup cs=>match cs[j]? with
  | some v=>frc v fun v=>k [] [] v u
  | none=>OpG P o τ η u k
 | _=>OpG P o τ η u k
theorem Bo {x:Operand} {j:Nat} (h:x9 P ⟨d,.extract x j,ty,pos,af,g⟩ τ η u x j k):OpG P ⟨d,.extract x j,ty,pos,af,g⟩ τ η u k:=by
 unfold x9 at h
 split at h
 ·rename_i cs hx
  split at h
  ·rename_i v hv
   exact .lk (LOp.extract hx hv) (py h)
  ·exact h
 ·exact h
end
def cmpI (b:BinOp) (m n:Int):Option Bool:=match b with
 | .eql=>some (m==n)
 | .neq=>some (m != n)
 | .lss=>some (decide (m < n))
 | .leq=>some (decide (m<=n))
 | .gtr=>some (decide (m > n))
 | .geq=>some (decide (m≥n))
 | _=>none
def cmpT (b:BinOp) (s r:ByteArray):Option Bool:=match b with
 | .eql=>some (s.toList==r.toList)
 | .neq=>some (!(s.toList==r.toList))
 | .lss=>some (Op.bytesLess s.toList r.toList)
 | .leq=>some (Op.bytesLess s.toList r.toList||s.toList==r.toList)
 | .gtr=>some (!(Op.bytesLess s.toList r.toList||s.toList==r.toList))
 | .geq=>some (!Op.bytesLess s.toList r.toList)
 | _=>none
section
variable {P:Program} {X:Inf} {τ:Nat->AV} {η:au} {u:Nat} {k:KT} {d:Option Tmp} {ty:TypeId} {pos:String} {af:Array Edge} {g:Option (Nat×Bool)}
theorem LOp.cmpI {t t':TypeId} {b:BinOp} {x y:Operand} {m n:Int} {kk:IntKind} {v:Bool} (hx:aev τ x=.v (.int kk m)) (hy:aev τ y=.v (.int kk n)) (h:cmpI b m n=some v):LOp P ⟨d,.binOp b t x y t',ty,pos,af,g⟩ τ η [] [] (.v (.bool v)) :=
 .look [] fun C a hg hxs _=>⟨.bool v,by
  have e1:=hxs x (by simp [Op.operands])
  have e2:=hxs y (by simp [Op.operands])
  rw [hx] at e1
  rw [hy] at e2
  have e1':=e1.v_inv
  have e2':=e2.v_inv
  have hgd:∀ w:World,(eqGuard b t x y (.int kk m) (.int kk n)).run P w=.ok () w:=by
   intro w
   unfold eqGuard
   split <;> rfl
  have hb:∀ w:World,(Go.binOp b t (.int kk m) (.int kk n)).run P w=.ok (.bool v) w:=by
   intro w
   cases b <;> simp only [Go.Proofs.YthpangmpihkniaaGreatDoor.cmpI] at h <;> first
    | (cases h; done)
    | (obtain rfl:=Option.some.inj h; simp [Go.binOp,Op.intCmp])
  simp only [execOp,e1',e2',Sem.run_bind,hgd,Result.andThen_ok,hb]
  rfl,VR.v C _⟩
theorem LOp.cmpT {t t':TypeId} {b:BinOp} {x y:Operand} {m n:ByteArray} {v:Bool} (hx:aev τ x=.v (.string m)) (hy:aev τ y=.v (.string n)) (h:cmpT b m n=some v):LOp P ⟨d,.binOp b t x y t',ty,pos,af,g⟩ τ η [] [] (.v (.bool v)) :=
 .look [] fun C a hg hxs _=>⟨.bool v,by
  have e1:=hxs x (by simp [Op.operands])
  have e2:=hxs y (by simp [Op.operands])
  rw [hx] at e1
  rw [hy] at e2
  have e1':=e1.v_inv
  have e2':=e2.v_inv
  have hgd:∀ w:World,(eqGuard b t x y (.string m) (.string n)).run P w=.ok () w:=by
   intro w
   unfold eqGuard
   split <;> rfl
  have hb:∀ w:World,(Go.binOp b t (.string m) (.string n)).run P w=.ok (.bool v) w:=by
   intro w
   cases b <;> simp only [Go.Proofs.YthpangmpihkniaaGreatDoor.cmpT] at h <;> first
    | (cases h; done)
    | (obtain rfl:=Option.some.inj h; rfl)
  simp only [execOp,e1',e2',Sem.run_bind,hgd,Result.andThen_ok,hb]
  rfl,VR.v C _⟩
def Vq (P:Program) (o:Oper) (τ:Nat->AV) (η:au) (u:Nat) (b:BinOp) (m n:Int) (k:KT):Prop:=match cmpI b m n with
 | some v=>k [] [] (.v (.bool v)) u
 | none=>match b with
  | .add=>(-9223372036854775808<=m+n/\m+n<=9223372036854775807)/\k [] [] (.v (.int .i64 (m+n))) u
  | .sub=>(-9223372036854775808<=m - n/\m - n<=9223372036854775807)/\k [] [] (.v (.int .i64 (m - n))) u
  | _=>OpG P o τ η u k
def Vp (P:Program) (o:Oper) (τ:Nat->AV) (η:au) (u:Nat) (b:BinOp) (m n:ByteArray) (k:KT):Prop:=match cmpT b m n with
 | some v=>k [] [] (.v (.bool v)) u
 | none=>match b with
  | .add=>m.size+n.size<=9223372036854775807/\k [] [] (.v (.string (m++n))) u
  | _=>OpG P o τ η u k
def Vr (P:Program) (X:Inf) (o:Oper) (τ:Nat->AV) (η:au) (u:Nat) (b:BinOp) (t:Nat) (p q:Bool) (k:KT):Prop:=match nu X.I t with
 | none=>OpG P o τ η u k
 | some i=>match i.und with
  | .bool=>match b with
   | .eql=>k [] [] (.v (.bool (p==q))) u
   | .neq=>k [] [] (.v (.bool (!(p==q)))) u
   | _=>OpG P o τ η u k
  | _=>OpG P o τ η u k
def Y5 (P:Program) (X:Inf) (o:Oper) (τ:Nat->AV) (η:au) (u:Nat) (b:BinOp) (t:Nat) (x y:Operand) (k:KT):Prop:=match aev τ x with
 | .v (.int .i64 m)=>match aev τ y with
  | .v (.int .i64 n)=>Vq P o τ η u b m n k
  | _=>OpG P o τ η u k
 | .v (.int .u8 m)=>match aev τ y with
  | .v (.int .u8 n)=>match cmpI b m n with
   | some v=>k [] [] (.v (.bool v)) u
   | none=>OpG P o τ η u k
  | _=>OpG P o τ η u k
 | .v (.string m)=>match aev τ y with
  | .v (.string n)=>Vp P o τ η u b m n k
  | _=>OpG P o τ η u k
 | .v (.bool p)=>match aev τ y with
  | .v (.bool q)=>Vr P X o τ η u b t p q k
  | _=>OpG P o τ η u k
 | _=>OpG P o τ η u k
theorem R7 (hX:X.Ok P) {t t':Nat} {b:BinOp} {x y:Operand} (h:Y5 P X ⟨d,.binOp b t x y t',ty,pos,af,g⟩ τ η u b t x y k):OpG P ⟨d,.binOp b t x y t',ty,pos,af,g⟩ τ η u k:=by
 unfold Y5 at h
 split at h
 ·rename_i m hx
  split at h
  ·rename_i n hy
   unfold Vq at h
   split at h
   ·rename_i v hv
    exact .lk (LOp.cmpI hx hy hv) h
   ·split at h
    ·exact .lk (lJ hx hy h.1.1 h.1.2) h.2
    ·exact .lk (jz hx hy h.1.1 h.1.2) h.2
    ·exact h
  ·exact h
 ·rename_i m hx
  split at h
  ·rename_i n hy
   split at h
   ·rename_i v hv
    exact .lk (LOp.cmpI hx hy hv) h
   ·exact h
  ·exact h
 ·rename_i m hx
  split at h
  ·rename_i n hy
   unfold Vp at h
   split at h
   ·rename_i v hv
    exact .lk (LOp.cmpT hx hy hv) h
   ·split at h
    ·exact .lk (F2 hx hy h.1) h.2
    ·exact h
  ·exact h
 ·rename_i p hx
  split at h
  ·rename_i q hy
   unfold Vr at h
   split at h
   ·exact h
   ·rename_i i hi
    obtain ⟨hI,rfl⟩:=fx hX hi
    split at h
    ·rename_i hu
     split at h
     ·exact .lk (Si hx hy (yw (hI.und.trans hu))) h
     ·exact .lk (Sh hx hy (yw (hI.und.trans hu))) h
     ·exact h
    ·exact h
  ·exact h
 ·exact h
def X0 (P:Program) (o:Oper) (τ:Nat->AV) (η:au) (u:Nat) (x:Operand) (k:KT):Prop:=match aev τ x with
 | .v (.bool b)=>k [] [] (.v (.bool (!b))) u
 | _=>OpG P o τ η u k
theorem Qh {t:Nat} {x:Operand} (h:X0 P ⟨d,.unOp .not t x,ty,pos,af,g⟩ τ η u x k):OpG P ⟨d,.unOp .not t x,ty,pos,af,g⟩ τ η u k:=by
 unfold X0 at h
 split at h
 ·rename_i b hx
  exact .lk (x8 (by unfold E6; simp only [hx])) h
 ·exact h
def X3 (P:Program) (X:Inf) (o:Oper) (τ:Nat->AV) (η:au) (u:Nat) (t:Nat) (x:Operand) (k:KT):Prop:=match nu X.I t with
 | none=>OpG P o τ η u k
 | some i=>match i.und with
  | .sl e=>match aev τ x with
   | .tree n xs=>LenG xs fun v=>k [] [] v u
   | .sl id ver off len=>match fm η id ver with
    | some b=>k [id] [] (.v (.int .i64 ((len:Nat):Int))) u
    | none=>OpG P o τ η u k
   | .v (.slice none 0 0)=>k [] [] (.v (.int .i64 0)) u
   | _=>OpG P o τ η u k
  | .str=>match aev τ x with
   | .v (.string s)=>k [] [] (.v (.int .i64 ((s.size:Nat):Int))) u
   | _=>OpG P o τ η u k
  | _=>OpG P o τ η u k
theorem Qs (hX:X.Ok P) {t:Nat} {x:Operand} {ats:Array TypeId} (ha:ats[0]? = some t) (h:X3 P X ⟨d,.call { callee:=.builtin .len,args:=#[x],argTypes:=ats },ty,pos,af,g⟩ τ η u t x k):OpG P ⟨d,.call { callee:=.builtin .len,args:=#[x],argTypes:=ats },ty,pos,af,g⟩ τ η u k:=by
 unfold X3 at h
 split at h
 ·exact h
 ·rename_i i hi
  obtain ⟨hI,rfl⟩:=fx hX hi
  split at h
  ·rename_i e he
   have hu:=Ax (hI.und.trans he)
   split at h
   ·rename_i n xs hx
    obtain ⟨h⟩:=h
    exact .lk (lT (n:=n) (f:=fun r:List AV=>r) (l:=xs) ha hu (by rw [hx]; simp)) h
   ·rename_i id ver off len hx
    split at h
    ·rename_i b hb
     obtain ⟨h1,h2,h3⟩:=cb hb
     exact .lk (nk ha hu hx h1 h2) h
    ·exact h
   ·rename_i hx
    exact .lk (Fy ha hu hx) h
   ·exact h
  ·rename_i he
   have hu:=Ci (hI.und.trans he)
   split at h
   ·rename_i s hx
    exact .lk (Fx ha hu hx) h
   ·exact h
  ·exact h
def Qm (n:Nat):List Nat->Bool
 | []=>false
 | a :: r=>bif Nat.beq a n then true else Qm n r
theorem Hx {n:Nat}:∀ {l:List Nat},Qm n l=true->n∈l
 | [],h=>by cases h
 | a :: r,h=>by
  unfold Qm at h
  cases hb:Nat.beq a n with
  | true=>rw [Zg hb]; simp
  | false=>rw [hb] at h; exact List.mem_cons_of_mem _ (Hx h)
/-- A call of plain arguments. -/
inductive ArgG (P:Program) (f:FuncId) (args:List AV) (k:AV->Prop):Prop
 | mk {R:AV->Prop} (h:PRet P f args R) (hp:ay args=true) (hk:∀ ret,R ret->k ret):ArgG P f args k
def Ru (P:Program) (X:Inf) (o:Oper) (τ:Nat->AV) (η:au) (u:Nat) (f:FuncId) (xs:List Operand) (k:KT):Prop :=
 bif Qm f X.B then Og (xs.map (aev τ)) fun ys=>ArgG P f ys fun v=>frc v fun v=>k [] [] v u else OpG P o τ η u k
theorem Mw (hX:X.Ok P) {f:FuncId} {xs:Array Operand} {ats:Array TypeId} (h:Ru P X ⟨d,.call { callee:=.value (.func f),args:=xs,argTypes:=ats },ty,pos,af,g⟩ τ η u f xs.toList k):OpG P ⟨d,.call { callee:=.value (.func f),args:=xs,argTypes:=ats },ty,pos,af,g⟩ τ η u k:=by
 unfold Ru at h
 rcases c9 h with ⟨hb,h⟩ | ⟨hb,h⟩
 ·obtain ⟨⟨ret,hR,hc⟩,hp,hk⟩:=ow h
  exact .lk (LOp.call (hX.B _ (Hx hb)) hp hc) (py (k:=fun v=>k [] [] v u) (hk ret hR))
 ·exact h
/-- Operations that the prover takes himself are named by what they fill; stores by the slot of the pointer (from 100000 on). -/
def keyO (o:Oper):Nat:=match o.dst with
 | some d=>d
 | none=>match o.op with
  | .store _ (.tmp q) _=>q+100000
  | _=>99999
def Pp (P:Program) (X:Inf) (cu:List Nat) (o:Oper) (τ:Nat->AV) (η:au) (u:Nat) (k:KT):Prop :=
 bif Qm (keyO o) cu then OpG P o τ η u k else match o.op with
 | .move x=>frc (aev τ x) fun v=>k [] [] v u
 | .assign x=>frc (aev τ x) fun v=>k [] [] v u
 | .pick c x y=>P5 P o τ η u c x y k
 | .load t x=>Qp P X o τ η u t x k
 | .store t x y=>Gr P X o τ η u t x y k
 | .fieldAddr t x j=>Bn P X o τ η u t x j k
 | .indexAddr t x y=>Bk P X o τ η u t x y k
 | .index t x y=>uh P X o τ η u t x y k
 | .box t x=>T6 P o τ η u (gu (aev τ x)) k
 | .alloc t=>Jy P X o τ η u t k
 | .build t parts=>Jn P X o τ η u t parts k
 | .buildSlice t len parts=>ye P X o τ η u t len parts k
 | .nilCheck x=>X1 P o τ η u x k
 | .extract x j=>x9 P o τ η u x j k
 | .binOp b t x y _=>Y5 P X o τ η u b t x y k
 | .unOp .not _ x=>X0 P o τ η u x k
 | .call ⟨.value (.func f),xs,_⟩=>Ru P X o τ η u f xs.toList k
 | .call ⟨.builtin .len,⟨[x]⟩,ats⟩=>match ats[0]? with
  | some t=>X3 P X o τ η u t x k
  | none=>OpG P o τ η u k
 | _=>OpG P o τ η u k
theorem Kx (hX:X.Ok P) {cu:List Nat} {o:Oper} (h:Pp P X cu o τ η u k):OpG P o τ η u k:=by
 obtain ⟨d,op,ty,pos,af,g⟩:=o
 unfold Pp at h
 rcases c9 h with ⟨_,h⟩ | ⟨_,h⟩
 ·exact h
 simp only at h
 split at h
 ·exact .lk (LOp.move _) (py (k:=fun v=>k [] [] v u) h)
 ·exact .lk (LOp.assign _) (py (k:=fun v=>k [] [] v u) h)
 ·exact Le h
 ·exact Lv hX h
 ·exact Gq hX h
 ·exact E5 hX h
 ·exact Ex hX h
 ·exact zo hX h
 ·exact R0 h
 ·exact Jx hX h
 ·exact Jm hX h
 ·exact Bx hX h
 ·exact Qi h
 ·exact Bo h
 ·exact R7 hX h
 ·exact Qh h
 ·exact Mw hX h
 ·split at h
  ·rename_i t ht
   exact Qs hX ht h
  ·exact h
 ·exact h
end
inductive GS where
 | no
 | on (q:Nat) (b:Bool)
 | bad
def Md (ops:Array Oper) (o:Oper):GS:=match o.guard with
 | none=>.no
 | some (j,b)=>match (ops[j]?).bind (·.dst) with
  | some d=>.on d b
  | none=>.bad
abbrev KR:=List Rec->(Nat->AV)->au->Nat->Prop
def eqB':Bool->Bool->Bool
 | true,b=>b
 | false,b=>!b
def Mp (d:Option Tmp) (τ:Nat->AV) (η:au) (δ:List (Nat×Option Blk)) (v:AV) (u:Nat) (K:(Nat->AV)->au->Nat->Prop):Prop:=match d with
 | some d=>match δ with
  | []=>K (upd τ d v) η u
  | [(i,b)]=>K (upd τ d v) (η.set i b) u
  | δ=>K (upd τ d v) (η.put δ) u
 | none=>match δ with
  | []=>K τ η u
  | [(i,b)]=>K τ (η.set i b) u
  | δ=>K τ (η.put δ) u
theorem Dv {d:Option Tmp} {τ:Nat->AV} {η:au} {δ:List (Nat×Option Blk)} {v:AV} {u:Nat} {K:(Nat->AV)->au->Nat->Prop} (h:Mp d τ η δ v u K):K (kr τ d v) (η.put δ) u:=by
 unfold Mp at h
 repeat' split at h
 all_goals exact h
/-- Two ways. -/
inductive SpI (t:Bool) (A B:Prop):Prop
 | mk (ht:t=true->A) (hf:t=false->B):SpI t A B
theorem SpI.at {t:Bool} {A B:Prop} (h:SpI t A B):(t=true/\A)\/(t=false/\B):=by
 obtain ⟨h1,h2⟩:=h
 cases t with
 | true=>exact .inl ⟨rfl,h1 rfl⟩
 | false=>exact .inr ⟨rfl,h2 rfl⟩
theorem cB {t:Bool} {A B:Prop} (ht:t=true->A) (hf:t=false->B):SpI t A B:=⟨ht,hf⟩
theorem cT {A B:Prop} (h:A):SpI true A B:=⟨fun _=>h,fun e=>Bool.noConfusion e⟩
theorem cF {A B:Prop} (h:B):SpI false A B:=⟨fun e=>Bool.noConfusion e,fun _=>h⟩
abbrev KV:=List Nat->KR->(Nat->AV)->au->Nat->Prop
def goV (P:Program) (X:Inf) (cu:List Nat) (o:Oper) (ih:KV) (kn:List Nat) (K:KR) (τ:Nat->AV) (η:au) (u:Nat):Prop :=
 Pp P X cu o τ η u fun fp δ v u'=>Mp o.dst τ η δ v u' (ih kn fun rs=>K (⟨fp,δ,v,u'⟩ :: rs))
def skV (o:Oper) (ih:KV) (kn:List Nat) (K:KR) (τ:Nat->AV) (η:au) (u:Nat):Prop :=
 Mp o.dst τ η [] (.v undef) u (ih kn fun rs=>K (⟨[],[],.v undef,u⟩ :: rs))
/-- One operation; kn: the slots that were parted. -/
def opV (P:Program) (X:Inf) (cu:List Nat) (ops:Array Oper) (o:Oper) (ih:KV):KV:=fun kn K τ η u=>match Md ops o with
 | .no=>goV P X cu o ih kn K τ η u
 | .on q b=>match τ q with
  | .v (.bool c)=>cond (Qm q kn) (cond (eqB' b c) (goV P X cu o ih kn K τ η u) (skV o ih kn K τ η u))
    (SpI c
     (cond b (goV P X cu o ih (q :: kn) K (upd τ q (.v (.bool true))) η u) (skV o ih (q :: kn) K (upd τ q (.v (.bool true))) η u))
     (cond b (skV o ih (q :: kn) K (upd τ q (.v (.bool false))) η u) (goV P X cu o ih (q :: kn) K (upd τ q (.v (.bool false))) η u)))
  | .v (.tuple _)=>skV o ih kn K τ η u
  | _=>False
 | .bad=>False
noncomputable def yp (P:Program) (X:Inf) (cu:List Nat) (ops:Array Oper) (l:List Oper):KV :=
 List.rec (motive:=fun _=>KV) (fun kn K τ η u=>K [] τ η u) (fun o _ ih=>opV P X cu ops o ih) l
section
variable {P:Program} {X:Inf} {cu:List Nat} {N:Nat} {ops:Array Oper}
theorem Kl {o:Oper} {l:List Oper} {K:KR} {τ:Nat->AV} {η:au} {u:Nat} (hX:X.Ok P) (hd:ic N ops o=true) (hw:ly ops τ o=some true)
  {kn:List Nat} (ih:∀ (kn:List Nat) (K:KR) τ η u,yp P X cu ops l kn K τ η u->Se P N ops l (fun rs s=>K rs s.τ s.η s.u) ⟨τ,η,u⟩)
  (h:goV P X cu o (yp P X cu ops l) kn K τ η u):Se P N ops (o :: l) (fun rs s=>K rs s.τ s.η s.u) ⟨τ,η,u⟩:=by
 obtain ⟨fp,δ,v,u',hL,hu,hn,h⟩:=Kx hX h
 obtain ⟨rs,s',h1,h2⟩:=ih _ _ _ _ _ (Dv h)
 exact ⟨_,s',Seq.op (s:=⟨τ,η,u⟩) u' hL hw hd hu hn h1,h2⟩
theorem ww {o:Oper} {l:List Oper} {K:KR} {τ:Nat->AV} {η:au} {u:Nat} (hd:ic N ops o=true) (hw:ly ops τ o=some false)
  {kn:List Nat} (ih:∀ (kn:List Nat) (K:KR) τ η u,yp P X cu ops l kn K τ η u->Se P N ops l (fun rs s=>K rs s.τ s.η s.u) ⟨τ,η,u⟩)
  (h:skV o (yp P X cu ops l) kn K τ η u):Se P N ops (o :: l) (fun rs s=>K rs s.τ s.η s.u) ⟨τ,η,u⟩:=by
 obtain ⟨rs,s',h1,h2⟩:=ih _ _ _ _ _ (Dv h)
 exact ⟨_,s',Seq.skip (s:=⟨τ,η,u⟩) hw hd h1,h2⟩
theorem wx (hX:X.Ok P):∀ (l:List Oper) (_:l.all (ic N ops)=true) (kn:List Nat) (K:KR) (τ:Nat->AV) (η:au) (u:Nat),yp P X cu ops l kn K τ η u->Se P N ops l (fun rs s=>K rs s.τ s.η s.u) ⟨τ,η,u⟩
 | [],_,kn,K,τ,η,u,h=>⟨[],_,.nil,h⟩
 | o :: l,hall,kn,K,τ,η,u,h=>by
  rw [List.all_cons,Bool.and_eq_true] at hall
  have ih:=wx hX l hall.2
  have h:opV P X cu ops o (yp P X cu ops l) kn K τ η u:=h
  unfold opV at h
  split at h
  ·rename_i hg
   refine Kl hX hall.1 ?_ ih h
   unfold Md at hg
   unfold ly
   split at hg
   ·rename_i e; rw [e]
   ·split at hg <;> cases hg
  ·rename_i q b hg
   have hwant:∀ (τ':Nat->AV) c,τ' q=.v (.bool c)->ly ops τ' o=some (c==b):=by
    intro τ' c hc
    unfold Md at hg
    unfold ly
    split at hg
    ·cases hg
    ·rename_i j b' e
     split at hg
     ·rename_i d' e2
      cases hg
      rw [e]
      simp only [e2,hc]
     ·cases hg
   split at h
   ·rename_i c hc
    have hup:=Kp hc
    have hw:=hwant τ c hc
    rcases c9 h with ⟨_,h⟩ | ⟨_,h⟩
    ·rcases c9 h with ⟨e,h'⟩ | ⟨e,h'⟩
     ·exact Kl hX hall.1 (by rw [hw]; cases b <;> cases c <;> first | rfl | cases e) ih h'
     ·exact ww hall.1 (by rw [hw]; cases b <;> cases c <;> first | rfl | cases e) ih h'
    ·rcases h.at with ⟨rfl,h'⟩ | ⟨rfl,h'⟩
     ·rw [hup] at h'
      rcases c9 h' with ⟨e,h''⟩ | ⟨e,h''⟩
      ·exact Kl hX hall.1 (by rw [hw,e]; rfl) ih h''
      ·exact ww hall.1 (by rw [hw,e]; rfl) ih h''
     ·rw [hup] at h'
      rcases c9 h' with ⟨e,h''⟩ | ⟨e,h''⟩
      ·exact ww hall.1 (by rw [hw,e]; rfl) ih h''
      ·exact Kl hX hall.1 (by rw [hw,e]; rfl) ih h''
   ·rename_i c hc
    refine ww hall.1 ?_ ih h
    unfold Md at hg
    unfold ly
    split at hg
    ·cases hg
    ·rename_i j b' e
     split at hg
     ·rename_i d' e2
      cases hg
      rw [e]
      simp only [e2,hc]
     ·cases hg
   ·exact h.elim
  ·exact h.elim
def km (N:Nat):Code->Bool
 | .region _ ops _=>ops.toList.all (ic N ops)
 | .seq a b=>km N a&&km N b
 | .cond _ a b=>km N a&&km N b
 | .block _ c=>km N c
 | .loop c=>km N c
 | _=>true
inductive LpG (P:Program) (X:Inf) (N:Nat) (cu st:List Nat) (c:Code) (Q:Exit->St->Prop) (s:St):Prop
 | mk (h:X.Ok P->km N c=true->EWP P N (.loop c) Q s):LpG P X N cu st c Q s
inductive RegG (P:Program) (X:Inf) (N:Nat) (cu st:List Nat) (id:Nat) (ops:Array Oper) (dr:Bool) (Q:Exit->St->Prop) (s:St):Prop
 | mk (h:X.Ok P->ops.toList.all (ic N ops)=true->EWP P N (.region id ops dr) Q s):RegG P X N cu st id ops dr Q s
def Km (P:Program) (X:Inf) (cu:List Nat) (ops:Array Oper) (dr:Bool) (Q:Exit->St->Prop) (s:St):Prop:=match s with
 | ⟨τ,η,u⟩=>match ops with
  | ⟨l⟩=>match dr with
   | false=>yp P X cu l.toArray l [] (fun _ τ η u=>Q .normal ⟨τ,η,u⟩) τ η u
   | true=>yp P X cu l.toArray l [] (fun rs τ η u=>n7 l.toArray rs=true/\Q .normal ⟨τ,η,u⟩) τ η u
theorem Cf {id:Nat} {dr:Bool} {Q:Exit->St->Prop} {s:St} (hX:X.Ok P) (hd:ops.toList.all (ic N ops)=true) (h:Km P X cu ops dr Q s):EWP P N (.region id ops dr) Q s:=by
 obtain ⟨τ,η,u⟩:=s
 obtain ⟨l⟩:=ops
 unfold Km at h
 cases dr with
 | false=>exact EWP.region (wx hX l hd _ _ _ _ _ h)
 | true=>exact Nc hX.m (wx hX l hd _ _ _ _ _ h)
abbrev KC:=(Exit->St->Prop)->St->Prop
def Ro (c:Operand) (a b:KC):KC:=fun Q s=>match aev s.τ c with
 | .v (.bool t)=>SpI t (a Q s) (b Q s)
 | _=>False
def Xe (P:Program) (X:Inf) (N:Nat) (cu st:List Nat) (id:Nat) (ops:Array Oper) (dr:Bool):KC:=fun Q s=>bif Qm id st then RegG P X N cu st id ops dr Q s else Km P X cu ops dr Q s
/-- What is to be shown of code. -/
noncomputable def vc (P:Program) (X:Inf) (N:Nat) (cu st:List Nat) (c:Code):KC :=
 Code.rec (motive:=fun _=>KC) (fun Q s=>Q .normal s) (fun id ops dr=>Xe P X N cu st id ops dr) (fun _ _ a b Q s=>a (andThen (b Q) Q) s) (fun c _ _ a b=>Ro c a b) (fun id _ c Q s=>c (ou id Q) s)
  (fun c _ Q s=>LpG P X N cu st c Q s) (fun _ _ _ _ _ _ _ _=>False) (fun id Q s=>Q (.exit id) s) (fun _ _ _ _=>False) (fun _ _ _=>False) (fun _ _ _=>False) (fun Q s=>Q .ret s) (fun _ _ _=>False) c
variable {st:List Nat}
theorem Ec (hX:X.Ok P):∀ (c:Code) (Q:Exit->St->Prop) (s:St),km N c=true->vc P X N cu st c Q s->EWP P N c Q s:=by
 intro c
 induction c with
 | skip=>exact fun Q s _ h=>EWP.skip h
 | exit id=>exact fun Q s _ h=>EWP.exit h
 | ret=>exact fun Q s _ h=>EWP.ret h
 | seq a b iha ihb=>
  intro Q s hd h
  rw [km,Bool.and_eq_true] at hd
  refine EWP.seq (EWP.mono (iha _ _ hd.1 h) fun e s' h=>?_)
  cases e with
  | normal=>exact ihb _ _ hd.2 h
  | _=>exact h
 | block id c ih=>exact fun Q s hd h=>EWP.block (ih _ _ hd h)
 | cond c a b iha ihb=>
  intro Q s hd h
  rw [km,Bool.and_eq_true] at hd
  have h:Ro c (vc P X N cu st a) (vc P X N cu st b) Q s:=h
  unfold Ro at h
  split at h
  ·rename_i t ht
   refine EWP.cond ht (fun e=>?_) (fun e=>?_)
   ·exact iha _ _ hd.1 (h.1 e)
   ·exact ihb _ _ hd.2 (h.2 e)
  ·exact h.elim
 | loop c ih=>exact fun Q s hd h=>h.1 hX hd
 | region id ops dr=>
  intro Q s hd h
  have h:Xe P X N cu st id ops dr Q s:=h
  unfold Xe at h
  rcases c9 h with ⟨_,h⟩ | ⟨_,h⟩
  ·exact h.1 hX hd
  ·exact Cf hX hd h
 | _=>intro Q s hd h; exact h.elim
theorem LpG.via {c:Code} {Q:Exit->St->Prop} {s s2:St} (hv:∀ Q,AWP P N (.loop c) Q s2->AWP P N (.loop c) Q s) (h:LpG P X N cu st c Q s2):LpG P X N cu st c Q s:=⟨fun hX hd=>EWP.via hv (h.1 hX hd)⟩
theorem LpG.loop {c:Code} {Q:Exit->St->Prop} {s:St} (I:Nat->St->Prop) {n:Nat} {s1:St} (hc:Canon s s1) (h0:I n s1) (hI:∀ n s,I n s->vc P X N cu st c (andThen (fun s'=>∃ m s1,m < n/\Canon s' s1/\I m s1) Q) s):LpG P X N cu st c Q s :=
 ⟨fun hX hd=>Aq I hc h0 fun n s hi=>Ec hX c _ _ hd (hI n s hi)⟩
theorem LpG.exit {c:Code} {Q:Exit->St->Prop} {s:St} (h:vc P X N cu st c (andThen (fun _=>False) Q) s):LpG P X N cu st c Q s:=⟨fun hX hd=>Ap (Ec hX c _ _ hd h)⟩
inductive ULp (P:Program) (X:Inf) (N:Nat) (cu st:List Nat) (c:Code) (Q:Exit->St->Prop) (s:St):Prop
 | mk (h:X.Ok P->km N c=true->Nd P N c Q s):ULp P X N cu st c Q s
theorem ULp.step {c:Code} {Q:Exit->St->Prop} {s:St} (h:vc P X N cu st c (andThen (ULp P X N cu st c Q) Q) s):ULp P X N cu st c Q s :=
 ⟨fun hX hd=>Ar (EWP.mono (Ec hX c _ _ hd h) fun e s' h=>by
  cases e with
  | normal=>exact h.1 hX hd
  | _=>exact h)⟩
theorem lf {c:Code} {Q:Exit->St->Prop} {s:St} (h:ULp P X N cu st c Q s):LpG P X N cu st c Q s:=⟨fun hX hd=>J9 (h.1 hX hd)⟩
theorem RegG.via {id:Nat} {dr:Bool} {Q:Exit->St->Prop} {s s2:St} (hv:∀ Q,AWP P N (.region id ops dr) Q s2->AWP P N (.region id ops dr) Q s) (h:RegG P X N cu st id ops dr Q s2):RegG P X N cu st id ops dr Q s:=⟨fun hX hd=>EWP.via hv (h.1 hX hd)⟩
theorem cr {id:Nat} {dr:Bool} {Q:Exit->St->Prop} {s:St} (h:Km P X cu ops dr Q s):RegG P X N cu st id ops dr Q s:=⟨fun hX hd=>Cf hX hd h⟩
theorem PRet.of_vc {f:FuncId} {fn:Func} {c:Code} {args:List AV} {R:AV->Prop} (hX:X.Ok P) (cu st:List Nat) (hf:P.funcs[f]? = some fn) (hb:fn.body=some c) (hN:fn.ntmps=N) (hl:Nat.ble args.length N=true) (hc:km N c=true)
  (h:vc P X N cu st c (fun e s'=>(e=.normal\/e=.ret)/\∃ ret,Kh P N fn s' ret/\R ret) ⟨f0 args,pu,0⟩):PRet P f args R :=
 PRet.of_body hf hb hN (Nat.le_of_ble_eq_true hl) (Ec hX c _ _ hc h)
theorem PRet.eq {f:FuncId} {args:List AV} {ret:AV} (h:PRet P f args (fun r=>r=ret)):ep P f args ret:=by
 obtain ⟨_,rfl,h⟩:=h; exact h
theorem PRet.of_call {f:FuncId} {args:List AV} {ret:AV} (h:ep P f args ret):PRet P f args (fun r=>r=ret):=⟨_,rfl,h⟩
end
inductive Wk:AV->AV->Prop
 | rfl {a:AV}:Wk a a
 | unk {a:AV}:Wk a .unk
 | agg {cs ds:List AV} (hl:cs.length=ds.length) (h:∀ i (h:i < cs.length) (h':i < ds.length),Wk cs[i] ds[i]):Wk (.agg cs) (.agg ds)
inductive WkL:List AV->List AV->Prop
 | nil:WkL [] []
 | cons {a b:AV} {r s:List AV}:Wk a b->WkL r s->WkL (a :: r) (b :: s)
theorem WkL.at {cs ds:List AV} (h:WkL cs ds):cs.length=ds.length/\∀ i (h:i < cs.length) (h':i < ds.length),Wk cs[i] ds[i]:=by
 induction h with
 | nil=>exact ⟨rfl,fun i h=>by simp at h⟩
 | cons h1 h2 ih=>exact ⟨by simp [ih.1],fun i h h'=>by cases i with
  | zero=>exact h1
  | succ i=>exact ih.2 i (by simpa using h) (by simpa using h')⟩
theorem Wk.aggL {cs ds:List AV} (h:WkL cs ds):Wk (.agg cs) (.agg ds):=.agg h.at.1 h.at.2
theorem TR.wk {T:Nat->Prop} {w:World} {a b:AV} (h:Wk a b):∀ {x:Value},TR T w a x->TR T w b x:=by
 induction h with
 | rfl=>exact fun h=>h
 | unk=>exact fun _=>.unk _
 | agg hl h ih=>intro x hx; cases hx with
  | agg h1 h2=>exact .agg (by omega) (fun i g g'=>ih i (by omega) g (h2 i (by omega) g'))
theorem ep.wk {P:Program} {f:FuncId} {args args':List AV} {ret:AV} (hw:WkL args args') (h:ep P f args' ret):ep P f args ret:=fun T w vals ht hT=>h T w vals ⟨by have:=ht.1; have:=hw.at.1; omega,fun i g g'=>TR.wk (hw.at.2 i (by have:=hw.at.1; omega) g) (ht.2 i (by have:=hw.at.1; omega) g')⟩ hT
theorem PRet.wk {P:Program} {f:FuncId} {args args':List AV} {R:AV->Prop} (hw:WkL args args') (h:PRet P f args' R):PRet P f args R:=by
 obtain ⟨ret,h1,h2⟩:=h
 exact ⟨ret,h1,h2.wk hw⟩
theorem FzP.unk {fp:List Nat} {η:au} {a:AV}:FzP fp η a .unk:=fun _ _ _ x _=>.unk x
inductive FzPL (fp:List Nat) (η:au):List AV->List AV->Prop
 | nil:FzPL fp η [] []
 | cons {a b:AV} {r s:List AV}:FzP fp η a b->FzPL fp η r s->FzPL fp η (a :: r) (b :: s)
theorem FzPL.at {fp:List Nat} {η:au} {cs ds:List AV} (h:FzPL fp η cs ds):cs.length=ds.length/\∀ i (h:i < cs.length) (h':i < ds.length),FzP fp η cs[i] ds[i]:=by
 induction h with
 | nil=>exact ⟨rfl,fun i h=>by simp at h⟩
 | cons h1 h2 ih=>exact ⟨by simp [ih.1],fun i h h'=>by cases i with
  | zero=>exact h1
  | succ i=>exact ih.2 i (by simpa using h) (by simpa using h')⟩
theorem FzP.aggL {fp:List Nat} {η:au} {cs ds:List AV} (h:FzPL fp η cs ds):FzP fp η (.agg cs) (.agg ds):=FzP.agg h.at.1 h.at.2
section
variable {P:Program} {X:Inf} {N:Nat}
/-- A call whose arguments are said less of; nothing is given up. -/
theorem qc {τ:Nat->AV} {η:au} {d:Option Tmp} {ty:TypeId} {pos:String} {af:Array Edge} {g:Option (Nat×Bool)} {f:FuncId} {xs:Array Operand} {ats:Array TypeId} {ret:AV} {args:List AV} (hb:co P f=true) (hf:FzPL [] η (xs.toList.map (aev τ)) args) (hc:ep P f args ret) :
  LOp P ⟨d,.call { callee:=.value (.func f),args:=xs,argTypes:=ats },ty,pos,af,g⟩ τ η [] [] ret :=
 qd [] hb (by have:=hf.at.1; simpa using this) (fun i h h'=>by
  have:=hf.at.2 i (by simpa using h) h'
  simpa using this) (fun id hid=>absurd hid (by simp)) hc
theorem Sw.of_vc {f:FuncId} {fn:Func} {c:Code} {args:List AV} {hb:List (Nat×Blk)} {hb':List (Nat×Option Blk)} {R:AV->Prop} (hX:X.Ok P) (cu st:List Nat) (hf:P.funcs[f]? = some fn) (hbo:fn.body=some c) (hN:fn.ntmps=N) (hl:Nat.ble args.length N=true) (hc:km N c=true)
  (h:vc P X N cu st c (fun e s'=>(e=.normal\/e=.ret)/\∃ ret,M7 P N fn s' hb' ret/\R ret) ⟨f0 args,bl hb,0⟩):Sw P f args hb hb' R :=
 Sw.of_body hf hbo hN (Nat.le_of_ble_eq_true hl) (Ec hX c _ _ hc h)
end
theorem vq:∀ l:List AV,y3 l.length l=some l
 | []=>rfl
 | a :: l=>by simp only [List.length_cons,y3,vq l]
theorem Src.rows {α:Type} {f:α->List AV} {q:Nat} (hf:RowF f q) {η:au} {id v:Nat} {l:List α} (hb:η id=some ⟨v,rF f l,q,Nat.beq l.length 0⟩):Src η [id] (.sl id v 0 l.length) l.length (rF f l):=by
 cases l with
 | nil=>
  intro C hg hη x hx
  obtain ⟨e,_,_⟩:=hx.slnil_inv ((hη id (by simp)).trans hb) rfl rfl
  exact .inl ⟨rfl,rfl,none,0,e⟩
 | cons a r=>exact Src.sl hb rfl rfl rfl (by
   have:=vq (rF f (a :: r))
   simpa [cn] using this)
theorem FzPL.pure {fp:List Nat} {η:au}:∀ {ls:List AV},ay ls=true->FzPL fp η ls ls
 | [],_=>.nil
 | a :: r,h=>by
  rw [ay,Bool.and_eq_true] at h
  exact .cons (FzP.pure h.1) (FzPL.pure h.2)
section
variable {P:Program} {τ:Nat->AV} {η:au} {d:Option Tmp} {ty:TypeId} {pos:String} {af:Array Edge} {g:Option (Nat×Bool)} {α:Type} {f:α->List AV} {q:Nat}
/-- The call of a closure that holds and is lr nothing of the call's own. -/
theorem F1 {g0:Operand} {f:FuncId} {caps:List AV} {xs:Array Operand} {ats:Array TypeId} {ys:List AV} {ret:AV} (hb:co P f=true) (hg0:aev τ g0=.clo f caps) (hys:xs.toList.map (aev τ)++caps=ys) (hp:ay ys=true) (hc:ep P f ys ret) :
  LOp P ⟨d,.call { callee:=.value g0,args:=xs,argTypes:=ats },ty,pos,af,g⟩ τ η [] [] ret:=by
 have hf:FzPL [] η ys ys:=FzPL.pure hp
 refine LOp.of_call hc fun C a hg hxs hη=>?_
 have h0:=hxs g0 (by simp [Op.operands,Call.operands])
 rw [hg0] at h0
 obtain ⟨vs,hv,hl,hi⟩:=h0.clo_inv
 refine ⟨xs.map a.eval++vs,?_,?_⟩
 ·subst hys
  refine ⟨by simp [hl],fun i h h'=>?_⟩
  have hF:=(hf.at.2 i h h) C hg hη ((xs.map a.eval++vs)[i]) ?_
  ·exact hF.mono (fun b hb=>hb.elim (fun h=>h) (fun ⟨i,h1,_⟩=>absurd h1 (by simp))) (fun _ _=>rfl)
  ·by_cases hlx:i < xs.size
   ·have e1:(xs.toList.map (aev τ)++caps)[i]=aev τ xs[i]:=by
     rw [List.getElem_append_left (by simpa using hlx)]; simp
    have e2:(xs.map a.eval++vs)[i]=a.eval xs[i]:=by
     rw [Array.getElem_append_left (by simpa using hlx)]; simp
    rw [e1,e2]
    exact hxs _ (by simp [Op.operands,Call.operands])
   ·have e1:(xs.toList.map (aev τ)++caps)[i]=caps[i - xs.size]'(by simp at h; omega):=by
     rw [List.getElem_append_right (by simpa using hlx)]; simp
    have e2:(xs.map a.eval++vs)[i]=vs[i - xs.size]'(by simp at h'; omega):=by
     rw [Array.getElem_append_right (by simpa using hlx)]; simp
    rw [e1,e2]
    exact hi _ _ _
 ·have e:(execOp a.eval ⟨d,.call { callee:=.value g0,args:=xs,argTypes:=ats },ty,pos,af,g⟩).run P C.w=(callFunc f (#[]++xs.map a.eval++vs)).run P C.w:=by
   have e0:execOp a.eval ⟨d,.call { callee:=.value g0,args:=xs,argTypes:=ats },ty,pos,af,g⟩=(do let dd <- Deferred.ofValue (a.eval g0) (xs.map a.eval); invoke dd.target dd.args):=rfl
   rw [e0,hv]
   rfl
  rw [e,eb hb]
  simp
/-- A value of which less is said. -/
theorem J5 {o:Oper} {fp:List Nat} {v v':AV} (h:LOp P o τ η fp [] v) (hf:∀ η',FzP [] η' v v'):LOp P o τ η fp [] v':=by
 intro C a hg hxs hfp hn K Q hK
 refine h C a hg hxs hfp hn K Q fun x C' h1 h2 h3 h4 h5=>hK x C' h1 h2 h3 h4 (.imm ?_)
 exact (hf C'.η C' h3 (fun _ h=>absurd h (by simp)) x h5).mono (fun b hb=>hb.elim (fun h=>h) (fun ⟨i,hi,_⟩=>absurd hi (by simp))) (fun _ _=>rfl)
/-- A new block that nobody writes any more. -/
theorem u4 {o:Oper} {u:Nat} {b:Blk} {v v':AV} (h:LOp P o τ η [] [(u,some b)] v) (hf:∀ η':au,η' u=some b->FzP [u] η' v v'):LOp P o τ η [] [(u,none)] v':=by
 intro C a hg hxs hfp hn K Q hK
 refine h C a hg hxs hfp (fun p hp hq=>by
  rw [Zj] at hp; subst hp
  exact hn (u,none) (by simp) hq) K Q fun x C1 h1 h2 h3 h4 h5=>?_
 have hub:C1.η u=some b:=by rw [h1]; exact ae _ _ _
 let C':Ctx:={ C1 with η:=C.η.put [(u,none)],T:=fun k=>C1.T k\/C1.mineOf [u] k }
 have hold:∀ {i b'},C'.η i=some b'->C1.η i=some b'/\i≠u:=by
  intro i b' hb
  have hb:(C.η.set u none) i=some b':=hb
  by_cases e:i=u
  ·subst e; rw [ae] at hb; cases hb
  ·refine ⟨?_,e⟩
   rw [h1]; show (C.η.set u (some b)) i=some b'
   rw [am _ _ e] at hb ⊢; exact hb
 have hvr:∀ {a:AV} {x:Value},VR C1 a x->VR C' a x:=fun hv=>VR.shift (C:=C1) (C':=C') rfl rfl rfl rfl (fun b hb=>.inl hb) h3.used (fun id b' hb=>⟨b',(hold hb).1,rfl,rfl,rfl,rfl⟩) hv
 have hlive:∀ {i},C'.live i->C1.live i/\i≠u:=by
  rintro i ⟨b',hb1,hk⟩
  exact ⟨⟨b',(hold hb1).1,hk⟩,(hold hb1).2⟩
 have hg':Good C':=by
  refine ⟨fun h=>h3.used (hold h).1,?_,?_,fun hi hj e=>h3.inj (hlive hi).1 (hlive hj).1 e,?_,?_,fun h hv hn=>h3.tight (hold h).1 hv hn⟩
  ·intro i b' hb1 hk
   obtain ⟨o,g1,g2⟩:=h3.obj (hold hb1).1 hk
   exact ⟨o,g1,ObjR.shift hvr g2⟩
  ·intro i b' hb1 hn'
   obtain ⟨c,t,g1,g2,g3,g4⟩:=h3.blk (hold hb1).1 hn'
   exact ⟨c,t,g1,g2,g3,fun j hj hj'=>hvr (g4 j hj hj')⟩
  ·refine h3.tokT (fun _ h=>.inl h) ?_
   rintro k (hk | hk)
   ·exact h3.tlt hk
   ·exact dt h3 (bf hk)
  ·rintro k ⟨i,hl',hk⟩ (hT | ⟨i',hi',hl'',e⟩)
   ·exact h3.apart ⟨i,(hlive hl').1,hk⟩ hT
   ·have e2:i'=i:=h3.inj hl'' (hlive hl').1 (e.trans hk.symm)
    rw [Zj] at hi'
    exact (hlive hl').2 (e2 ▸ hi')
 have hev:Ev C C':=⟨⟨h4.os,h4.tape,h4.output,h4.size,h4.keep,fun k ⟨i,q1,q2⟩=>h4.mine k ⟨i,(hlive q1).1,q2⟩,fun k h=>.inl (h4.T k h),fun k h=>h.elim (fun h=>h4.Tnew k h) (fun h=>.inr (h4.mine k (bf h)))⟩,h4.U,fun id b' hU hb=>h4.old id b' hU (hold hb).1⟩
 exact hK x C' rfl (fun id=>by rw [show C'.U=C1.U from rfl,h2]; simp) hg' hev (.imm (hf C1.η hub C1 h3 (fun _ _=>rfl) x h5))
theorem rx (hf:RowF f q) {t e by_:Nat} {s x:Operand} {z:Value} {id ver id2 v2:Nat} {l l':List α} (ht:P.underlying t=some (.slice e)) (hs:aa P e=some q) (hz:ax P e=some z) (hby:(P.info? e).map (·.bytes)=some by_) (hzs:z.cells.size=q)
  (hx:aev τ s=.sl id ver 0 l.length) (hb:η id=some ⟨ver,rF f l,q,false⟩) (hy:aev τ x=.sl id2 v2 0 l'.length) (hb2:η id2=some ⟨v2,rF f l',q,Nat.beq l'.length 0⟩) (hmax:(l.length+l'.length) * by_<=140737488355328) (hmax2:l.length+l'.length<=140737488355328) (htv:ver+1≠TV) :
  LOp P ⟨d,.call { callee:=.builtin .append,args:=#[s,x],argTypes:=#[t,t] },ty,pos,af,g⟩ τ η [id,id2] [(id,some ⟨ver+1,rF f (l++l'),q,false⟩)] (.sl id (ver+1) 0 (l++l').length):=by
 have:=LOp.append (d:=d) (ty:=ty) (pos:=pos) (af:=af) (g:=g) (m:=l'.length) (news:=rF f l') ht hs hz hby hzs hx hb rfl rfl rfl (Nat.le_of_eq (nz hf l).symm) (by rw [hy]; exact Src.rows hf hb2) (nz hf l') (G9 hf l') hmax hmax2 htv
 rw [<- Zi,<- nz hf l,List.take_length,<- N2] at this
 exact this
theorem Ca (hf:RowF f q) {t e by_:Nat} {s x:Operand} {z:Value} {fp:List Nat} {id ver:Nat} {l:List α} {a:α} {news:List AV} (ht:P.underlying t=some (.slice e)) (hs:aa P e=some q) (hz:ax P e=some z) (hby:(P.info? e).map (·.bytes)=some by_) (hzs:z.cells.size=q)
  (hx:aev τ s=.sl id ver 0 l.length) (hb:η id=some ⟨ver,rF f l,q,false⟩) (hsrc:Src η fp (aev τ x) 1 news) (hnews:news=f a) (hmax:(l.length+1) * by_<=140737488355328) (hmax2:l.length+1<=140737488355328) (htv:ver+1≠TV) :
  LOp P ⟨d,.call { callee:=.builtin .append,args:=#[s,x],argTypes:=#[t,t] },ty,pos,af,g⟩ τ η (id :: fp) [(id,some ⟨ver+1,rF f (l++[a]),q,false⟩)] (.sl id (ver+1) 0 (l++[a]).length):=by
 subst hnews
 have:=LOp.append (d:=d) (ty:=ty) (pos:=pos) (af:=af) (g:=g) (m:=1) (news:=f a) ht hs hz hby hzs hx hb rfl rfl rfl (Nat.le_of_eq (nz hf l).symm) hsrc (by rw [Nat.one_mul]; exact hf.len a) (hf.one a) hmax hmax2 htv
 rw [<- nz hf l,List.take_length,<- G8] at this
 simpa using this
end
section
variable {A B:Prop}
theorem cE {a b:Int} (ht:a=b->A) (hf:¬ a=b->B):SpI (a==b) A B:=⟨fun h=>ht (beq_iff_eq.1 h),fun h=>hf (fun e=>by rw [e,beq_self_eq_true] at h; cases h)⟩
theorem cN {a b:Int} (ht:¬ a=b->A) (hf:a=b->B):SpI (a != b) A B:=⟨fun h=>ht (fun e=>by rw [e,bne_self_eq_false] at h; cases h),fun h=>hf (by simpa using h)⟩
theorem cD {p:Prop} [Decidable p] (ht:p->A) (hf:¬ p->B):SpI (decide p) A B:=⟨fun h=>ht (of_decide_eq_true h),fun h=>hf (of_decide_eq_false h)⟩
theorem cL {m n:Nat} (ht:m < n->A) (hf:¬ m < n->B):SpI (decide (((m:Nat):Int) < ((n:Nat):Int))) A B:=⟨fun h=>ht (Int.ofNat_lt.1 (of_decide_eq_true h)),fun h=>hf (fun e=>of_decide_eq_false h (Int.ofNat_lt.2 e))⟩
theorem bF {p:Prop}:∃ b:Bool,AV.v (.bool false)=.v (.bool b)/\(b=true->p):=⟨_,rfl,fun h=>absurd h Bool.false_ne_true⟩
end
section
variable {P:Program} {X:Inf} {N:Nat} {cu st:List Nat}
theorem rV {fn:Func} {t:Nat} {s:St} {R:AV->Prop} (hr:fn.results=#[.tmp t]) (hp:(s.τ t).pureB=true) (h:R (s.τ t)):((Exit.ret:Exit)=.normal\/(Exit.ret:Exit)=.ret)/\∃ ret,Kh P N fn s ret/\R ret:=⟨.inr rfl,_,oV hr rfl hp rfl,h⟩
/-- A loop whose state is told by a variable. -/
theorem LpG.on {α:Type} {c:Code} {Q:Exit->St->Prop} {s:St} (S:α->St) (M:α->Nat) (J:α->Prop) (a:α) (hc:Canon s (S a)) (h0:J a) (hI:∀ k,J k->vc P X N cu st c (andThen (fun s'=>∃ k',M k' < M k/\Canon s' (S k')/\J k') Q) (S k)):LpG P X N cu st c Q s :=
 ⟨fun hX hd=>Aq (fun m s1=>∃ k,m=M k/\s1=S k/\J k) hc ⟨a,rfl,rfl,h0⟩ fun n s hi=>by
  obtain ⟨k,rfl,rfl,hj⟩:=hi
  refine EWP.mono (Ec hX c _ _ hd (hI k hj)) fun e s' h=>?_
  cases e with
  | normal=>
   obtain ⟨k',h1,h2,h3⟩:=h
   exact ⟨_,_,h1,h2,k',rfl,rfl,h3⟩
  | _=>exact h⟩
end
section
variable {P:Program} {τ:Nat->AV} {η:au} {d:Option Tmp} {ty:TypeId} {pos:String} {af:Array Edge} {g:Option (Nat×Bool)}
end
section
variable {P:Program} {τ:Nat->AV} {η:au} {d:Option Tmp} {ty:TypeId} {pos:String} {af:Array Edge} {g:Option (Nat×Bool)}
theorem D7 {x y:Operand} {a b:Int} {ats:Array TypeId} (hx:aev τ x=.v (.int .i64 a)) (hy:aev τ y=.v (.int .i64 b)) :
  LOp P ⟨d,.call { callee:=.builtin .min,args:=#[x,y],argTypes:=ats },ty,pos,af,g⟩ τ η [] [] (.v (.int .i64 (min a b))) :=
 .look [] fun C a hg hxs _=>by
  have h1:=hxs x (by simp [Op.operands,Call.operands])
  have h2:=hxs y (by simp [Op.operands,Call.operands])
  rw [hx] at h1
  rw [hy] at h2
  have e1:=h1.v_inv
  have e2:=h2.v_inv
  refine ⟨_,?_,VR.v C _⟩
  simp [execOp,e1,e2,resolve,invoke,builtin,Lib.run_min_ints]
end
theorem G4 {P:Program} {t e:TypeId} (hu:P.underlying t=some (.slice e)) (n:Nat) (w:World):(Op.equalIn (n+1) t (.slice none 0 0) (.slice none 0 0)).run P w=.ok true w:=by
 simp only [Op.equalIn,Sem.run_bind,run_underlying hu,Result.andThen_ok,Sem.run_pure,Option.isNone_none]
theorem Eh {P:Program} {t e:TypeId} (hu:P.underlying t=some (.slice e)) (w:World):(Op.equal t (.slice none 0 0) (.slice none 0 0)).run P w=.ok true w:=G4 hu 9999 w
section
variable {P:Program} {τ:Nat->AV} {η:au} {d:Option Tmp} {ty:TypeId} {pos:String} {af:Array Edge} {g:Option (Nat×Bool)}
/-- A slice with elements is not nil. -/
theorem Fs {t t' e n:Nat} {x y:Operand} {rows:List (List AV)} (hx:aev τ x=.tree n rows) (hy:aev τ y=.v (.slice none 0 0)) (hu:P.underlying t=some (.slice e)) (hr:0 < rows.length) :
  LOp P ⟨d,.binOp .neq t x y t',ty,pos,af,g⟩ τ η [] [] (.v (.bool true)):=by
 have h:T3 P τ η 0 t .neq x y=some ⟨[],[],.v (.bool true),0⟩:=by
  cases rows with
  | nil=>exact absurd hr (Nat.lt_irrefl _)
  | cons r rs=>simp [T3,hx,hy,ta,ke,hu]
 exact Hs h
/-- nil is nil. -/
theorem Ft {t t' e:Nat} {x y:Operand} (hx:aev τ x=.v (.slice none 0 0)) (hy:aev τ y=.v (.slice none 0 0)) (hu:P.underlying t=some (.slice e)) :
  LOp P ⟨d,.binOp .neq t x y t',ty,pos,af,g⟩ τ η [] [] (.v (.bool false)) :=
 .look [] fun C a _ hxs _=>by
  have e1:=hxs x (by simp [Op.operands])
  have e2:=hxs y (by simp [Op.operands])
  rw [hx] at e1
  rw [hy] at e2
  refine ⟨.bool false,?_,VR.v C _⟩
  have h:(binOp .neq t (.slice none 0 0) (.slice none 0 0)).run P C.w=.ok (.bool false) C.w:=by
   show ((do pure (.bool (!(<- Op.equal t (.slice none 0 0) (.slice none 0 0)))):Sem Value)).run P C.w=_
   simp only [Sem.run_bind,Eh hu,Result.andThen_ok,Sem.run_pure,Bool.not_true]
  have h2:(eqGuard .neq t x y (.slice none 0 0) (.slice none 0 0))=pure ():=rfl
  simp only [execOp,e1.v_inv,e2.v_inv,h2,Sem.run_bind,Sem.run_pure,Result.andThen_ok,h]
/-- Rows of an own list appended to rows. -/
theorem m0 {α:Type} {f:α->List AV} {q:Nat} (hf:RowF f q) {t e by_:Nat} {s x:Operand} {z:Value} {id ver id2 v2:Nat} {l l':List α} (ht:P.underlying t=some (.slice e)) (hs:aa P e=some q) (hz:ax P e=some z) (hby:(P.info? e).map (·.bytes)=some by_) (hzs:z.cells.size=q)
  (hx:aev τ s=.sl id ver 0 l.length) (hb:η id=some ⟨ver,rF f l,q,Nat.beq l.length 0⟩) (h0:0 < l.length) (hy:aev τ x=.sl id2 v2 0 l'.length) (hb2:η id2=some ⟨v2,rF f l',q,Nat.beq l'.length 0⟩) (hmax:(l.length+l'.length) * by_<=140737488355328) (hmax2:l.length+l'.length<=140737488355328) (htv:ver+1≠TV) :
  LOp P ⟨d,.call { callee:=.builtin .append,args:=#[s,x],argTypes:=#[t,t] },ty,pos,af,g⟩ τ η [id,id2] [(id,some ⟨ver+1,rF f (l++l'),q,Nat.beq (l++l').length 0⟩)] (.sl id (ver+1) 0 (l++l').length):=by
 have e1:Nat.beq l.length 0=false:=jo (by omega)
 have e2:Nat.beq (l++l').length 0=false:=jo (by rw [Zi]; omega)
 rw [e2]
 rw [e1] at hb
 exact rx hf ht hs hz hby hzs hx hb hy hb2 hmax hmax2 htv
theorem jf {t len e n j o id ver:Nat} {x i:Operand} {k:IntKind} {b:Blk} (hu:P.underlying t=some (.array len e)) (hs:aa P e=some n) (hx:aev τ x=.ptr id ver o) (hi:aev τ i=.v (.int k (Int.ofNat j))) (hj:Nat.blt j len=true) (hb:η id=some b) (hv:b.ver=ver) (hn:b.nilp=false) :
  LOp P ⟨d,.indexAddr t x i,ty,pos,af,g⟩ τ η [id] [] (.ptr id ver (o+j * n)) :=
 mm (u:=0) (r:=⟨[id],[],.ptr id ver (o+j * n),0⟩) (by unfold mn; rw [hu]; simp only [hs,hi,hx,hj,cond_true,fm,hb,hv,hn,Nat.beq_refl,Bool.not_false,Bool.and_true,cond_true])
/-- The length of mapped rows. -/
theorem M9 {α β:Type} {t e n:Nat} {x:Operand} {f:α->List AV} {h:β->α} {l:List β} {ats:Array TypeId} (he:P.underlying t=some (.slice e)) (ha:ats[0]? = some t) (hx:aev τ x=.tree n ((l.map h).map f)) :
  LOp P ⟨d,.call { callee:=.builtin .len,args:=#[x],argTypes:=ats },ty,pos,af,g⟩ τ η [] [] (.v (.int .i64 ((l.length:Nat):Int))):=by
 have:=lT (P:=P) (τ:=τ) (η:=η) (d:=d) (ty:=ty) (pos:=pos) (af:=af) (g:=g) ha he hx
 rwa [Zl] at this
/-- m[k] at a key that the map does not hold. -/
theorem B5 {t kt et id ver z clock:Nat} {x i:Operand} {n:Int} {z0:Value} {es:List (Value×AV×Nat)} (ht:P.underlying t=some (.map kt et)) (hk:P.underlying kt=some (.int .i64)) (hz:ax P et=some z0) (hm:aev τ x=.mp id ver) (hkey:aev τ i=.v (.int .i64 n)) (hb:η id=some (bn ver z clock es))
  (h:∀ e∈es,∃ q,e.1=.int .i64 q/\q≠n):LOp P ⟨d,.lookup t x i false,ty,pos,af,g⟩ τ η [id] [] (.v z0):=by
 refine xq (u:=0) (r:=⟨[id],[],.v z0,0⟩) ?_
 unfold H5
 rw [ht]
 simp only [hkey,hz,hm,kg hb,wm hk h]
 rfl
end
end Go.Proofs.YthpangmpihkniaaGreatDoor
