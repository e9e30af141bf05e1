/- Texts of the claim. -/
import Derived.Lib.MinMax
import Derived.Lib.Bytealg
import Derived.Laws.Externs
import Derived.Test.YtbhhmbchdponjaaGreatDoorQ1
import Derived.Test.YtbhhmbchdponjaaGreatDoorE1
import Derived.Test.YtbhhmbchdponjaaGreatDoorE2
import Derived.Test.YtbhhmbchdponjaaGreatDoorA2
import Derived.Test.YtbhhmbchdponjaaGreatDoorE3
namespace Go.Proofs.YtbhhmbchdponjaaGreatDoor
set_option linter.unusedVariables false
set_option linter.unusedSimpArgs false
open Go.RowKit
section
variable{P:Program}{τ:Nat->AV}{η:bi}{d:Option Tmp}{ty:TypeId}{pos:String}{af:Array Edge}{g:Option (Nat×Bool)}
theorem cp{α:Type}{t e n:Nat}{x i:Operand}{f:α->List AV}{l:List α}{v:Int}{j:Nat}(he:P.underlying t=some (.slice e))(hs:ao P e=some n)(hx:aev τ x=.tree n (l.map f))(hi:aev τ i=.v (.int .i64 v))(hv:v=((j:Nat):Int))(hj:j<l.length):
 LOp P ⟨d,.indexAddr t x i,ty,pos,af,g⟩ τ η [] [] (.tp (f l[j]) 0):=by
 subst hv
 exact lI he hs hx hi hj
theorem I0{t:Nat}{x:Operand}{s:ByteArray}{ats:Array TypeId}(ha:ats[0]? =some t)(hu:P.underlying t=some .string)(hx:aev τ x=.v (.string s)):
 LOp P ⟨d,.call {callee:=.builtin .len,args:=#[x],argTypes:=ats},ty,pos,af,g⟩ τ η [] [] (.v (.int .i64 ((s.size:Nat):Int))):=
 .look [] fun C a hg hb _=>by have h1:=hb x (by simp[Op.operands,Call.operands]);rw[hx]at h1;have e1:=h1.v_inv;refine⟨_,?_,VR.v C _⟩;simp[execOp,e1,resolve,invoke,builtin,Builtin.len_,ha,run_underlying hu,goInt]
def bAt(s:ByteArray)(k:Nat):UInt8:=s.data.getD k 0
theorem Q2{s:ByteArray}{k:Nat}(h:k<s.size):s[k]? =some (bAt s k):=by have h1:k<s.data.size:=h;rw[getElem?_pos s k h];unfold bAt;simp[Array.getD,h1];rw[dif_pos h];rfl
theorem Cx{t k:Nat}{x i:Operand}{s:ByteArray}(hu:P.underlying t=some .string)(hx:aev τ x=.v (.string s))(hi:aev τ i=.v (.int .i64 ((k:Nat):Int)))(hk:k<s.size):
 LOp P ⟨d,.index t x i,ty,pos,af,g⟩ τ η [] [] (.v (.int .u8 (((bAt s k).toNat:Nat):Int))):=
 .look [] fun C a hg ha _=>by have h1:=ha x (by simp[Op.operands]);have h2:=ha i (by simp[Op.operands]);rw[hx]at h1;rw[hi]at h2;have e1:=h1.v_inv;have e2:=h2.v_inv;refine⟨_,?_,VR.v C _⟩;simp only[execOp,e1,e2,Instr.index,asIntOf,Sem.run_bind,ahc,ahb,run_underlying hu];have h0:(0:Int)<=((k:Nat):Int):=Int.natCast_nonneg k;simp only[h0,if_true,Int.toNat_natCast,Q2 hk,ahc,ahb]
end
def iA(n:Int):List AV:=[.v (.int .i64 n)]
theorem getD_none{α:Type}{l:List α}{k:Nat}{d:α}(h:¬k<l.length):l.getD k d=d:=by simp[List.getD,List.getElem?_eq_none (Nat.le_of_not_lt h)]
inductive UK where
 |sl (e:Nat)
 |str
 |bool
 |o
def Ru(P:Program)(t:Nat):UK:=match P.underlying t with
 |some (.slice e)=>.sl e
 |some .string=>.str
 |some .bool=>.bool
 |_=>.o
theorem De{P:Program}{t e:Nat}(h:Ru P t=.sl e):P.underlying t=some (.slice e):=by unfold Ru at h;split at h<;>first|(cases h;assumption)|cases h
theorem Fl{P:Program}{t:Nat}(h:Ru P t=.str):P.underlying t=some .string:=by unfold Ru at h;split at h<;>first|(cases h;assumption)|cases h
theorem Bb{P:Program}{t:Nat}(h:Ru P t=.bool):P.underlying t=some .bool:=by unfold Ru at h;split at h<;>first|(cases h;assumption)|cases h
structure TI where
 ty:Nat
 und:UK
 row:Option Nat
 size:Nat
 bytes:Nat
 zero:Value
 k:Nat
 pl:List (Nat×Nat)
def fiL(P:Program)(i:TI):List (Option (Nat×Nat)):=match i.k with
 |1=>(List.range i.pl.length).map (dx P i.ty)
 |_=>[]
def plL(P:Program)(i:TI):Option (List (Nat×Nat)):=match i.k with
 |0=>none
 |_=>mt P i.ty
def TI.v1(P:Program)(i:TI):=(Ru P i.ty,ej P i.ty,ao P i.ty,(P.info? i.ty).map (·.bytes),bj P i.ty,plL P i,fiL P i)
def TI.v2(i:TI):=(i.und,some i.row,some i.size,some i.bytes,some i.zero,(match i.k with|0=>none|_=>some i.pl),(match i.k with|1=>i.pl.map some|_=>[]))
structure TI.Ok(P:Program)(i:TI):Prop where
 und:Ru P i.ty=i.und
 row:ej P i.ty=some i.row
 size:ao P i.ty=some i.size
 bytes:(P.info? i.ty).map (·.bytes)=some i.bytes
 zero:bj P i.ty=some i.zero
 pl:Nat.beq i.k 0=false->mt P i.ty=some i.pl
 fi:Nat.beq i.k 1=true->∀j f,i.pl[j]? =some f->dx P i.ty j=some f
theorem TI.ok_of{P:Program}{i:TI}(h:i.v1 P=i.v2):i.Ok P:=by
 unfold TI.v1 TI.v2 at h
 simp only[Prod.mk.injEq]at h
 obtain⟨h1,h2,h3,h4,h5,h6,h7⟩:=h
 refine⟨h1,h2,h3,h4,h5,fun hk=>?_,fun hk j f hj=>?_⟩
 ·cases e:i.k with
  |zero=>rw[e]at hk;cases hk
  |succ n=>unfold plL at h6;simp only[e]at h6;exact h6
 ·have e:i.k=1:=agu hk
  unfold fiL at h7
  rw[e]at h7
  obtain⟨ha,hf⟩:=ahl.1 hj
  have:=congrArg (fun l=>l[j]?) h7
  simp only[List.getElem?_map,List.getElem?_range ha,ahn,hj]at this
  exact Option.some.inj this
def pn:List TI->Nat->Option TI
 |[],_=>none
 |i::r,t=>bif Nat.beq i.ty t then some i else pn r t
structure Inf where
 I:List TI
 B:List Nat
structure Inf.Ok(P:Program)(X:Inf):Prop where
 I:∀i∈X.I,i.Ok P
 B:∀f∈X.B,bw P f=true
 m:P.follows .mixedOrders=true
theorem Inf.ok_of{P:Program}{X:Inf}(h1:X.I.map (TI.v1 P)=X.I.map TI.v2)(h2:X.B.all (bw P)=true)(h3:P.follows .mixedOrders=true):X.Ok P:=by refine⟨fun i hi=>TI.ok_of ?_,fun f hf=>List.all_eq_true.1 h2 f hf,h3⟩;obtain⟨j,hj,rfl⟩:=ahd hi;have:=congrArg (fun l=>l[j]?) h1;simpa[hj]using this
theorem ir{P:Program}{X:Inf}(h:X.Ok P){t:Nat}{i:TI}(hl:pn X.I t=some i):i.Ok P/\i.ty=t:=by
 have:∀l:List TI,pn l t=some i->i∈l/\i.ty=t:=by
  intro l
  induction l with
  |nil=>intro h;cases h
  |cons a r ih=>
   intro h
   unfold pn at h
   cases hb:Nat.beq a.ty t with
   |true=>rw[hb]at h;simp only[cond_true,agv]at h;subst h;exact⟨by simp,agu hb⟩
   |false=>rw[hb]at h;simp only[cond_false]at h;exact⟨by simp[(ih h).1],(ih h).2⟩
 exact⟨h.I _ (this _ hl).1,(this _ hl).2⟩
def frc(a:AV)(k:AV->Prop):Prop:=match a with
 |.v x=>k (.v x)
 |.ptr i v o=>k (.ptr i v o)
 |.sl i v o n=>k (.sl i v o n)
 |.tree n xs=>k (.tree n xs)
 |.tp cs o=>k (.tp cs o)
 |.agg cs=>k (.agg cs)
 |.tup cs=>k (.tup cs)
 |.clo f cs=>k (.clo f cs)
 |.unk=>k .unk
 |.mp i v=>k (.mp i v)
 |.it i v=>k (.it i v)
theorem rl{a:AV}{k:AV->Prop}(h:frc a k):k a:=by cases a<;>exact h
def Td:List AV->(List AV->Prop)->Prop
 |[],k=>k []
 |a::r,k=>frc a fun a'=>Td r fun r'=>k (a'::r')
theorem qk:∀{l:List AV} {k:List AV->Prop},Td l k->k l
 |[],_,h=>h
 |a::r,k,h=>qk (k:=fun r'=>k (a::r')) (rl (k:=fun a'=>Td r fun r'=>k (a'::r')) h)
abbrev KT:=List Nat->List (Nat×Option Blk)->AV->Nat->Prop
inductive OpG(P:Program)(o:Oper)(τ:Nat->AV)(η:bi)(u:Nat)(k:KT):Prop
 |mk (fp:List Nat) (δ:List (Nat×Option Blk)) (v:AV) (u':Nat) (hL:LOp P o τ η fp δ v) (hu:Nat.ble u u'=true) (hn:zn fp δ u u'=true) (h:k fp δ v u'):OpG P o τ η u k
inductive IdxG(xs:List (List AV))(j:Nat)(k:AV->Prop):Prop
 |mk (hj:j<xs.length) (h:k (.tp xs[j] 0)):IdxG xs j k
inductive LenG(xs:List (List AV))(k:AV->Prop):Prop
 |mk (h:k (.v (.int .i64 ((xs.length:Nat):Int)))):LenG xs k
theorem IdxG.of{α:Type}{f:α->List AV}{l:List α}{j:Nat}{k:AV->Prop}(hj:j<l.length)(h:k (.tp (f l[j]) 0)):IdxG (l.map f) j k:=by refine .mk (by rw[agz];exact hj) ?_;rw[List.getElem_map];exact h
theorem LenG.of{α:Type}{f:α->List AV}{l:List α}{k:AV->Prop}(h:k (.v (.int .i64 ((l.length:Nat):Int)))):LenG (l.map f) k:=by refine .mk ?_;rw[agz];exact h
section
variable{P:Program}{X:Inf}{τ:Nat->AV}{η:bi}{u:Nat}{k:KT}{d:Option Tmp}{ty:TypeId}{pos:String}{af:Array Edge}{g:Option (Nat×Bool)}
theorem OpG.lk{o:Oper}{fp:List Nat}{v:AV}(hL:LOp P o τ η fp [] v)(h:k fp [] v u):OpG P o τ η u k:=.mk fp [] v u hL (by simp[Nat.ble_eq]) rfl h
theorem OpG.nw{o:Oper}{b:Option Blk}{v:AV}(hL:LOp P o τ η [] [(u,b)] v)(ht:Nat.ble (u+1) TOP=true)(h:k [] [(u,b)] v (u+1)):OpG P o τ η u k:=.mk [] _ v (u+1) hL (by simp[Nat.ble_eq]) (Bx ht) h
theorem OpG.wr{o:Oper}{b:Option Blk}{v:AV}{id:Nat}(hL:LOp P o τ η [id] [(id,b)] v)(ht:sp u id=true)(h:k [id] [(id,b)] v u):OpG P o τ η u k:=.mk [id] _ v u hL (by simp[Nat.ble_eq]) (Ko ht) h
theorem dp{b:Bool}{A B:Prop}(h:cond b A B):(b=true/\A)\/(b=false/\B):=by cases b with
 |true=>exact .inl ⟨rfl,h⟩
 |false=>exact .inr ⟨rfl,h⟩
def U5(P:Program)(o:Oper)(τ:Nat->AV)(η:bi)(u:Nat)(c x y:Operand)(k:KT):Prop:=match aev τ c with
 |.v (.bool t)=>cond t (frc (aev τ x) fun v=>k [] [] v u) (frc (aev τ y) fun v=>k [] [] v u)
 |_=>OpG P o τ η u k
theorem Pf{c x y:Operand}(h:U5 P ⟨d,.pick c x y,ty,pos,af,g⟩ τ η u c x y k):OpG P ⟨d,.pick c x y,ty,pos,af,g⟩ τ η u k:=by unfold U5 at h;split at h;rename_i t hc;rcases dp h with⟨e,h'⟩|⟨e,h'⟩;exact .lk (Ez hc e rfl) (rl (k:=fun v=>k [] [] v u) h');exact .lk (Fa hc e rfl) (rl (k:=fun v=>k [] [] v u) h');exact h
def Vj(P:Program)(X:Inf)(o:Oper)(τ:Nat->AV)(η:bi)(u:Nat)(t:Nat)(x:Operand)(k:KT):Prop:=match pn X.I t with
 |none=>OpG P o τ η u k
 |some i=>match aev τ x with
  |.ptr id ver p=>match ii η id ver with
   |none=>OpG P o τ η u k
   |some b=>match i.row with
    |none=>match b.cs[p]? with
     |some v=>frc v fun v=>k [id] [] v u
     |none=>OpG P o τ η u k
    |some n=>match cy p n b.cs with
     |some ds=>k [id] [] (.agg ds) u
     |none=>OpG P o τ η u k
  |.tp cs p=>match i.row with
   |none=>match cs[p]? with
    |some v=>frc v fun v=>k [] [] v u
    |none=>OpG P o τ η u k
   |some n=>match cy p n cs with
    |some ds=>k [] [] (.agg ds) u
    |none=>OpG P o τ η u k
  |_=>OpG P o τ η u k
theorem P0(hX:X.Ok P){t:Nat}{x:Operand}(h:Vj P X ⟨d,.load t x,ty,pos,af,g⟩ τ η u t x k):OpG P ⟨d,.load t x,ty,pos,af,g⟩ τ η u k:=by unfold Vj at h;split at h;exact h;rename_i i hi;obtain⟨hI,rfl⟩:=ir hX hi;split at h;rename_i id ver p hx;split at h;exact h;rename_i b hb;obtain⟨h1,h2,h3⟩:=ca hb;split at h;rename_i hr;split at h;rename_i v hv;exact .lk (lD (hI.row.trans (by rw[hr])) hx h1 h2 h3 hv) (rl h);exact h;rename_i n hr;split at h;rename_i ds hv;exact .lk (Fb (hI.row.trans (by rw[hr])) hx h1 h2 h3 hv) h;exact h;rename_i cs p hx;split at h;rename_i hr;split at h;rename_i v hv;exact .lk (lE (hI.row.trans (by rw[hr])) hx hv) (rl h);exact h;rename_i n hr;split at h;rename_i ds hv;exact .lk (Av (hI.row.trans (by rw[hr])) hx hv) h;exact h;exact h
def D7(P:Program)(X:Inf)(o:Oper)(τ:Nat->AV)(η:bi)(u:Nat)(t:Nat)(x:Operand)(j:Nat)(k:KT):Prop:=match pn X.I t with
 |none=>OpG P o τ η u k
 |some i=>bif Nat.beq i.k 1 then match i.pl[j]? with
  |none=>OpG P o τ η u k
  |some (off,sz)=>bif Nat.beq sz 0 then OpG P o τ η u k else match aev τ x with
   |.ptr id ver p=>match ii η id ver with
    |none=>OpG P o τ η u k
    |some b=>k [id] [] (.ptr id ver (p+off)) u
   |.tp cs p=>k [] [] (.tp cs (p+off)) u
   |_=>OpG P o τ η u k
  else OpG P o τ η u k
theorem In(hX:X.Ok P){t j:Nat}{x:Operand}(h:D7 P X ⟨d,.fieldAddr t x j,ty,pos,af,g⟩ τ η u t x j k):OpG P ⟨d,.fieldAddr t x j,ty,pos,af,g⟩ τ η u k:=by unfold D7 at h;split at h;exact h;rename_i i hi;obtain⟨hI,rfl⟩:=ir hX hi;rcases dp h with⟨hk,h⟩|⟨hk,h⟩;split at h;exact h;rename_i off sz hp;have hf:=hI.fi hk _ _ hp;rcases dp h with⟨hz,h⟩|⟨hz,h⟩;exact h;split at h;rename_i id ver p hx;split at h;exact h;rename_i b hb;obtain⟨h1,h2,h3⟩:=ca hb;exact .lk (lF hf hz hx h1 h2 h3) h;rename_i cs p hx;exact .lk (lr hf hz hx) h;exact h;exact h
def D3(P:Program)(X:Inf)(o:Oper)(τ:Nat->AV)(η:bi)(u:Nat)(t:Nat)(x y:Operand)(k:KT):Prop:=match pn X.I t with
 |none=>OpG P o τ η u k
 |some i=>match i.und with
  |.sl e=>match pn X.I e with
   |none=>OpG P o τ η u k
   |some q=>match aev τ x with
    |.tree n xs=>match aev τ y with
     |.v (.int .i64 (.ofNat j))=>bif Nat.beq q.size n then IdxG xs j fun v=>k [] [] v u else OpG P o τ η u k
     |_=>OpG P o τ η u k
    |.sl id ver off len=>match aev τ y with
     |.v (.int .i64 (.ofNat j))=>match ii η id ver with
      |some b=>bif Nat.beq b.esz q.size then j<len/\k [id] [] (.ptr id ver (off+j*q.size)) u else OpG P o τ η u k
      |none=>OpG P o τ η u k
     |_=>OpG P o τ η u k
    |_=>OpG P o τ η u k
  |_=>OpG P o τ η u k
theorem Ih(hX:X.Ok P){t:Nat}{x y:Operand}(h:D3 P X ⟨d,.indexAddr t x y,ty,pos,af,g⟩ τ η u t x y k):OpG P ⟨d,.indexAddr t x y,ty,pos,af,g⟩ τ η u k:=by unfold D3 at h;split at h;exact h;rename_i i hi;obtain⟨hI,rfl⟩:=ir hX hi;split at h;rename_i e he;have hu:=De (hI.und.trans he);split at h;exact h;rename_i q hq;obtain⟨hQ,rfl⟩:=ir hX hq;split at h;rename_i n xs hx;split at h;rename_i j hj;rcases dp h with⟨hz,h'⟩|⟨hz,h⟩;obtain⟨hl,h'⟩:=h';have hn:q.size=n:=agu hz;subst hn;have:=lI (P:=P) (τ:=τ) (η:=η) (d:=d) (ty:=ty) (pos:=pos) (af:=af) (g:=g) (f:=fun r:List AV=>r) (l:=xs) hu hQ.size (by rw[hx];simp) hj hl;exact .lk this h';exact h;exact h;rename_i id ver off len hx;split at h;rename_i j hj;split at h;rename_i b hb;obtain⟨h1,h2,h3⟩:=ca hb;rcases dp h with⟨hz,h⟩|⟨hz,h⟩;exact .lk (mg hu hQ.size hx hj h.1 h1 h2 h3 (agu hz)) h.2;exact h;exact h;exact h;exact h;exact h
def wi(P:Program)(X:Inf)(o:Oper)(τ:Nat->AV)(η:bi)(u:Nat)(t:Nat)(x y:Operand)(k:KT):Prop:=match pn X.I t with
 |none=>OpG P o τ η u k
 |some i=>match i.und with
  |.str=>match aev τ x with
   |.v (.string s)=>match aev τ y with
    |.v (.int .i64 (.ofNat j))=>j<s.size/\k [] [] (.v (.int .u8 ((bAt s j).toNat:Int))) u
    |_=>OpG P o τ η u k
   |_=>OpG P o τ η u k
  |_=>OpG P o τ η u k
theorem B8(hX:X.Ok P){t:Nat}{x y:Operand}(h:wi P X ⟨d,.index t x y,ty,pos,af,g⟩ τ η u t x y k):OpG P ⟨d,.index t x y,ty,pos,af,g⟩ τ η u k:=by unfold wi at h;split at h;exact h;rename_i i hi;obtain⟨hI,rfl⟩:=ir hX hi;split at h;rename_i he;have hu:=Fl (hI.und.trans he);split at h;rename_i s hx;split at h;rename_i j hj;exact .lk (Cx hu hx hj h.1) h.2;exact h;exact h;exact h
def Jq(P:Program)(X:Inf)(o:Oper)(τ:Nat->AV)(η:bi)(u:Nat)(t:Nat)(x y:Operand)(k:KT):Prop:=match pn X.I t with
 |none=>OpG P o τ η u k
 |some i=>match aev τ x with
  |.ptr id ver p=>match η id with
   |some ⟨w,cs,z,np⟩=>bif Nat.beq w ver&&!np&&sp u id then match ji (aev τ y)with
    |some vs=>Td vs fun vs=>bif Nat.beq vs.length i.size&&vs.all AV.one then match ue p cs vs with
     |some ds=>k [id] [(id,some ⟨w,ds,z,np⟩)] (.v undef) u
     |none=>OpG P o τ η u k
     else OpG P o τ η u k
    |none=>OpG P o τ η u k
    else OpG P o τ η u k
   |none=>OpG P o τ η u k
  |_=>OpG P o τ η u k
theorem Jp(hX:X.Ok P){t:Nat}{x y:Operand}(h:Jq P X ⟨d,.store t x y,ty,pos,af,g⟩ τ η u t x y k):OpG P ⟨d,.store t x y,ty,pos,af,g⟩ τ η u k:=by unfold Jq at h;split at h;exact h;rename_i i hi;obtain⟨hI,rfl⟩:=ir hX hi;split at h;rename_i id ver p hx;split at h;rename_i w cs z np hb;rcases dp h with⟨hc,h⟩|⟨hc,h⟩;simp only[ahq,Bool.not_eq_true']at hc;split at h;rename_i vs hv;rcases dp (qk h)with⟨hz,h⟩|⟨hz,h⟩;rw[ahq]at hz;split at h;rename_i ds hd;exact .wr (LOp.st hI.size hx hb (agu hc.1.1) hc.1.2 hv (agu hz.1) hz.2 hd) hc.2 h;exact h;exact h;exact h;exact h;exact h;exact h
def Zj(P:Program)(o:Oper)(τ:Nat->AV)(η:bi)(u:Nat)(cs:Option (List AV))(k:KT):Prop:=match cs with
 |some vs=>bif Nat.ble (u+1) TOP then Td vs fun vs=>k [] [(u,some ⟨0,vs,0,false⟩)] (.ptr u 0 0) (u+1)else OpG P o τ η u k
 |none=>OpG P o τ η u k
theorem W6{t:Nat}{x:Operand}(h:Zj P ⟨d,.box t x,ty,pos,af,g⟩ τ η u (ji (aev τ x)) k):OpG P ⟨d,.box t x,ty,pos,af,g⟩ τ η u k:=by unfold Zj at h;split at h;rename_i vs hv;rcases dp h with⟨hz,h⟩|⟨hz,h⟩;have h:=qk h;exact .nw (Ue hv) hz h;exact h;exact h
def M7(P:Program)(X:Inf)(o:Oper)(τ:Nat->AV)(η:bi)(u:Nat)(t:Nat)(k:KT):Prop:=match pn X.I t with
 |none=>OpG P o τ η u k
 |some i=>Zj P o τ η u (ji (.v i.zero)) k
theorem M6(hX:X.Ok P){t:Nat}(h:M7 P X ⟨d,.alloc t,ty,pos,af,g⟩ τ η u t k):OpG P ⟨d,.alloc t,ty,pos,af,g⟩ τ η u k:=by unfold M7 at h;split at h;exact h;rename_i i hi;obtain⟨hI,rfl⟩:=ir hX hi;unfold Zj at h;split at h;rename_i vs hv;rcases dp h with⟨hz,h⟩|⟨hz,h⟩;have h:=qk h;exact .nw (Uf hI.zero hv) hz h;exact h;exact h
def Mk(P:Program)(X:Inf)(o:Oper)(τ:Nat->AV)(η:bi)(u:Nat)(t:Nat)(parts:Array (Nat×Operand))(k:KT):Prop:=match pn X.I t with
 |none=>OpG P o τ η u k
 |some i=>bif Nat.beq i.k 0 then OpG P o τ η u k else match ji (.v i.zero)with
  |none=>OpG P o τ η u k
  |some cs=>match Af i.pl cs (l0 τ parts)with
   |some out=>Td out fun out=>k [] [] (.agg out) u
   |none=>OpG P o τ η u k
theorem Mj(hX:X.Ok P){t:Nat}{parts:Array (Nat×Operand)}(h:Mk P X ⟨d,.build t parts,ty,pos,af,g⟩ τ η u t parts k):OpG P ⟨d,.build t parts,ty,pos,af,g⟩ τ η u k:=by unfold Mk at h;split at h;exact h;rename_i i hi;obtain⟨hI,rfl⟩:=ir hX hi;rcases dp h with⟨hz,h⟩|⟨hz,h⟩;exact h;split at h;exact h;rename_i cs hc;split at h;rename_i out ho;have h:=qk h;exact .lk (Nr hI.zero (hI.pl hz) hc ho) h;exact h
def Am(P:Program)(X:Inf)(o:Oper)(τ:Nat->AV)(η:bi)(u:Nat)(t len:Nat)(parts:Array (Nat×Operand))(k:KT):Prop:=match pn X.I t with
 |none=>OpG P o τ η u k
 |some i=>match i.und with
  |.sl e=>match pn X.I e with
   |none=>OpG P o τ η u k
   |some q=>bif Nat.ble (u+1) TOP&&Nat.ble (len*q.size) 16777216&&Nat.ble len 16777216&&!Nat.beq (len*q.size) 0 then match Af (si len q.size) (b5 q.zero (len*q.size)) (l0 τ parts)with
    |some out=>Td out fun out=>k [] [(u,some ⟨TV,out,q.size,false⟩)] (.sl u TV 0 len) (u+1)
    |none=>OpG P o τ η u k
    else OpG P o τ η u k
  |_=>OpG P o τ η u k
theorem Ep(hX:X.Ok P){t len:Nat}{parts:Array (Nat×Operand)}(h:Am P X ⟨d,.buildSlice t len parts,ty,pos,af,g⟩ τ η u t len parts k):OpG P ⟨d,.buildSlice t len parts,ty,pos,af,g⟩ τ η u k:=by unfold Am at h;split at h;exact h;rename_i i hi;obtain⟨hI,rfl⟩:=ir hX hi;split at h;rename_i e he;have hu:=De (hI.und.trans he);split at h;exact h;rename_i q hq;obtain⟨hQ,rfl⟩:=ir hX hq;rcases dp h with⟨hc,h⟩|⟨hc,h⟩;simp only[ahq,Bool.not_eq_true']at hc;split at h;rename_i out ho;have h:=qk h;exact .nw (cj hu hQ.size hQ.zero hc.1.1.2 hc.1.2 hc.2 ho) hc.1.1.1 h;exact h;exact h;exact h
def ad8(P:Program)(o:Oper)(τ:Nat->AV)(η:bi)(u:Nat)(x:Operand)(k:KT):Prop:=match aev τ x with
 |.ptr id ver p=>match ii η id ver with
  |some b=>k [id] [] (.ptr id ver p) u
  |none=>OpG P o τ η u k
 |.tp cs p=>k [] [] (.tp cs p) u
 |_=>OpG P o τ η u k
theorem Va{x:Operand}(h:ad8 P ⟨d,.nilCheck x,ty,pos,af,g⟩ τ η u x k):OpG P ⟨d,.nilCheck x,ty,pos,af,g⟩ τ η u k:=by unfold ad8 at h;split at h;rename_i id ver p hx;split at h;rename_i b hb;obtain⟨h1,h2,h3⟩:=ca hb;exact .lk (lN hx h1 h2) h;exact h;rename_i cs p hx;exact .lk (rt hx) h;exact h
def Ai(P:Program)(o:Oper)(τ:Nat->AV)(η:bi)(u:Nat)(x:Operand)(j:Nat)(k:KT):Prop:=match aev τ x with
 |.tup cs=>match cs[j]? with
  |some v=>frc v fun v=>k [] [] v u
  |none=>OpG P o τ η u k
 |_=>OpG P o τ η u k
theorem D8{x:Operand}{j:Nat}(h:Ai P ⟨d,.extract x j,ty,pos,af,g⟩ τ η u x j k):OpG P ⟨d,.extract x j,ty,pos,af,g⟩ τ η u k:=by unfold Ai at h;split at h;rename_i cs hx;split at h;rename_i v hv;exact .lk (LOp.extract hx hv) (rl h);exact h;exact h
end
def cmpI(b:BinOp)(m n:Int):Option Bool:=match b with
 |.eql=>some (m==n)
 |.neq=>some (m !=n)
 |.lss=>some (decide (m<n))
 |.leq=>some (decide (m<=n))
 |.gtr=>some (decide (m>n))
 |.geq=>some (decide (m≥n))
 |_=>none
def cmpT(b:BinOp)(s r:ByteArray):Option Bool:=match b with
 |.eql=>some (s.toList==r.toList)
 |.neq=>some (!(s.toList==r.toList))
 |.lss=>some (Op.bytesLess s.toList r.toList)
 |.leq=>some (Op.bytesLess s.toList r.toList||s.toList==r.toList)
 |.gtr=>some (!(Op.bytesLess s.toList r.toList||s.toList==r.toList))
 |.geq=>some (!Op.bytesLess s.toList r.toList)
 |_=>none
section
variable{P:Program}{X:Inf}{τ:Nat->AV}{η:bi}{u:Nat}{k:KT}{d:Option Tmp}{ty:TypeId}{pos:String}{af:Array Edge}{g:Option (Nat×Bool)}
theorem LOp.cmpI{t t':TypeId}{b:BinOp}{x y:Operand}{m n:Int}{kk:IntKind}{v:Bool}(hx:aev τ x=.v (.int kk m))(hy:aev τ y=.v (.int kk n))(h:cmpI b m n=some v):LOp P ⟨d,.binOp b t x y t',ty,pos,af,g⟩ τ η [] [] (.v (.bool v)):=
 .look [] fun C a hg ha _=>⟨.bool v,by
  have e1:=ha x (by simp[Op.operands]);have e2:=ha y (by simp[Op.operands])
  rw[hx]at e1;rw[hy]at e2;have e1':=e1.v_inv
  have e2':=e2.v_inv;have hc:∀w:World,(eqGuard b t x y (.int kk m) (.int kk n)).run P w=.ok () w:=by intro w;unfold eqGuard;split<;>rfl
  have hb:∀w:World,(Go.binOp b t (.int kk m) (.int kk n)).run P w=.ok (.bool v) w:=by
   intro w
   cases b<;>simp only[Go.Proofs.YtbhhmbchdponjaaGreatDoor.cmpI]at h<;>first
    |(cases h;done)
    |(obtain rfl:=Option.some.inj h;simp[Go.binOp,Op.intCmp])
  simp only[execOp,e1',e2',Sem.run_bind,hc,ahb,hb];rfl,VR.v C _⟩
theorem LOp.cmpT{t t':TypeId}{b:BinOp}{x y:Operand}{m n:ByteArray}{v:Bool}(hx:aev τ x=.v (.string m))(hy:aev τ y=.v (.string n))(h:cmpT b m n=some v):LOp P ⟨d,.binOp b t x y t',ty,pos,af,g⟩ τ η [] [] (.v (.bool v)):=
 .look [] fun C a hg ha _=>⟨.bool v,by
  have e1:=ha x (by simp[Op.operands]);have e2:=ha y (by simp[Op.operands])
  rw[hx]at e1;rw[hy]at e2;have e1':=e1.v_inv
  have e2':=e2.v_inv;have hc:∀w:World,(eqGuard b t x y (.string m) (.string n)).run P w=.ok () w:=by intro w;unfold eqGuard;split<;>rfl
  have hb:∀w:World,(Go.binOp b t (.string m) (.string n)).run P w=.ok (.bool v) w:=by
   intro w
   cases b<;>simp only[Go.Proofs.YtbhhmbchdponjaaGreatDoor.cmpT]at h<;>first
    |(cases h;done)
    |(obtain rfl:=Option.some.inj h;rfl)
  simp only[execOp,e1',e2',Sem.run_bind,hc,ahb,hb];rfl,VR.v C _⟩
def abf(P:Program)(o:Oper)(τ:Nat->AV)(η:bi)(u:Nat)(b:BinOp)(m n:Int)(k:KT):Prop:=match cmpI b m n with
 |some v=>k [] [] (.v (.bool v)) u
 |none=>match b with
  |.add=>(-9223372036854775808<=m+n/\m+n<=9223372036854775807)/\k [] [] (.v (.int .i64 (m+n))) u
  |.sub=>(-9223372036854775808<=m-n/\m-n<=9223372036854775807)/\k [] [] (.v (.int .i64 (m-n))) u
  |_=>OpG P o τ η u k
def abe(P:Program)(o:Oper)(τ:Nat->AV)(η:bi)(u:Nat)(b:BinOp)(m n:ByteArray)(k:KT):Prop:=match cmpT b m n with
 |some v=>k [] [] (.v (.bool v)) u
 |none=>match b with
  |.add=>m.size+n.size<=9223372036854775807/\k [] [] (.v (.string (m++n))) u
  |_=>OpG P o τ η u k
def abg(P:Program)(X:Inf)(o:Oper)(τ:Nat->AV)(η:bi)(u:Nat)(b:BinOp)(t:Nat)(p q:Bool)(k:KT):Prop:=match pn X.I t with
 |none=>OpG P o τ η u k
 |some i=>match i.und with
  |.bool=>match b with
   |.eql=>k [] [] (.v (.bool (p==q))) u
   |.neq=>k [] [] (.v (.bool (!(p==q)))) u
   |_=>OpG P o τ η u k
  |_=>OpG P o τ η u k
def agh(P:Program)(X:Inf)(o:Oper)(τ:Nat->AV)(η:bi)(u:Nat)(b:BinOp)(t:Nat)(x y:Operand)(k:KT):Prop:=match aev τ x with
 |.v (.int .i64 m)=>match aev τ y with
  |.v (.int .i64 n)=>abf P o τ η u b m n k
  |_=>OpG P o τ η u k
 |.v (.int .u8 m)=>match aev τ y with
  |.v (.int .u8 n)=>match cmpI b m n with
   |some v=>k [] [] (.v (.bool v)) u
   |none=>OpG P o τ η u k
  |_=>OpG P o τ η u k
 |.v (.string m)=>match aev τ y with
  |.v (.string n)=>abe P o τ η u b m n k
  |_=>OpG P o τ η u k
 |.v (.bool p)=>match aev τ y with
  |.v (.bool q)=>abg P X o τ η u b t p q k
  |_=>OpG P o τ η u k
 |_=>OpG P o τ η u k
theorem W8(hX:X.Ok P){t t':Nat}{b:BinOp}{x y:Operand}(h:agh P X ⟨d,.binOp b t x y t',ty,pos,af,g⟩ τ η u b t x y k):OpG P ⟨d,.binOp b t x y t',ty,pos,af,g⟩ τ η u k:=by unfold agh at h;split at h;rename_i m hx;split at h;rename_i n hy;unfold abf at h;split at h;rename_i v hv;exact .lk (LOp.cmpI hx hy hv) h;split at h;exact .lk (lJ hx hy h.1.1 h.1.2) h.2;exact .lk (u4 hx hy h.1.1 h.1.2) h.2;exact h;exact h;rename_i m hx;split at h;rename_i n hy;split at h;rename_i v hv;exact .lk (LOp.cmpI hx hy hv) h;exact h;exact h;rename_i m hx;split at h;rename_i n hy;unfold abe at h;split at h;rename_i v hv;exact .lk (LOp.cmpT hx hy hv) h;split at h;exact .lk (yq hx hy h.1) h.2;exact h;exact h;rename_i p hx;split at h;rename_i q hy;unfold abg at h;split at h;exact h;rename_i i hi;obtain⟨hI,rfl⟩:=ir hX hi;split at h;rename_i hu;split at h;exact .lk (Xr hx hy (Bb (hI.und.trans hu))) h;exact .lk (Xp hx hy (Bb (hI.und.trans hu))) h;exact h;exact h;exact h;exact h
def ad6(P:Program)(o:Oper)(τ:Nat->AV)(η:bi)(u:Nat)(x:Operand)(k:KT):Prop:=match aev τ x with
 |.v (.bool b)=>k [] [] (.v (.bool (!b))) u
 |_=>OpG P o τ η u k
theorem U8{t:Nat}{x:Operand}(h:ad6 P ⟨d,.unOp .not t x,ty,pos,af,g⟩ τ η u x k):OpG P ⟨d,.unOp .not t x,ty,pos,af,g⟩ τ η u k:=by unfold ad6 at h;split at h;rename_i b hx;exact .lk (Ah (by unfold Ip;simp only[hx])) h;exact h
def aek(P:Program)(X:Inf)(o:Oper)(τ:Nat->AV)(η:bi)(u:Nat)(t:Nat)(x:Operand)(k:KT):Prop:=match pn X.I t with
 |none=>OpG P o τ η u k
 |some i=>match i.und with
  |.sl e=>match aev τ x with
   |.tree n xs=>LenG xs fun v=>k [] [] v u
   |.sl id ver off len=>match ii η id ver with
    |some b=>k [id] [] (.v (.int .i64 ((len:Nat):Int))) u
    |none=>OpG P o τ η u k
   |.v (.slice none 0 0)=>k [] [] (.v (.int .i64 0)) u
   |_=>OpG P o τ η u k
  |.str=>match aev τ x with
   |.v (.string s)=>k [] [] (.v (.int .i64 ((s.size:Nat):Int))) u
   |_=>OpG P o τ η u k
  |_=>OpG P o τ η u k
theorem Vp(hX:X.Ok P){t:Nat}{x:Operand}{ats:Array TypeId}(ha:ats[0]? =some t)(h:aek P X ⟨d,.call {callee:=.builtin .len,args:=#[x],argTypes:=ats},ty,pos,af,g⟩ τ η u t x k):OpG P ⟨d,.call {callee:=.builtin .len,args:=#[x],argTypes:=ats},ty,pos,af,g⟩ τ η u k:=by unfold aek at h;split at h;exact h;rename_i i hi;obtain⟨hI,rfl⟩:=ir hX hi;split at h;rename_i e he;have hu:=De (hI.und.trans he);split at h;rename_i n xs hx;obtain⟨h⟩:=h;exact .lk (lT (n:=n) (f:=fun r:List AV=>r) (l:=xs) ha hu (by rw[hx];simp)) h;rename_i id ver off len hx;split at h;rename_i b hb;obtain⟨h1,h2,h3⟩:=ca hb;exact .lk (cd ha hu hx h1 h2) h;exact h;rename_i hx;exact .lk (I1 ha hu hx) h;exact h;rename_i he;have hu:=Fl (hI.und.trans he);split at h;rename_i s hx;exact .lk (I0 ha hu hx) h;exact h;exact h
def Vi(n:Nat):List Nat->Bool
 |[]=>false
 |a::r=>bif Nat.beq a n then true else Vi n r
theorem Ku{n:Nat}:∀{l:List Nat},Vi n l=true->n∈l
 |[],h=>by cases h
 |a::r,h=>by
  unfold Vi at h
  cases hb:Nat.beq a n with
  |true=>rw[agu hb];simp
  |false=>rw[hb]at h;exact List.mem_cons_of_mem _ (Ku h)
inductive ArgG(P:Program)(f:FuncId)(args:List AV)(k:AV->Prop):Prop
 |mk {R:AV->Prop} (h:PRet P f args R) (hp:k8 args=true) (hk:∀ret,R ret->k ret):ArgG P f args k
def Wz(P:Program)(X:Inf)(o:Oper)(τ:Nat->AV)(η:bi)(u:Nat)(f:FuncId)(xs:List Operand)(k:KT):Prop:=
 bif Vi f X.B then Td (xs.map (aev τ)) fun ys=>ArgG P f ys fun v=>frc v fun v=>k [] [] v u else OpG P o τ η u k
theorem Qv(hX:X.Ok P){f:FuncId}{xs:Array Operand}{ats:Array TypeId}(h:Wz P X ⟨d,.call {callee:=.value (.func f),args:=xs,argTypes:=ats},ty,pos,af,g⟩ τ η u f xs.toList k):OpG P ⟨d,.call {callee:=.value (.func f),args:=xs,argTypes:=ats},ty,pos,af,g⟩ τ η u k:=by unfold Wz at h;rcases dp h with⟨hb,h⟩|⟨hb,h⟩;obtain⟨⟨ret,hR,hc⟩,hp,hk⟩:=qk h;exact .lk (LOp.call (hX.B _ (Ku hb)) hp hc) (rl (k:=fun v=>k [] [] v u) (hk ret hR));exact h
def keyO(o:Oper):Nat:=match o.dst with
 |some d=>d
 |none=>match o.op with
  |.store _ (.tmp q) _=>q+100000
  |_=>99999
def Uo(P:Program)(X:Inf)(cu:List Nat)(o:Oper)(τ:Nat->AV)(η:bi)(u:Nat)(k:KT):Prop:=
 bif Vi (keyO o) cu then OpG P o τ η u k else match o.op with
 |.move x=>frc (aev τ x) fun v=>k [] [] v u
 |.assign x=>frc (aev τ x) fun v=>k [] [] v u
 |.pick c x y=>U5 P o τ η u c x y k
 |.load t x=>Vj P X o τ η u t x k
 |.store t x y=>Jq P X o τ η u t x y k
 |.fieldAddr t x j=>D7 P X o τ η u t x j k
 |.indexAddr t x y=>D3 P X o τ η u t x y k
 |.index t x y=>wi P X o τ η u t x y k
 |.box t x=>Zj P o τ η u (ji (aev τ x)) k
 |.alloc t=>M7 P X o τ η u t k
 |.build t parts=>Mk P X o τ η u t parts k
 |.buildSlice t len parts=>Am P X o τ η u t len parts k
 |.nilCheck x=>ad8 P o τ η u x k
 |.extract x j=>Ai P o τ η u x j k
 |.binOp b t x y _=>agh P X o τ η u b t x y k
 |.unOp .not _ x=>ad6 P o τ η u x k
 |.call ⟨.value (.func f),xs,_⟩=>Wz P X o τ η u f xs.toList k
 |.call ⟨.builtin .len,⟨[x]⟩,ats⟩=>match ats[0]? with
  |some t=>aek P X o τ η u t x k
  |none=>OpG P o τ η u k
 |_=>OpG P o τ η u k
theorem Oy(hX:X.Ok P){cu:List Nat}{o:Oper}(h:Uo P X cu o τ η u k):OpG P o τ η u k:=by obtain⟨d,op,ty,pos,af,g⟩:=o;unfold Uo at h;rcases dp h with⟨_,h⟩|⟨_,h⟩;exact h;simp only at h;split at h;exact .lk (LOp.move _) (rl (k:=fun v=>k [] [] v u) h);exact .lk (LOp.assign _) (rl (k:=fun v=>k [] [] v u) h);exact Pf h;exact P0 hX h;exact Jp hX h;exact In hX h;exact Ih hX h;exact B8 hX h;exact W6 h;exact M6 hX h;exact Mj hX h;exact Ep hX h;exact Va h;exact D8 h;exact W8 hX h;exact U8 h;exact Qv hX h;split at h;rename_i t ht;exact Vp hX ht h;exact h;exact h
end
inductive GS where
 |no
 |on (q:Nat) (b:Bool)
 |bad
def Qe(ops:Array Oper)(o:Oper):GS:=match o.guard with
 |none=>.no
 |some (j,b)=>match(ops[j]?).bind (·.dst)with
  |some d=>.on d b
  |none=>.bad
abbrev KR:=List Rec->(Nat->AV)->bi->Nat->Prop
def eqB':Bool->Bool->Bool
 |true,b=>b
 |false,b=>!b
def Qn(d:Option Tmp)(τ:Nat->AV)(η:bi)(δ:List (Nat×Option Blk))(v:AV)(u:Nat)(K:(Nat->AV)->bi->Nat->Prop):Prop:=match d with
 |some d=>match δ with
  |[]=>K (upd τ d v) η u
  |[(i,b)]=>K (upd τ d v) (η.set i b) u
  |δ=>K (upd τ d v) (η.put δ) u
 |none=>match δ with
  |[]=>K τ η u
  |[(i,b)]=>K τ (η.set i b) u
  |δ=>K τ (η.put δ) u
theorem G9{d:Option Tmp}{τ:Nat->AV}{η:bi}{δ:List (Nat×Option Blk)}{v:AV}{u:Nat}{K:(Nat->AV)->bi->Nat->Prop}(h:Qn d τ η δ v u K):K (kj τ d v) (η.put δ) u:=by
 unfold Qn at h
 repeat' split at h
 all_goals exact h
inductive SpI(t:Bool)(A B:Prop):Prop
 |mk (ht:t=true->A) (hf:t=false->B):SpI t A B
theorem SpI.at{t:Bool}{A B:Prop}(h:SpI t A B):(t=true/\A)\/(t=false/\B):=by
 obtain⟨h1,h2⟩:=h
 cases t with
 |true=>exact .inl ⟨rfl,h1 rfl⟩
 |false=>exact .inr ⟨rfl,h2 rfl⟩
theorem cB{t:Bool}{A B:Prop}(ht:t=true->A)(hf:t=false->B):SpI t A B:=⟨ht,hf⟩
theorem cT{A B:Prop}(h:A):SpI true A B:=⟨fun _=>h,fun e=>Bool.noConfusion e⟩
theorem cF{A B:Prop}(h:B):SpI false A B:=⟨fun e=>Bool.noConfusion e,fun _=>h⟩
abbrev KV:=List Nat->KR->(Nat->AV)->bi->Nat->Prop
def goV(P:Program)(X:Inf)(cu:List Nat)(o:Oper)(ih:KV)(kn:List Nat)(K:KR)(τ:Nat->AV)(η:bi)(u:Nat):Prop:=
 Uo P X cu o τ η u fun fp δ v u'=>Qn o.dst τ η δ v u' (ih kn fun rs=>K (⟨fp,δ,v,u'⟩::rs))
def skV(o:Oper)(ih:KV)(kn:List Nat)(K:KR)(τ:Nat->AV)(η:bi)(u:Nat):Prop:=
 Qn o.dst τ η [] (.v undef) u (ih kn fun rs=>K (⟨[],[],.v undef,u⟩::rs))
def opV(P:Program)(X:Inf)(cu:List Nat)(ops:Array Oper)(o:Oper)(ih:KV):KV:=fun kn K τ η u=>match Qe ops o with
 |.no=>goV P X cu o ih kn K τ η u
 |.on q b=>match τ q with
  |.v (.bool c)=>cond (Vi q kn) (cond (eqB' b c) (goV P X cu o ih kn K τ η u) (skV o ih kn K τ η u))
   (SpI c
    (cond b (goV P X cu o ih (q::kn) K (upd τ q (.v (.bool true))) η u) (skV o ih (q::kn) K (upd τ q (.v (.bool true))) η u))
    (cond b (skV o ih (q::kn) K (upd τ q (.v (.bool false))) η u) (goV P X cu o ih (q::kn) K (upd τ q (.v (.bool false))) η u)))
  |.v (.tuple _)=>skV o ih kn K τ η u
  |_=>False
 |.bad=>False
noncomputable def A7(P:Program)(X:Inf)(cu:List Nat)(ops:Array Oper)(l:List Oper):KV:=
 List.rec (motive:=fun _=>KV) (fun kn K τ η u=>K [] τ η u) (fun o _ ih=>opV P X cu ops o ih) l
section
variable{P:Program}{X:Inf}{cu:List Nat}{N:Nat}{ops:Array Oper}
theorem Oj{o:Oper}{l:List Oper}{K:KR}{τ:Nat->AV}{η:bi}{u:Nat}(hX:X.Ok P)(hd:jh N ops o=true)(hw:m8 ops τ o=some true)
 {kn:List Nat}(ih:∀(kn:List Nat) (K:KR) τ η u,A7 P X cu ops l kn K τ η u->Xl P N ops l (fun rs s=>K rs s.τ s.η s.u) ⟨τ,η,u⟩)
 (h:goV P X cu o (A7 P X cu ops l) kn K τ η u):Xl P N ops (o::l) (fun rs s=>K rs s.τ s.η s.u) ⟨τ,η,u⟩:=by
 obtain⟨fp,δ,v,u',hL,hu,hn,h⟩:=Oy hX h
 obtain⟨rs,s',h1,h2⟩:=ih _ _ _ _ _ (G9 h)
 exact⟨_,s',Seq.op (s:=⟨τ,η,u⟩) u' hL hw hd hu hn h1,h2⟩
theorem yt{o:Oper}{l:List Oper}{K:KR}{τ:Nat->AV}{η:bi}{u:Nat}(hd:jh N ops o=true)(hw:m8 ops τ o=some false)
 {kn:List Nat}(ih:∀(kn:List Nat) (K:KR) τ η u,A7 P X cu ops l kn K τ η u->Xl P N ops l (fun rs s=>K rs s.τ s.η s.u) ⟨τ,η,u⟩)
 (h:skV o (A7 P X cu ops l) kn K τ η u):Xl P N ops (o::l) (fun rs s=>K rs s.τ s.η s.u) ⟨τ,η,u⟩:=by
 obtain⟨rs,s',h1,h2⟩:=ih _ _ _ _ _ (G9 h)
 exact⟨_,s',Seq.skip (s:=⟨τ,η,u⟩) hw hd h1,h2⟩
theorem yu(hX:X.Ok P):∀(l:List Oper) (_:l.all (jh N ops)=true) (kn:List Nat) (K:KR) (τ:Nat->AV) (η:bi) (u:Nat),A7 P X cu ops l kn K τ η u->Xl P N ops l (fun rs s=>K rs s.τ s.η s.u) ⟨τ,η,u⟩
 |[],_,kn,K,τ,η,u,h=>⟨[],_,.nil,h⟩
 |o::l,ha,kn,K,τ,η,u,h=>by
  rw[List.all_cons,ahq]at ha;have ih:=yu hX l ha.2
  have h:opV P X cu ops o (A7 P X cu ops l) kn K τ η u:=h;unfold opV at h;split at h;rename_i hg;refine Oj hX ha.1 ?_ ih h;unfold Qe at hg;unfold m8;split at hg;rename_i e;rw[e];split at hg<;>cases hg;rename_i q b hg
  have hb:∀(τ':Nat->AV) c,τ' q=.v (.bool c)->m8 ops τ' o=some (c==b):=by
   intro τ' c hc;unfold Qe at hg;unfold m8;split at hg;cases hg;rename_i j b' e;split at hg;rename_i d' e2;cases hg;rw[e];simp only[e2,hc];cases hg
  split at h;rename_i c hc;have hd:=Om hc
  have hw:=hb τ c hc;rcases dp h with⟨_,h⟩|⟨_,h⟩;rcases dp h with⟨e,h'⟩|⟨e,h'⟩;exact Oj hX ha.1 (by rw[hw];cases b<;>cases c<;>first|rfl|cases e) ih h';exact yt ha.1 (by rw[hw];cases b<;>cases c<;>first|rfl|cases e) ih h';rcases h.at with⟨rfl,h'⟩|⟨rfl,h'⟩;rw[hd]at h';rcases dp h' with⟨e,h''⟩|⟨e,h''⟩;exact Oj hX ha.1 (by rw[hw,e];rfl) ih h'';exact yt ha.1 (by rw[hw,e];rfl) ih h'';rw[hd]at h';rcases dp h' with⟨e,h''⟩|⟨e,h''⟩;exact yt ha.1 (by rw[hw,e];rfl) ih h'';exact Oj hX ha.1 (by rw[hw,e];rfl) ih h'';rename_i c hc;refine yt ha.1 ?_ ih h;unfold Qe at hg;unfold m8;split at hg;cases hg;rename_i j b' e;split at hg;rename_i d' e2;cases hg;rw[e];simp only[e2,hc];cases hg;exact h.elim;exact h.elim
def k6(N:Nat):Code->Bool
 |.region _ ops _=>ops.toList.all (jh N ops)
 |.seq a b=>k6 N a&&k6 N b
 |.cond _ a b=>k6 N a&&k6 N b
 |.block _ c=>k6 N c
 |.loop c=>k6 N c
 |_=>true
inductive LpG(P:Program)(X:Inf)(N:Nat)(cu st:List Nat)(c:Code)(Q:Exit->St->Prop)(s:St):Prop
 |mk (h:X.Ok P->k6 N c=true->EWP P N (.loop c) Q s):LpG P X N cu st c Q s
inductive RegG(P:Program)(X:Inf)(N:Nat)(cu st:List Nat)(id:Nat)(ops:Array Oper)(dr:Bool)(Q:Exit->St->Prop)(s:St):Prop
 |mk (h:X.Ok P->ops.toList.all (jh N ops)=true->EWP P N (.region id ops dr) Q s):RegG P X N cu st id ops dr Q s
def Ol(P:Program)(X:Inf)(cu:List Nat)(ops:Array Oper)(dr:Bool)(Q:Exit->St->Prop)(s:St):Prop:=match s with
 |⟨τ,η,u⟩=>match ops with
  |⟨l⟩=>match dr with
   |false=>A7 P X cu l.toArray l [] (fun _ τ η u=>Q .normal ⟨τ,η,u⟩) τ η u
   |true=>A7 P X cu l.toArray l [] (fun rs τ η u=>pw l.toArray rs=true/\Q .normal ⟨τ,η,u⟩) τ η u
theorem Fj{id:Nat}{dr:Bool}{Q:Exit->St->Prop}{s:St}(hX:X.Ok P)(hd:ops.toList.all (jh N ops)=true)(h:Ol P X cu ops dr Q s):EWP P N (.region id ops dr) Q s:=by
 obtain⟨τ,η,u⟩:=s
 obtain⟨l⟩:=ops
 unfold Ol at h
 cases dr with
 |false=>exact EWP.region (yu hX l hd _ _ _ _ _ h)
 |true=>exact Rp hX.m (yu hX l hd _ _ _ _ _ h)
abbrev KC:=(Exit->St->Prop)->St->Prop
def Wt(c:Operand)(a b:KC):KC:=fun Q s=>match aev s.τ c with
 |.v (.bool t)=>SpI t (a Q s) (b Q s)
 |_=>False
def adn(P:Program)(X:Inf)(N:Nat)(cu st:List Nat)(id:Nat)(ops:Array Oper)(dr:Bool):KC:=fun Q s=>bif Vi id st then RegG P X N cu st id ops dr Q s else Ol P X cu ops dr Q s
noncomputable def vc(P:Program)(X:Inf)(N:Nat)(cu st:List Nat)(c:Code):KC:=
 Code.rec (motive:=fun _=>KC) (fun Q s=>Q .normal s) (fun id ops dr=>adn P X N cu st id ops dr) (fun _ _ a b Q s=>a (andThen (b Q) Q) s) (fun c _ _ a b=>Wt c a b) (fun id _ c Q s=>c (ug id Q) s)
  (fun c _ Q s=>LpG P X N cu st c Q s) (fun _ _ _ _ _ _ _ _=>False) (fun id Q s=>Q (.exit id) s) (fun _ _ _ _=>False) (fun _ _ _=>False) (fun _ _ _=>False) (fun Q s=>Q .ret s) (fun _ _ _=>False) c
variable{st:List Nat}
theorem Hz(hX:X.Ok P):∀(c:Code) (Q:Exit->St->Prop) (s:St),k6 N c=true->vc P X N cu st c Q s->EWP P N c Q s:=by
 intro c
 induction c with
 |skip=>exact fun Q s _ h=>EWP.skip h
 |exit id=>exact fun Q s _ h=>EWP.exit h
 |ret=>exact fun Q s _ h=>EWP.ret h
 |seq a b iha ihb=>
  intro Q s hd h
  rw[k6,ahq]at hd
  refine EWP.seq (EWP.mono (iha _ _ hd.1 h) fun e s' h=>?_)
  cases e with
  |normal=>exact ihb _ _ hd.2 h
  |_=>exact h
 |block id c ih=>exact fun Q s hd h=>EWP.block (ih _ _ hd h)
 |cond c a b iha ihb=>
  intro Q s hd h
  rw[k6,ahq]at hd
  have h:Wt c (vc P X N cu st a) (vc P X N cu st b) Q s:=h
  unfold Wt at h
  split at h
  ·rename_i t ht
   refine EWP.cond ht (fun e=>?_) (fun e=>?_)
   ·exact iha _ _ hd.1 (h.1 e)
   ·exact ihb _ _ hd.2 (h.2 e)
  ·exact h.elim
 |loop c ih=>exact fun Q s hd h=>h.1 hX hd
 |region id ops dr=>
  intro Q s hd h
  have h:adn P X N cu st id ops dr Q s:=h
  unfold adn at h
  rcases dp h with⟨_,h⟩|⟨_,h⟩
  ·exact h.1 hX hd
  ·exact Fj hX hd h
 |_=>intro Q s hd h;exact h.elim
theorem LpG.via{c:Code}{Q:Exit->St->Prop}{s s2:St}(hv:∀Q,AWP P N (.loop c) Q s2->AWP P N (.loop c) Q s)(h:LpG P X N cu st c Q s2):LpG P X N cu st c Q s:=⟨fun hX hd=>EWP.via hv (h.1 hX hd)⟩
theorem LpG.loop{c:Code}{Q:Exit->St->Prop}{s:St}(I:Nat->St->Prop){n:Nat}{s1:St}(hc:Canon s s1)(h0:I n s1)(hI:∀n s,I n s->vc P X N cu st c (andThen (fun s'=>∃m s1,m<n/\Canon s' s1/\I m s1) Q) s):LpG P X N cu st c Q s:=
 ⟨fun hX hd=>C3 I hc h0 fun n s hi=>Hz hX c _ _ hd (hI n s hi)⟩
inductive ULp(P:Program)(X:Inf)(N:Nat)(cu st:List Nat)(c:Code)(Q:Exit->St->Prop)(s:St):Prop
 |mk (h:X.Ok P->k6 N c=true->Rq P N c Q s):ULp P X N cu st c Q s
theorem ULp.step{c:Code}{Q:Exit->St->Prop}{s:St}(h:vc P X N cu st c (andThen (ULp P X N cu st c Q) Q) s):ULp P X N cu st c Q s:=
 ⟨fun hX hd=>C4 (EWP.mono (Hz hX c _ _ hd h) fun e s' h=>by
  cases e with
  |normal=>exact h.1 hX hd
  |_=>exact h)⟩
theorem k7{c:Code}{Q:Exit->St->Prop}{s:St}(h:ULp P X N cu st c Q s):LpG P X N cu st c Q s:=⟨fun hX hd=>Nv (h.1 hX hd)⟩
theorem RegG.via{id:Nat}{dr:Bool}{Q:Exit->St->Prop}{s s2:St}(hv:∀Q,AWP P N (.region id ops dr) Q s2->AWP P N (.region id ops dr) Q s)(h:RegG P X N cu st id ops dr Q s2):RegG P X N cu st id ops dr Q s:=⟨fun hX hd=>EWP.via hv (h.1 hX hd)⟩
theorem aw{id:Nat}{dr:Bool}{Q:Exit->St->Prop}{s:St}(h:Ol P X cu ops dr Q s):RegG P X N cu st id ops dr Q s:=⟨fun hX hd=>Fj hX hd h⟩
theorem PRet.of_vc{f:FuncId}{fn:Func}{c:Code}{args:List AV}{R:AV->Prop}(hX:X.Ok P)(cu st:List Nat)(hf:P.funcs[f]? =some fn)(hb:fn.body=some c)(hN:fn.ntmps=N)(hl:Nat.ble args.length N=true)(hc:k6 N c=true)
 (h:vc P X N cu st c (fun e s'=>(e=.normal\/e=.ret)/\∃ret,Ng P N fn s' ret/\R ret) ⟨cq args,nb,0⟩):PRet P f args R:=
 PRet.of_body hf hb hN (ag9 hl) (Hz hX c _ _ hc h)
theorem PRet.eq{f:FuncId}{args:List AV}{ret:AV}(h:PRet P f args (fun r=>r=ret)):b8 P f args ret:=by obtain⟨_,rfl,h⟩:=h;exact h
theorem PRet.of_call{f:FuncId}{args:List AV}{ret:AV}(h:b8 P f args ret):PRet P f args (fun r=>r=ret):=⟨_,rfl,h⟩
end
inductive Wk:AV->AV->Prop
 |rfl {a:AV}:Wk a a
 |unk {a:AV}:Wk a .unk
 |agg {cs ds:List AV} (hl:cs.length=ds.length) (h:∀i (h:i<cs.length) (h':i<ds.length),Wk cs[i] ds[i]):Wk (.agg cs) (.agg ds)
inductive WkL:List AV->List AV->Prop
 |nil:WkL [] []
 |cons {a b:AV} {r s:List AV}:Wk a b->WkL r s->WkL (a :: r) (b :: s)
theorem WkL.at{cs ds:List AV}(h:WkL cs ds):cs.length=ds.length/\∀i (h:i<cs.length) (h':i<ds.length),Wk cs[i] ds[i]:=by
 induction h with
 |nil=>exact⟨rfl,fun i h=>by simp at h⟩
 |cons h1 h2 ih=>exact⟨by simp[ih.1],fun i h h'=>by cases i with
  |zero=>exact h1
  |succ i=>exact ih.2 i (by simpa using h) (by simpa using h')⟩
theorem Wk.aggL{cs ds:List AV}(h:WkL cs ds):Wk (.agg cs) (.agg ds):=.agg h.at.1 h.at.2
theorem TR.wk{T:Nat->Prop}{w:World}{a b:AV}(h:Wk a b):∀{x:Value},TR T w a x->TR T w b x:=by
 induction h with
 |rfl=>exact fun h=>h
 |unk=>exact fun _=>.unk _
 |agg hl h ih=>intro x hx;cases hx with
  |agg h1 h2=>exact .agg (by omega) (fun i g g'=>ih i (by omega) g (h2 i (by omega) g'))
theorem b8.wk{P:Program}{f:FuncId}{args args':List AV}{ret:AV}(hw:WkL args args')(h:b8 P f args' ret):b8 P f args ret:=fun T w vals ht hT=>h T w vals ⟨by have:=ht.1;have:=hw.at.1;omega,fun i g g'=>TR.wk (hw.at.2 i (by have:=hw.at.1;omega) g) (ht.2 i (by have:=hw.at.1;omega) g')⟩ hT
theorem FzP.unk{fp:List Nat}{η:bi}{a:AV}:FzP fp η a .unk:=fun _ _ _ x _=>.unk x
inductive FzPL(fp:List Nat)(η:bi):List AV->List AV->Prop
 |nil:FzPL fp η [] []
 |cons {a b:AV} {r s:List AV}:FzP fp η a b->FzPL fp η r s->FzPL fp η (a :: r) (b :: s)
theorem FzPL.at{fp:List Nat}{η:bi}{cs ds:List AV}(h:FzPL fp η cs ds):cs.length=ds.length/\∀i (h:i<cs.length) (h':i<ds.length),FzP fp η cs[i] ds[i]:=by
 induction h with
 |nil=>exact⟨rfl,fun i h=>by simp at h⟩
 |cons h1 h2 ih=>exact⟨by simp[ih.1],fun i h h'=>by cases i with
  |zero=>exact h1
  |succ i=>exact ih.2 i (by simpa using h) (by simpa using h')⟩
theorem FzP.aggL{fp:List Nat}{η:bi}{cs ds:List AV}(h:FzPL fp η cs ds):FzP fp η (.agg cs) (.agg ds):=FzP.agg h.at.1 h.at.2
section
variable{P:Program}{X:Inf}{N:Nat}
theorem qa.of_vc{f:FuncId}{fn:Func}{c:Code}{args:List AV}{hb:List (Nat×Blk)}{hb':List (Nat×Option Blk)}{R:AV->Prop}(hX:X.Ok P)(cu st:List Nat)(hf:P.funcs[f]? =some fn)(ha:fn.body=some c)(hN:fn.ntmps=N)(hl:Nat.ble args.length N=true)(hc:k6 N c=true)
 (h:vc P X N cu st c (fun e s'=>(e=.normal\/e=.ret)/\∃ret,Nf P N fn s' hb' ret/\R ret) ⟨cq args,hLz hb,0⟩):qa P f args hb hb' R:=
 qa.of_body hf ha hN (ag9 hl) (Hz hX c _ _ hc h)
end
theorem xz:∀l:List AV,Be l.length l=some l
 |[]=>rfl
 |a::l=>by simp only[ahe,Be,xz l]
theorem FzPL.pure{fp:List Nat}{η:bi}:∀{ls:List AV},k8 ls=true->FzPL fp η ls ls
 |[],_=>.nil
 |a::r,h=>by rw[k8,ahq]at h;exact .cons (FzP.pure h.1) (FzPL.pure h.2)
section
variable{P:Program}{τ:Nat->AV}{η:bi}{d:Option Tmp}{ty:TypeId}{pos:String}{af:Array Edge}{g:Option (Nat×Bool)}{α:Type}{f:α->List AV}{q:Nat}
theorem fg{g0:Operand}{f:FuncId}{caps:List AV}{xs:Array Operand}{ats:Array TypeId}{ys:List AV}{ret:AV}(hb:bw P f=true)(he:aev τ g0=.clo f caps)(hh:xs.toList.map (aev τ)++caps=ys)(hp:k8 ys=true)(hc:b8 P f ys ret):
 LOp P ⟨d,.call {callee:=.value g0,args:=xs,argTypes:=ats},ty,pos,af,g⟩ τ η [] [] ret:=by
 have hf:FzPL [] η ys ys:=FzPL.pure hp
 refine LOp.of_call hc fun C a hg hd hη=>?_
 have h0:=hd g0 (by simp[Op.operands,Call.operands])
 rw[he]at h0
 obtain⟨vs,hv,hl,hi⟩:=h0.clo_inv
 refine⟨xs.map a.eval++vs,?_,?_⟩
 ·subst hh
  refine⟨by simp[hl],fun i h h'=>?_⟩
  have hF:=(hf.at.2 i h h) C hg hη ((xs.map a.eval++vs)[i]) ?_
  ·exact hF.mono (fun b hb=>hb.elim (fun h=>h) (fun⟨i,h1,_⟩=>absurd h1 (by simp))) (fun _ _=>rfl)
  ·by_cases ha:i<xs.size
   ·have e1:(xs.toList.map (aev τ)++caps)[i]=aev τ xs[i]:=by
     rw[List.getElem_append_left (by simpa using ha)];simp
    have e2:(xs.map a.eval++vs)[i]=a.eval xs[i]:=by
     rw[Array.getElem_append_left (by simpa using ha)];simp
    rw[e1,e2]
    exact hd _ (by simp[Op.operands,Call.operands])
   ·have e1:(xs.toList.map (aev τ)++caps)[i]=caps[i-xs.size]'(by simp at h;omega):=by
     rw[List.getElem_append_right (by simpa using ha)];simp
    have e2:(xs.map a.eval++vs)[i]=vs[i-xs.size]'(by simp at h';omega):=by
     rw[Array.getElem_append_right (by simpa using ha)];simp
    rw[e1,e2]
    exact hi _ _ _
 ·have e:(execOp a.eval ⟨d,.call {callee:=.value g0,args:=xs,argTypes:=ats},ty,pos,af,g⟩).run P C.w=(callFunc f (#[]++xs.map a.eval++vs)).run P C.w:=by
   have e0:execOp a.eval ⟨d,.call {callee:=.value g0,args:=xs,argTypes:=ats},ty,pos,af,g⟩=(do let dd<-Deferred.ofValue (a.eval g0) (xs.map a.eval);invoke dd.target dd.args):=rfl
   rw[e0,hv]
   rfl
  rw[e,eh hb]
  simp
theorem Xo{o:Oper}{fp:List Nat}{v v':AV}(h:LOp P o τ η fp [] v)(hf:∀η',FzP [] η' v v'):LOp P o τ η fp [] v':=by intro C a hg ha hc hn K Q hK;exact h C a hg ha hc hn K Q fun x C' h1 h2 h3 h4 h5=>hK x C' h1 h2 h3 h4 (.imm ((hf C'.η C' h3 (fun _ h=>absurd h (by simp)) x h5).mono (fun b hb=>hb.elim (fun h=>h) (fun⟨i,hi,_⟩=>absurd hi (by simp))) (fun _ _=>rfl)))
theorem bq{o:Oper}{u:Nat}{b:Blk}{v v':AV}(h:LOp P o τ η [] [(u,some b)] v)(hf:∀η':bi,η' u=some b->FzP [u] η' v v'):LOp P o τ η [] [(u,none)] v':=by
 intro C a hg hm ho hn K Q hK;refine h C a hg hm ho (fun p hp hq=>by rw[agx]at hp;subst hp;exact hn (u,none) (by simp) hq) K Q fun x C1 h1 h2 h3 h4 h5=>?_;have hr:C1.η u=some b:=by rw[h1];exact ak _ _ _
 let C':Ctx:={C1 with η:=C.η.put [(u,none)],T:=fun k=>C1.T k\/C1.mineOf [u] k}
 have hc:∀{i b'},C'.η i=some b'->C1.η i=some b'/\i≠u:=by
  intro i b' hb;have hb:(C.η.set u none) i=some b':=hb
  by_cases e:i=u;subst e;rw[ak]at hb;cases hb;refine⟨?_,e⟩;rw[h1];show(C.η.set u (some b)) i=some b'
  rw[am _ _ e]at hb ⊢;exact hb
 have hh:∀{a:AV} {x:Value},VR C1 a x->VR C' a x:=fun hv=>VR.shift (C:=C1) (C':=C') rfl rfl rfl rfl (fun b hb=>.inl hb) h3.used (fun id b' hb=>⟨b',(hc hb).1,rfl,rfl,rfl,rfl⟩) hv;have ha:∀{i},C'.live i->C1.live i/\i≠u:=by rintro i ⟨b',hd,hk⟩;exact⟨⟨b',(hc hd).1,hk⟩,(hc hd).2⟩
 have hs:Good C':=by
  refine⟨fun h=>h3.used (hc h).1,by intro i b' hd hk;obtain⟨o,g1,g2⟩:=h3.obj (hc hd).1 hk;exact⟨o,g1,ObjR.shift hh g2⟩,by intro i b' hd ht;obtain⟨c,t,g1,g2,g3,g4⟩:=h3.blk (hc hd).1 ht;exact⟨c,t,g1,g2,g3,fun j hj hu=>hh (g4 j hj hu)⟩,fun hi hj e=>h3.inj (ha hi).1 (ha hj).1 e,?_,?_,fun h hv hn=>h3.tight (hc h).1 hv hn⟩;refine h3.tokT (fun _ h=>.inl h) ?_;rintro k (hk|hk);exact h3.tlt hk;exact cw h3 (bh hk);rintro k ⟨i,he,hk⟩ (hT|⟨i',hl,hl'',e⟩);exact h3.apart ⟨i,(ha he).1,hk⟩ hT;have e2:i'=i:=h3.inj hl'' (ha he).1 (e.trans hk.symm)
  rw[agx]at hl;exact(ha he).2 (e2▸hl)
 have hw:Ev C C':=⟨⟨h4.os,h4.tape,h4.output,h4.size,h4.keep,fun k ⟨i,q1,q2⟩=>h4.mine k ⟨i,(ha q1).1,q2⟩,fun k h=>.inl (h4.T k h),fun k h=>h.elim (fun h=>h4.Tnew k h) (fun h=>.inr (h4.mine k (bh h)))⟩,h4.U,fun id b' hU hb=>h4.old id b' hU (hc hb).1⟩;exact hK x C' rfl (fun id=>by rw[show C'.U=C1.U from rfl,h2];simp) hs hw (.imm (hf C1.η hr C1 h3 (fun _ _=>rfl) x h5))
theorem xc(hf:RowF f q){t e by_:Nat}{s x:Operand}{z:Value}{fp:List Nat}{id ver:Nat}{l:List α}{a:α}{news:List AV}(ht:P.underlying t=some (.slice e))(hs:ao P e=some q)(hz:bj P e=some z)(hg:(P.info? e).map (·.bytes)=some by_)(hh:z.cells.size=q)
 (hx:aev τ s=.sl id ver 0 l.length)(hb:η id=some ⟨ver,rF f l,q,false⟩)(hd:Src η fp (aev τ x) 1 news)(ha:news=f a)(he:(l.length+1)*by_<=140737488355328)(hc:l.length+1<=140737488355328)(hi:ver+1≠TV):
 LOp P ⟨d,.call {callee:=.builtin .append,args:=#[s,x],argTypes:=#[t,t]},ty,pos,af,g⟩ τ η (id::fp) [(id,some ⟨ver+1,rF f (l++[a]),q,false⟩)] (.sl id (ver+1) 0 (l++[a]).length):=by
 subst ha
 have:=LOp.append (d:=d) (ty:=ty) (pos:=pos) (af:=af) (g:=g) (m:=1) (news:=f a) ht hs hz hg hh hx hb rfl rfl rfl (Nat.le_of_eq (jp hf l).symm) hd (by rw[Nat.one_mul];exact hf.len a) (hf.one a) he hc hi
 rw[<-jp hf l,List.take_length,<-vw]at this
 simpa using this
end
section
variable{A B:Prop}
theorem cE{a b:Int}(ht:a=b->A)(hf:¬a=b->B):SpI (a==b) A B:=⟨fun h=>ht (beq_iff_eq.1 h),fun h=>hf (fun e=>by rw[e,beq_self_eq_true]at h;cases h)⟩
theorem cN{a b:Int}(ht:¬a=b->A)(hf:a=b->B):SpI (a !=b) A B:=⟨fun h=>ht (fun e=>by rw[e,bne_self_eq_false]at h;cases h),fun h=>hf (by simpa using h)⟩
theorem cD{p:Prop}[Decidable p](ht:p->A)(hf:¬p->B):SpI (decide p) A B:=⟨fun h=>ht (ag3 h),fun h=>hf (ag2 h)⟩
theorem cL{m n:Nat}(ht:m<n->A)(hf:¬m<n->B):SpI (decide (((m:Nat):Int)<((n:Nat):Int))) A B:=⟨fun h=>ht (Int.ofNat_lt.1 (ag3 h)),fun h=>hf (fun e=>ag2 h (Int.ofNat_lt.2 e))⟩
theorem bF{p:Prop}:∃b:Bool,AV.v (.bool false)=.v (.bool b)/\(b=true->p):=⟨_,rfl,fun h=>absurd h ahp⟩
end
section
variable{P:Program}{X:Inf}{N:Nat}{cu st:List Nat}
theorem rV{fn:Func}{t:Nat}{s:St}{R:AV->Prop}(hr:fn.results=#[.tmp t])(hp:(s.τ t).pureB=true)(h:R (s.τ t)):((Exit.ret:Exit)=.normal\/(Exit.ret:Exit)=.ret)/\∃ret,Ng P N fn s ret/\R ret:=⟨.inr rfl,_,oV hr rfl hp rfl,h⟩
theorem LpG.on{α:Type}{c:Code}{Q:Exit->St->Prop}{s:St}(S:α->St)(M:α->Nat)(J:α->Prop)(a:α)(hc:Canon s (S a))(h0:J a)(hI:∀k,J k->vc P X N cu st c (andThen (fun s'=>∃k',M k'<M k/\Canon s' (S k')/\J k') Q) (S k)):LpG P X N cu st c Q s:=
 ⟨fun hX hd=>C3 (fun m s1=>∃k,m=M k/\s1=S k/\J k) hc ⟨a,rfl,rfl,h0⟩ fun n s hi=>by
  obtain⟨k,rfl,rfl,hj⟩:=hi;refine EWP.mono (Hz hX c _ _ hd (hI k hj)) fun e s' h=>?_;cases e with
  |normal=>
   obtain⟨k',h1,h2,h3⟩:=h
   exact⟨_,_,h1,h2,k',rfl,rfl,h3⟩
  |_=>exact h⟩
end
section
variable{P:Program}{τ:Nat->AV}{η:bi}{d:Option Tmp}{ty:TypeId}{pos:String}{af:Array Edge}{g:Option (Nat×Bool)}
theorem Rh{x y:Operand}{a b:Int}{ats:Array TypeId}(hx:aev τ x=.v (.int .i64 a))(hy:aev τ y=.v (.int .i64 b)):
 LOp P ⟨d,.call {callee:=.builtin .min,args:=#[x,y],argTypes:=ats},ty,pos,af,g⟩ τ η [] [] (.v (.int .i64 (min a b))):=
 .look [] fun C a hg ha _=>by
  have h1:=ha x (by simp[Op.operands,Call.operands])
  have h2:=ha y (by simp[Op.operands,Call.operands])
  rw[hx]at h1
  rw[hy]at h2
  have e1:=h1.v_inv
  have e2:=h2.v_inv
  refine⟨_,?_,VR.v C _⟩
  simp[execOp,e1,e2,resolve,invoke,builtin,Lib.run_min_ints]
theorem Hv{x y:Operand}{a b:Int}{ats:Array TypeId}(hx:aev τ x=.v (.int .i64 a))(hy:aev τ y=.v (.int .i64 b)):
 LOp P ⟨d,.call {callee:=.builtin .max,args:=#[x,y],argTypes:=ats},ty,pos,af,g⟩ τ η [] [] (.v (.int .i64 (max a b))):=
 .look [] fun C a hg ha _=>by
  have h1:=ha x (by simp[Op.operands,Call.operands])
  have h2:=ha y (by simp[Op.operands,Call.operands])
  rw[hx]at h1
  rw[hy]at h2
  have e1:=h1.v_inv
  have e2:=h2.v_inv
  refine⟨_,?_,VR.v C _⟩
  simp[execOp,e1,e2,resolve,invoke,builtin,Lib.run_max_ints]
end
section
variable{P:Program}{τ:Nat->AV}{η:bi}{d:Option Tmp}{ty:TypeId}{pos:String}{af:Array Edge}{g:Option (Nat×Bool)}
theorem ru{t len e n j o id ver:Nat}{x i:Operand}{k:IntKind}{b:Blk}(hu:P.underlying t=some (.array len e))(hs:ao P e=some n)(hx:aev τ x=.ptr id ver o)(hi:aev τ i=.v (.int k (Int.ofNat j)))(hj:Nat.blt j len=true)(hb:η id=some b)(hv:b.ver=ver)(hn:b.nilp=false):
 LOp P ⟨d,.indexAddr t x i,ty,pos,af,g⟩ τ η [id] [] (.ptr id ver (o+j*n)):=
 tl (u:=0) (r:=⟨[id],[],.ptr id ver (o+j*n),0⟩) (by unfold rf;rw[hu];simp only[hs,hi,hx,hj,cond_true,ii,hb,hv,hn,Nat.beq_refl,Bool.not_false,Bool.and_true,cond_true])
end
section
variable{P:Program}{τ:Nat->AV}{η:bi}{d:Option Tmp}{ty:TypeId}{pos:String}{af:Array Edge}{g:Option (Nat×Bool)}
theorem Rj{t t':Nat}{x y:Operand}{m n:Int}(hx:aev τ x=.v (.int .u64 m))(hy:aev τ y=.v (.int .u64 n))(h1:0<=m+n)(h2:m+n<=18446744073709551615):
 LOp P ⟨d,.binOp .add t x y t',ty,pos,af,g⟩ τ η [] [] (.v (.int .u64 (m+n))):=
 .look [] fun C a _ ha _=>by have e1:=ha x (by simp[Op.operands]);have e2:=ha y (by simp[Op.operands]);rw[hx]at e1;rw[hy]at e2;refine⟨.int .u64 (m+n),?_,VR.v C _⟩;rw[<-Go.IntWalk.u64_in (m+n) ⟨h1,h2⟩];simp only[execOp,e1.v_inv,e2.v_inv];rfl
theorem Re{t t':Nat}{x y:Operand}{m n:Int}(hx:aev τ x=.v (.int .u64 m))(hy:aev τ y=.v (.int .u64 n))(h1:0<=m)(h2:m<=18446744073709551615)(h3:1<=n):
 LOp P ⟨d,.binOp .quo t x y t',ty,pos,af,g⟩ τ η [] [] (.v (.int .u64 (m/n))):=
 .look [] fun C a _ ha _=>by have e1:=ha x (by simp[Op.operands]);have e2:=ha y (by simp[Op.operands]);rw[hx]at e1;rw[hy]at e2;refine⟨.int .u64 (m/n),?_,VR.v C _⟩;rw[<-Go.IntWalk.u64_quo m n ⟨h1,h2,h3⟩];have h0:¬(n=0):=(by omega);simp only[execOp,e1.v_inv,e2.v_inv];simp[binOp,Op.intArith,Op.intDiv,eqGuard,h0,Sem.run_bind]
theorem j5{t t':Nat}{x:Operand}{td:TypeDesc}{m:Int}{k:IntKind}(hs:P.underlying t=some td)(hd:P.underlying t'=some (.int .u64))(hx:aev τ x=.v (.int k m))(h1:0<=m)(h2:m<=18446744073709551615):
 LOp P ⟨d,.convert t t' x,ty,pos,af,g⟩ τ η [] [] (.v (.int .u64 m)):=
 .look [] fun C a _ ha _=>by have e1:=ha x (by simp[Op.operands]);rw[hx]at e1;refine⟨.int .u64 m,?_,VR.v C _⟩;simp[execOp,e1.v_inv,convert,run_underlying hs,run_underlying hd,Conv.intToInt,Go.IntWalk.u64_in m ⟨h1,h2⟩]
theorem Hw{t t':Nat}{x:Operand}{td:TypeDesc}{m:Int}{k:IntKind}(hs:P.underlying t=some td)(hd:P.underlying t'=some (.int .u64))(hx:aev τ x=.v (.int k m)):
 LOp P ⟨d,.convert t t' x,ty,pos,af,g⟩ τ η [] [] (.v (.int .u64 (IntKind.u64.wrap m))):=
 .look [] fun C a _ ha _=>by have e1:=ha x (by simp[Op.operands]);rw[hx]at e1;refine⟨.int .u64 (IntKind.u64.wrap m),?_,VR.v C _⟩;simp[execOp,e1.v_inv,convert,run_underlying hs,run_underlying hd,Conv.intToInt]
theorem Rg{t:Nat}{x:Operand}{m n:Int}(hx:aev τ x=.v (.int .u64 m))(h:IntKind.u64.wrap (-m)=n):
 LOp P ⟨d,.unOp .neg t x,ty,pos,af,g⟩ τ η [] [] (.v (.int .u64 n)):=
 .look [] fun C a _ ha _=>by have e1:=ha x (by simp[Op.operands]);rw[hx]at e1;refine⟨.int .u64 n,?_,VR.v C _⟩;simp only[execOp,e1.v_inv];simp[Op.unary,Op.intArith,h]
theorem Vf{m:Int}(h1:-9223372036854775808<=m)(h2:m<0):IntKind.u64.wrap (-(IntKind.u64.wrap m))=-m:=by rw[IntKind.wrap_u64,IntKind.wrap_u64];omega
end
section
variable{α:Type}{f:α->List AV}{q:Nat}{l:List α}{k o:Nat}
theorem Do(hf:RowF f q)(h:k<l.length):(rF f l).drop (k*q)=f l[k]++rF f (l.drop (k+1)):=by rw[Pa (f:=f) h];have h1:(rF f (l.take k)).length=k*q:=F6 hf h;rw[List.drop_append,<-h1];simp
theorem Yy(hf:RowF f q)(h:k<l.length):((rF f l).drop (k*q)).take q=f l[k]:=by rw[Do hf h,List.take_append_of_le_length (by rw[hf.len];exact ag7 _),ahj (by rw[hf.len];exact ag7 _)]
theorem aec{n:Nat}(h:k<n):k*q+q<=n*q:=by rw[<-Nat.succ_mul];exact Nat.mul_le_mul_right _ h
theorem zb(hf:RowF f q)(h:k<l.length){vs:List AV}{v:α}(ho:o+vs.length<=q)(hv:bg (f l[k]) o vs=f v):bg (rF f l) (k*q+o) vs=rF f (l.set k v):=by have e:l.set k v=l.take k++(v::l.drop (k+1)):=List.set_eq_take_append_cons_drop.trans (ag1 h);have h1:(rF f (l.take k)).length=k*q:=F6 hf h;have h3:(f l[k]).length=q:=hf.len _;rw[e,ya,kh,<-hv,Pa (f:=f) h];unfold bg;rw[<-h1];simp only[List.take_append,List.drop_append,List.append_assoc];have e1:(rF f (l.take k)).length+o-(rF f (l.take k)).length=o:=(by omega);have e2:(rF f (l.take k)).length+o+vs.length-(rF f (l.take k)).length=o+vs.length:=(by omega);rw[e1,e2,ahj (i:=(rF f (l.take k)).length+o) (by omega),List.drop_of_length_le (i:=(rF f (l.take k)).length+o+vs.length) (by omega),show o-(f l[k]).length=0 by omega,show o+vs.length-(f l[k]).length=0 by omega];simp
end
section
variable{P:Program}{τ:Nat->AV}{η:bi}{d:Option Tmp}{ty:TypeId}{pos:String}{af:Array Edge}{g:Option (Nat×Bool)}{α:Type}{f:α->List AV}{q:Nat}{L:List α}{k o:Nat}
theorem av(hf:RowF f q){t e n:Nat}{x y:Operand}{id ver:Nat}{v:Int}(he:P.underlying t=some (.slice e))(hs:ao P e=some q)(hx:aev τ x=.sl id ver 0 n)(hi:aev τ y=.v (.int .i64 v))(hv:v=((k:Nat):Int))(hj:k<n)(hb:η id=some ⟨ver,rF f L,q,false⟩):
 LOp P ⟨d,.indexAddr t x y,ty,pos,af,g⟩ τ η [id] [] (.ptr id ver (k*q)):=by
 subst hv
 have:=mg (P:=P) (τ:=τ) (η:=η) (d:=d) (ty:=ty) (pos:=pos) (af:=af) (g:=g) (j:=k) he hs hx hi hj hb rfl rfl rfl
 rwa [Nat.zero_add]at this
theorem d5(hf:RowF f q){t:Nat}{x:Operand}{id ver:Nat}(ht:ej P t=some (some q))(hx:aev τ x=.ptr id ver (k*q))(hb:η id=some ⟨ver,rF f L,q,false⟩)(hk:k<L.length):
 LOp P ⟨d,.load t x,ty,pos,af,g⟩ τ η [id] [] (.agg (f L[k])):=by
 have:=w9 (P:=P) (τ:=τ) (η:=η) (d:=d) (ty:=ty) (pos:=pos) (af:=af) (g:=g) (b:=⟨ver,rF f L,q,false⟩) ht hx hb rfl rfl (by show k*q+q<=(rF f L).length;rw[jp hf];exact aec hk)
 rwa [show((⟨ver,rF f L,q,false⟩:Blk).cs.drop (k*q)).take q=f L[k]from Yy hf hk]at this
theorem kc{t i off sz:Nat}{x:Operand}{id ver p:Nat}(hF:dx P t i=some (off,sz))(hz:Nat.beq sz 0=false)(hx:aev τ x=.ptr id ver p)(hb:η id=some ⟨ver,rF f L,q,false⟩):
 LOp P ⟨d,.fieldAddr t x i,ty,pos,af,g⟩ τ η [id] [] (.ptr id ver (p+off)):=lF hF hz hx hb rfl rfl
theorem bl(hf:RowF f q){t m:Nat}{x y:Operand}{id ver:Nat}{v:α}{vs:List AV}(hs:ao P t=some m)(hx:aev τ x=.ptr id ver (k*q+o))(hb:η id=some ⟨ver,rF f L,q,false⟩)(ha:(aev τ y).known=true)(hy:(aev τ y).cells=vs)(hm:vs.length=m)(h1:vs.all AV.one=true)(hk:k<L.length)(ho:o+m<=q)(hv:bg (f L[k]) o vs=f v):
 LOp P ⟨d,.store t x y,ty,pos,af,g⟩ τ η [id] [(id,some ⟨ver,rF f (L.set k v),q,false⟩)] (.v undef):=by
 have hl:=jp hf L
 have hS:=aec (q:=q) hk
 have:=LOp.store (P:=P) (τ:=τ) (η:=η) (d:=d) (ty:=ty) (pos:=pos) (af:=af) (g:=g) (b:=⟨ver,rF f L,q,false⟩) (y:=y) hs hx hb rfl rfl ha (by rw[hy];exact hm) (by rw[hy];exact h1) (by show k*q+o+m<=(rF f L).length;omega)
 have e:bg (rF f L) (k*q+o) (aev τ y).cells=rF f (L.set k v):=by rw[hy];exact zb hf hk (by omega) hv
 simp only[e]at this
 exact this
end
def Rm(P:Program)(f:FuncId)(args:List AV)(hb:List (Nat×Blk))(R:AV->List (Nat×Option Blk)->Prop):Prop:=∃ret hb',R ret hb'/\Ax P f args hb hb' ret
theorem Rm.of_vc{P:Program}{X:Inf}{N:Nat}{f:FuncId}{fn:Func}{c:Code}{args:List AV}{hb:List (Nat×Blk)}{R:AV->List (Nat×Option Blk)->Prop}(hX:X.Ok P)(cu st:List Nat)(hf:P.funcs[f]? =some fn)(ha:fn.body=some c)(hN:fn.ntmps=N)(hl:Nat.ble args.length N=true)(hc:k6 N c=true)
 (h:vc P X N cu st c (fun e s'=>(e=.normal\/e=.ret)/\∃ret hb',Nf P N fn s' hb' ret/\R ret hb') ⟨cq args,hLz hb,0⟩):Rm P f args hb R:=by
 obtain⟨e,s',⟨he,ret,hb',ho,hR⟩,h2⟩:=Hz hX c _ _ hc h
 refine⟨ret,hb',hR,Ax.of_body hf ha hN (ag9 hl) (AWP.mono h2 ?_)⟩
 rintro e1 s1 ⟨rfl,rfl⟩
 exact⟨he,ho⟩
abbrev vI(n:Int):AV:=.v (.int .i64 n)
section
variable{P:Program}{τ:Nat->AV}{η:bi}{d:Option Tmp}{ty:TypeId}{pos:String}{af:Array Edge}{g:Option (Nat×Bool)}
theorem Nm(u:Nat){t e len by_:Nat}{z:Value}{x y:Operand}{v:Int}(he:P.underlying t=some (.slice e))(hs:ao P e=some 1)(hz:bj P e=some z)(ha:(P.info? e).map (·.bytes)=some by_)
 (hx:aev τ x=.v (.int .i64 v))(hy:aev τ y=.v (.int .i64 v))(hv:v=((len:Nat):Int))(hl:by_*len<=140737488355328)(hl2:len<=140737488355328)(h0:len≠0):
 LOp P ⟨d,.makeSlice t x y,ty,pos,af,g⟩ τ η [] [(u,some ⟨0,b5 z (len*1),1,false⟩)] (.sl u 0 0 len):=by
 subst hv
 intro C a hg hd _ hb K Q hK
 have hu:¬C.U u:=hb (u,some ⟨0,b5 z (len*1),1,false⟩) (by simp) (by simp)
 have e1:=hd x (by simp[Op.operands])
 have e2:=hd y (by simp[Op.operands])
 rw[hx]at e1
 rw[hy]at e2
 unfold ao at hs
 unfold bj at hz
 cases hi:P.info? e with
 |none=>rw[hi]at hz;cases hz
 |some inf=>
  rw[hi]at hz hs ha
  simp only[aho]at hz
  simp only[ahn,agv]at hs ha
  let es:Array Value:=(Array.range (len*inf.size)).map fun i=>z.cells[i%z.cells.size]!
  have z1:(b5 z (len*inf.size)).length=es.size:=by simp[b5,es]
  have z2:∀i (h:i<(b5 z (len*inf.size)).length) (h':i<es.size),VR C (b5 z (len*inf.size))[i] es[i]:=fun i h h'=>by
   simp only[b5,List.getElem_map,List.getElem_range,es,Array.getElem_map,Array.getElem_range];exact VR.v C _
  have gsz:es.size=len*inf.size:=by simp[es]
  have hc:(execOp a.eval ⟨d,.makeSlice t x y,ty,pos,af,g⟩).run P C.w=.ok (.value (.slice (some ⟨C.w.heap.size,0,none⟩) len len)) (C.w.alloc (.cells es e)):=by
   have h0:¬(len*inf.size=0):=by rw[hs,Nat.mul_one];exact h0
   have hw:IntKind.i64.wrap (Int.ofNat len)=Int.ofNat len:=IntWalk.i64_in _ (by constructor<;>simp<;>omega)
   have c1:¬(((inf.bytes:Int)*Int.ofNat len>2^48)):=by
    have:(inf.bytes:Int)*Int.ofNat len=((inf.bytes*len:Nat):Int):=by simp
    rw[this,ha];omega
   have c2:¬((Int.ofNat len:Int)<0):=by simp
   have e1':a.eval x=.int .i64 (Int.ofNat len):=e1.v_inv
   have e2':a.eval y=.int .i64 (Int.ofNat len):=e2.v_inv
   simp only[execOp,e1',e2',Instr.makeSlice,Sem.run_bind,run_underlying he,ahb,asInt,typeInfo,run_program,hi,ahc]
   have a1:∀w:World,(asIntOf (Value.int IntKind.i64 (Int.ofNat len))).run P w=.ok (IntKind.i64,Int.ofNat len) w:=fun w=>rfl
   simp only[a1,ahb,hw]
   have cc:(decide ((Int.ofNat len:Int)<0)||decide ((inf.bytes:Int)*Int.ofNat len>2^48)||decide ((Int.ofNat len:Int)<0)||decide ((Int.ofNat len:Int)>Int.ofNat len))=false:=by
    simp only[Bool.or_eq_false_iff,decide_eq_false_iff_not]
    exact⟨⟨⟨c2,c1⟩,c2⟩,Int.lt_irrefl _⟩
   rw[ag0 (by rw[cc];exact ahp)]
   have tn:(Int.ofNat len).toNat=len:=rfl
   simp only[tn,Sem.run_bind]
   have ar:∀w:World,(askRoom (len*inf.bytes)).run P w=.ok () w:=fun w=>by unfold askRoom;split<;>rfl
   simp only[ar,ahb,sizeOf,typeInfo,Sem.run_bind,run_program,hi,ahc]
   rw[ag0 h0]
   simp only[Sem.run_bind,zeroValue,typeInfo,run_program,hi,ahc,ahb,hz]
   rfl
  have hf:(1:Nat)=inf.size:=hs.symm
  rw[hf]at hK
  unfold Oper.wp
  rw[hc]
  refine hK _ (C.alloc u es e ⟨0,b5 z (len*inf.size),inf.size,false⟩) rfl (fun i=>by simp[Ctx.alloc]) (c8 hg hu rfl (Nat.le_of_eq z1) z2) (dg hg hu rfl) ?_
  have h3:(C.alloc u es e ⟨0,b5 z (len*inf.size),inf.size,false⟩).ρ u=(C.w.heap.size,0):=by simp[Ctx.alloc]
  have h4:(C.alloc u es e ⟨0,b5 z (len*inf.size),inf.size,false⟩).sz u=es.size:=by simp[Ctx.alloc]
  have:=VR.sl (C:=C.alloc u es e ⟨0,b5 z (len*inf.size),inf.size,false⟩) (id:=u) (ver:=0) (off:=0) (len:=len) (cap:=len) (b:=⟨0,b5 z (len*inf.size),inf.size,false⟩) (ak _ _ _) rfl rfl (ag7 _) (by unfold maxLen;omega) (by omega)
   (by rw[h3,h4,gsz];simp)
  rw[h3]at this
  exact this
end
section
variable{C:Ctx}{id k:Nat}{b:Blk}
def Ctx.ext(C:Ctx)(id:Nat)(b:Blk)(k:Nat):Ctx:={C with η:=C.η.set id (some {b with cs:=b.cs++List.replicate k .unk})}
theorem yr(hb:C.η id=some b)(hn:b.nilp=false):Ev C (C.ext id b k) where
 os:=rfl
 tape:=rfl
 output:=rfl
 size:=ag7 _
 keep:=fun k _ hm=>rfl
 mine:=fun k ⟨id',⟨b',hb',ha⟩,hk⟩=>by
  left
  by_cases e:id'=id
  ·subst e;exact⟨id',⟨b,hb,dj hn⟩,hk⟩
  ·simp only[Ctx.ext]at hb'
   rw[am _ _ e]at hb'
   exact⟨id',⟨b',hb',ha⟩,hk⟩
 T:=fun _ h=>h
 Tnew:=fun _ h=>.inl h
 U:=fun _ h=>h
 old:=fun id' b' hid hb'=>by
  simp only[Ctx.ext]at hb'
  by_cases e:id'=id
  ·subst e
   rw[ak]at hb'
   cases hb'
   exact⟨b,hb,ag7 _,fun _=>⟨rfl,rfl,by rw[dl hn];exact dl hn,rfl⟩⟩
  ·rw[am _ _ e]at hb'
   exact⟨b',hb',ag7 _,fun _=>⟨rfl,rfl,rfl,rfl⟩⟩
theorem C5(hg:Good C)(hb:C.η id=some b)(hn:b.nilp=false)(ht:b.ver≠TV)(hk:(C.ρ id).2+b.cs.length+k<=C.sz id):Good (C.ext id b k):=by
 have he:=yr (k:=k) hb hn
 have ha:∀{id' b'},(C.ext id b k).η id'=some b'->(id'=id/\b'={b with cs:=b.cs++List.replicate k .unk})\/(id'≠id/\C.η id'=some b'):=by
  intro id' b' hb'
  simp only[Ctx.ext]at hb'
  by_cases e:id'=id
  ·subst e;rw[ak]at hb';cases hb';exact .inl ⟨rfl,rfl⟩
  ·rw[am _ _ e]at hb';exact .inr ⟨e,hb'⟩
 have hd:∀{id' b'},(C.ext id b k).η id'=some b'->b'.kind≠1->C.live id':=by
  intro id' b' hb' hc
  rcases ha hb' with⟨rfl,rfl⟩|⟨_,h⟩
  ·exact⟨b,hb,dj hn⟩
  ·exact⟨b',h,hc⟩
 refine⟨?_,?_,?_,?_,?_,?_,?_⟩
 ·intro id' b' hb'
  rcases ha hb' with⟨rfl,rfl⟩|⟨e,hb'⟩
  ·exact hg.used hb
  ·exact hg.used hb'
 ·intro id' b' hb' hc
  rcases ha hb' with⟨rfl,rfl⟩|⟨e,hb'⟩
  ·rw[show Blk.kind {b with cs:=b.cs++List.replicate k .unk}=0 from dl hn]at hc;cases hc
  ·obtain⟨ob,h1,h2⟩:=hg.obj hb' hc
   exact⟨ob,h1,h2.mono hg he⟩
 ·intro id' b' hb' hc
  rcases ha hb' with⟨rfl,rfl⟩|⟨e,hb'⟩
  ·obtain⟨c,t',h1,h2,h3,h4⟩:=hg.blk hb hn
   refine⟨c,t',h1,h2,by show(C.ρ id').2+(b.cs++List.replicate k AV.unk).length<=_;rw[agw,List.length_replicate];omega,fun j h h'=>?_⟩
   by_cases hj:j<b.cs.length
   ·have:=(h4 j hj h').mono hg he
    show VR _ ((b.cs++List.replicate k AV.unk)[j]'h) _
    rw[List.getElem_append_left hj];exact this
   ·have e1:(b.cs++List.replicate k AV.unk)[j]'h=.unk:=by rw[List.getElem_append_right (by omega)];simp
    show VR _ ((b.cs++List.replicate k AV.unk)[j]'h) _
    rw[e1];exact .imm (.unk _)
  ·obtain⟨c,t',h1,h2,h3,h4⟩:=hg.blk hb' hc
   exact⟨c,t',h1,h2,h3,fun j h h'=>(h4 j h h').mono hg he⟩
 ·intro i i' h1 h2 h3
  obtain⟨b1,g1,g2⟩:=h1
  obtain⟨b2,g3,g4⟩:=h2
  exact hg.inj (hd g1 g2) (hd g3 g4) h3
 ·exact hg.tok
 ·intro q hq hT
  obtain⟨i,⟨b1,g1,g2⟩,g3⟩:=hq
  exact hg.apart ⟨i,hd g1 g2,g3⟩ hT
 ·intro id' b' hb' hv hc
  rcases ha hb' with⟨rfl,rfl⟩|⟨e,hb'⟩
  ·exact absurd hv ht
  ·exact hg.tight hb' hv hc
end
theorem Bm{cs news:List AV}{o:Nat}(ho:o<=cs.length):bg (cs++List.replicate (o+news.length-cs.length) .unk) o news=bg cs o news:=by
 unfold bg
 rw[List.take_append_of_le_length ho]
 congr 1
 by_cases h:o+news.length<=cs.length
 ·rw[show o+news.length-cs.length=0 by omega];simp
 ·rw[List.drop_eq_nil_of_le (by simp;omega),List.drop_eq_nil_of_le (by omega)]
section
variable{P:Program}{N:Nat}{τ:Nat->AV}{η:bi}{ty:TypeId}{pos:String}{af:Array Edge}{g:Option (Nat×Bool)}{u d:Nat}
theorem Q6{t e sz by_:Nat}{s x:Operand}{z:Value}{fp:List Nat}{id ver len m:Nat}{b:Blk}{news:List AV}(ht:P.underlying t=some (.slice e))(hs:ao P e=some sz)(hz:bj P e=some z)(g5:(P.info? e).map (·.bytes)=some by_)(gm:z.cells.size=sz)
 (hx:aev τ s=.sl id ver 0 len)(hb:η id=some b)(hv:b.ver=ver)(hn:b.nilp=false)(g6:b.esz=sz)(gn:ver≠TV)(g7:len*sz<=b.cs.length)(hpos:0<len)(g8:Src η fp (aev τ x) m news)(hm:0<m)(hnl:news.length=m*sz)(h1:news.all AV.one=true)
 (g9:(len+m)*by_<=140737488355328)(hc:len+m<=140737488355328)(C:Ctx)(a:Act)(hg:Good C)(gd:∀y∈[s,x],VR C (aev τ y) (a.eval y))(ge:∀i∈id::fp,C.η i=η i)(hU:¬C.U u):
 ∃v C',(Builtin.append_ #[t,t] ty #[a.eval s,a.eval x]).run P C.w=.ok v C'.w/\Good C'/\Ev C C'/\
  ((C'.η=C.η.set id (some ⟨ver,bg b.cs (len*sz) news,sz,false⟩)/\(∀i,C'.U i↔C.U i)/\VR C' (.sl id ver 0 (len+m)) v)\/
   (C'.η=C.η.set u (some ⟨0,b.cs.take (len*sz)++news,sz,false⟩)/\(∀i,C'.U i↔C.U i\/i=u)/\VR C' (.sl u 0 0 (len+m)) v)):=by
 have hb':C.η id=some b:=(ge id (by simp)).trans hb
 have e1:=gd s (by simp)
 rw[hx]at e1
 obtain⟨ad,cap,e2,c1,c2,c3,c4⟩:=e1.sl_inv hb' hv hn
 unfold ao at hs
 unfold bj at hz
 cases hi:P.info? e with
 |none=>rw[hi]at hz;cases hz
 |some inf=>
  rw[hi]at hz hs g5
  simp only[aho]at hz
  simp only[ahn,agv]at hs g5
  subst hs;subst g5
  have gf:(b.cs.take (len*inf.size)).length=len*inf.size:=by simp;omega
  have c5:ad=⟨(C.ρ id).1,(C.ρ id).2+0,none⟩/\(C.ρ id).2+0+cap*b.esz<=C.sz id:=c4.resolve_left (fun h=>by omega)
  clear c4
  rcases g8 C hg (fun i hi=>ge i (by simp[hi])) _ (gd x (by simp))with⟨h0,_⟩|⟨ad2,c',vals,gg,v1,v2,v3⟩
  ·omega
  have ho:∀u∈vals,u.oneCell'=true:=by
   intro u hu
   obtain⟨j,hj,rfl⟩:=ahd hu
   exact(v3 j (by omega) hj).one (List.all_eq_true.1 h1 _ (ags _))
  by_cases ha:len+m<=cap
  ·obtain⟨rfl,c4⟩:=c5
   have g0:vals.length=m*inf.size:=by omega
   obtain⟨cs,t',g1,g2,g3,g4⟩:=hg.blk hb' hn
   have ga:(len+m)*inf.size<=cap*inf.size:=Nat.mul_le_mul_right _ ha
   rw[Nat.add_mul]at ga
   have hfit:(C.ρ id).2+len*inf.size+news.length<=cs.size:=by rw[g6]at c4;omega
   have hr:=pu (P:=P) (ty:=ty) ht hi C.w (C.ρ id).1 ((C.ρ id).2+0) len cap cs t' g1 ad2 m c' vals g0 v2 ho ha (by omega)
   rw[<-e2,<-gg]at hr
   generalize hk:len*inf.size+news.length-b.cs.length=k
   have gh:=C5 (k:=k) hg hb' hn (by rw[hv];exact gn) (by omega)
   have gi:=yr (C:=C) (k:=k) hb' hn
   have gj:(C.ext id b k).η id=some {b with cs:=b.cs++List.replicate k .unk}:=ak _ _ _
   have go:∀i (h:i<news.length) (h':i<vals.length),VR (C.ext id b k) news[i] vals[i]:=fun i h h'=>(v3 i h h').mono hg gi
   have gp:=lu (o:=len*inf.size) (vs:=news) (xs:=vals) gh gj hn (by simp;omega) v1 go
   have gq:=lg (o:=len*inf.size) (vs:=news) (xs:=vals) gh gj hn
   have hη:((C.ext id b k).store id {b with cs:=b.cs++List.replicate k .unk} (len*inf.size) news vals).η=C.η.set id (some ⟨ver,bg b.cs (len*inf.size) news,inf.size,false⟩):=by
    have e5:({b with cs:=bg (b.cs++List.replicate k .unk) (len*inf.size) news}:Blk)=⟨ver,bg b.cs (len*inf.size) news,inf.size,false⟩:=by
     rw[<-hk,Bm g7,<-hv,<-g6,<-hn]
    show(C.η.set id _).set id _=_
    rw[e5]
    funext i
    by_cases ei:i=id
    ·subst ei;rw[ak,ak]
    ·rw[am _ _ ei,am _ _ ei,am _ _ ei]
   refine⟨_,_,by rw[Nat.add_zero]at hr;exact hr,gp,gi.trans gq,.inl ⟨hη,fun i=>Iff.rfl,?_⟩⟩
   have:=VR.sl (C:=(C.ext id b k).store id {b with cs:=b.cs++List.replicate k .unk} (len*inf.size) news vals) (id:=id) (ver:=ver) (off:=0) (len:=len+m) (cap:=cap) (b:=⟨ver,bg b.cs (len*inf.size) news,inf.size,false⟩) (by rw[hη];exact ak _ _ _) rfl rfl ha c2 hc (by rw[g6]at c4;exact c4)
   simpa[Ctx.store,Ctx.ext]using this
  ·-- a new row
   have g0:vals.length=m*inf.size:=by omega
   obtain⟨f,hf⟩:=ef (n:=len*inf.size) (p:=fun j y=>C.w.cell? ⟨(C.ρ id).1,(C.ρ id).2+j,none⟩=some y/\∀h:j<b.cs.length,VR C b.cs[j] y) (fun j hj=>by
    obtain⟨y,hy,gr⟩:=hg.cell hb' hn (j:=j) (by omega)
    exact⟨y,hy,fun _=>gr⟩)
   have hp:∀(j:Nat) (u:Value),((List.range (len*inf.size)).map f)[j]? =some u->C.w.cell? (ad.add j)=some u:=by
    intro j u hj
    obtain⟨hd,he⟩:=ahl.1 hj
    simp only[List.getElem_map,List.getElem_range]at he
    subst he
    have gb:j<len*inf.size:=by simpa using hd
    rw[c5.1,Addr.add_mid,Nat.add_zero]
    exact(hf j gb).1
   have hd:cap<len+m:=by omega
   have hr:=run_append_grow (P:=P) C.w t ty e inf z ht hi hz ad len cap ((List.range (len*inf.size)).map f) (by simp) hp ad2 m c' vals g0 v2 hd (by omega) (growslice_fits hd g9)
   rw[<-e2,<-gg]at hr
   have gk:=grownCap_ge C.w (len+m) cap e
   have gs:len+m<=maxLen:=by unfold maxLen;omega
   have gt:grownCap C.w (len+m) cap e<=maxLen:=grownCap_le_maxLen C.w (len+m) cap e gs
   generalize hh:(((List.range (len*inf.size)).map f).toArray++vals.toArray++Builtin.zeroCells z.cells (grownCap C.w (len+m) cap e-(len+m)))=nc at hr
   have hw:nc.size=grownCap C.w (len+m) cap e*inf.size:=by
    rw[<-hh]
    simp only[Array.size_append,List.size_toArray,agz,List.length_range,size_zeroCells,gm,g0,<-Nat.add_mul]
    congr 1
    omega
   have gc:∀j (h:j<(b.cs.take (len*inf.size)++news).length) (h':j<nc.size),VR C (b.cs.take (len*inf.size)++news)[j] nc[j]:=by
    intro j hj gu
    have hjl:j<len*inf.size+news.length:=by simpa[gf]using hj
    have hl:nc[j]? =(((List.range (len*inf.size)).map f)++vals)[j]?:=by
     rw[<-hh,Array.getElem?_append_left (by simp;omega)]
     simp
    rw[Array.getElem?_eq_getElem gu]at hl
    by_cases hd:j<len*inf.size
    ·have e4:(b.cs.take (len*inf.size)++news)[j]=b.cs[j]'(by omega):=by
      rw[List.getElem_append_left (by omega)];simp
     rw[List.getElem?_append_left (by simpa using hd)]at hl
     simp only[List.getElem?_map,List.getElem?_range hd,ahn,agv]at hl
     rw[e4,hl]
     exact(hf j hd).2 (by omega)
    ·obtain⟨q,rfl⟩:∃q,j=len*inf.size+q:=⟨j-len*inf.size,by omega⟩
     have hq:q<news.length:=by omega
     have e4:(b.cs.take (len*inf.size)++news)[len*inf.size+q]=news[q]:=by
      have:(b.cs.take (len*inf.size)++news)[len*inf.size+q]? =news[q]?:=by
       rw[List.getElem?_append_right (by omega)]
       congr 1
       omega
      rw[agt hj,agt hq]at this
      exact Option.some.inj this
     rw[List.getElem?_append_right (by simp)]at hl
     simp only[agz,List.length_range,Nat.add_sub_cancel_left]at hl
     rw[agt (by omega)]at hl
     rw[e4,Option.some.inj hl]
     exact v3 q hq (by omega)
   have gv:(C.w.drew.alloc (.cells nc e)).heap[C.w.heap.size]? =some (.cells nc e (0,0)):=heap_alloc_new C.w.drew _
   have gl:ReplOk C u (C.w.heap.size,0) nc.size ⟨0,b.cs.take (len*inf.size)++news,inf.size,false⟩ (C.w.drew.alloc (.cells nc e)):=by
    refine⟨rfl,rfl,rfl,by simp,fun k hk _=>Below.heap_alloc C.w.drew _ k hk,.inr (ag7 _),fun h=>absurd h hU,rfl,fun e=>absurd e (by show¬((0:Nat)=TV);decide),nc,e,gv,rfl,?_,fun j h h'=>?_⟩
    ·rw[hw]
     have:(len+m)*inf.size<=grownCap C.w (len+m) cap e*inf.size:=Nat.mul_le_mul_right _ gk
     rw[Nat.add_mul]at this
     simp[gf];omega
    ·have:=gc j h (by simpa using h')
     simpa using this
   have:=VR.sl (C:=C.repl u (C.w.heap.size,0) nc.size ⟨0,b.cs.take (len*inf.size)++news,inf.size,false⟩ (C.w.drew.alloc (.cells nc e))) (id:=u) (ver:=0) (off:=0) (len:=len+m) (cap:=grownCap C.w (len+m) cap e) (b:=⟨0,b.cs.take (len*inf.size)++news,inf.size,false⟩) (ak _ _ _) rfl rfl gk gt hc
    (by simp[Ctx.repl,hw])
   exact⟨_,_,hr,m5 hg gl,m6 hg gl,.inr ⟨rfl,fun i=>by simp[Ctx.repl],by simpa[Ctx.repl]using this⟩⟩
theorem C7{ops:Array Oper}{K:St->Prop}{l:List Oper}{t e sz by_:Nat}{s x:Operand}{z:Value}{fp:List Nat}{id ver len m:Nat}{b:Blk}{news:List AV}(ht:P.underlying t=some (.slice e))(hs:ao P e=some sz)(hz:bj P e=some z)(g2:(P.info? e).map (·.bytes)=some by_)(g3:z.cells.size=sz)
 (hx:aev τ s=.sl id ver 0 len)(hb:η id=some b)(hv:b.ver=ver)(hn:b.nilp=false)(g4:b.esz=sz)(g5:ver≠TV)(hg:len*sz<=b.cs.length)(hh:0<len)(hj:Src η fp (aev τ x) m news)(hm:0<m)(g6:news.length=m*sz)(h1:news.all AV.one=true)
 (hl:(len+m)*by_<=140737488355328)(ha:len+m<=140737488355328)
 (hw:m8 ops τ ⟨some d,.call {callee:=.builtin .append,args:=#[s,x],argTypes:=#[t,t]},ty,pos,af,g⟩=some true)(hd:jh N ops ⟨some d,.call {callee:=.builtin .append,args:=#[s,x],argTypes:=#[t,t]},ty,pos,af,g⟩=true)(hu:Nat.ble (u+1) TOP=true)
 (hA:A3 P N ops l K ⟨kj τ (some d) (.sl id ver 0 (len+m)),η.set id (some ⟨ver,bg b.cs (len*sz) news,sz,false⟩),u⟩)
 (hB:A3 P N ops l K ⟨kj τ (some d) (.sl u 0 0 (len+m)),η.set u (some ⟨0,b.cs.take (len*sz)++news,sz,false⟩),u+1⟩):
 A3 P N ops (⟨some d,.call {callee:=.builtin .append,args:=#[s,x],argTypes:=#[t,t]},ty,pos,af,g⟩::l) K ⟨τ,η,u⟩:=by
 intro C a Q hr hK
 unfold wpList
 rw[nr hw hr (jh.guard hd)]
 simp only[if_true]
 left
 have hu1:=ag9 hu
 have hU:¬C.U u:=fun h=>by have:=hr.u _ h;simp only at this;omega
 obtain⟨v,C',ho,g1,he,hc⟩:=Q6 (ty:=ty) (u:=u) ht hs hz g2 g3 hx hb hv hn g4 g5 hg hh hj hm g6 h1 hl ha C a hr.good (fun y _=>hr.eval y) (fun i _=>by rw[hr.η]) hU
 unfold Oper.wp
 rw[d4 C.w ho]
 rcases hc with⟨hη,hp,hq⟩|⟨hη,hp,hq⟩
 ·have hf:=hr.put he g1 (u':=u) (fun i hi=>hr.u i ((hp i).1 hi)) (jh.dst hd) hq
  rw[hη,hr.η]at hf
  exact hA C' _ Q hf (fun s' C'' a' hk hy g0=>hK s' C'' a' hk hy (he.toFr.trans g0))
 ·have hf:=hr.put he g1 (u':=u+1) (fun i hi=>by
   rcases(hp i).1 hi with h|rfl
   ·have:=hr.u i h;simp only at this;omega
   ·exact .inl (Nat.lt_succ_self _)) (jh.dst hd) hq
  rw[hη,hr.η]at hf
  exact hB C' _ Q hf (fun s' C'' a' hk hy g0=>hK s' C'' a' hk hy (he.toFr.trans g0))
end
section
variable{P:Program}{τ:Nat->AV}{η:bi}{d:Option Tmp}{ty:TypeId}{pos:String}{af:Array Edge}{g:Option (Nat×Bool)}
theorem rv{t t':Nat}{x:Operand}{td:TypeDesc}{m:Int}{k:IntKind}(hs:P.underlying t=some td)(hd:P.underlying t'=some (.int .u8))(hx:aev τ x=.v (.int k m))(h1:0<=m)(h2:m<=255):
 LOp P ⟨d,.convert t t' x,ty,pos,af,g⟩ τ η [] [] (.v (.int .u8 m)):=
 .look [] fun C a _ ha _=>by
  have e1:=ha x (by simp[Op.operands])
  rw[hx]at e1
  refine⟨.int .u8 m,?_,VR.v C _⟩
  simp[execOp,e1.v_inv,convert,run_underlying hs,run_underlying hd,Conv.intToInt,Go.IntWalk.u8_in m ⟨h1,h2⟩]
end
def mSs:Nat->List ByteArray->List (Value×AV×Nat)
 |_,[]=>[]
 |i,p::r=>(.string p,.v (.bool true),i)::mSs (i+1) r
theorem Ky:∀(i:Nat) (l:List ByteArray) (p:ByteArray),mSs i l++[(.string p,.v (.bool true),i+l.length)]=mSs i (l++[p])
 |i,[],p=>rfl
 |i,q::r,p=>by
  have:=Ky (i+1) r p
  simp only[mSs,List.cons_append,ahe]
  rw[show i+(r.length+1)=i+1+r.length by omega,this]
theorem Gk(D:List Nat):∀(i:Nat) (l:List ByteArray),inL D ((mSs i l).map fun e=>.agg [.v e.1,e.2.1,.v (.int .i64 (Int.ofNat e.2.2))])=true
 |_,[]=>rfl
 |i,p::r=>by
  have:=Gk D (i+1) r
  simp only[mSs,ahg,inL,AV.inB,this]
  rfl
theorem Kx(u:Nat):∀(i:Nat) (l:List ByteArray),qh u ((mSs i l).map fun e=>.agg [.v e.1,e.2.1,.v (.int .i64 (Int.ofNat e.2.2))])=true
 |_,[]=>rfl
 |i,p::r=>by
  have:=Kx u (i+1) r
  simp only[mSs,ahg,qh,AV.lowB,this]
  rfl
theorem Kw(g:Nat->Nat):∀(i:Nat) (l:List ByteArray),((mSs i l).map fun e=>(e.1,e.2.1.ren g,e.2.2))=mSs i l
 |_,[]=>rfl
 |i,p::r=>by simp[mSs,AV.ren,Kw g (i+1) r]
abbrev jq(L:List ByteArray):Blk:=cn 0 0 L.length (mSs 0 L)
theorem df(u:Nat)(L:List ByteArray):qh u (jq L).cs=true:=by
 show qh u (ki L.length (mSs 0 L))=true
 unfold ki
 simp only[qh,AV.lowB,Bool.true_and]
 exact Kx u 0 L
theorem Dy(D:List Nat)(c:Nat)(l:List ByteArray):inL D (ki c (mSs 0 l))=true:=by
 unfold ki
 simp only[inL,AV.inB,Bool.true_and]
 exact Gk D 0 l
theorem zq{g:Nat->Nat}{L:List ByteArray}:(jq L).ren g=jq L:=by
 show(cn _ _ _ _).ren g=_
 unfold cn Blk.ren
 simp only[wh,Kw]
 rfl
theorem Kj{K:List Nat}{L:List ByteArray}:Bw K (jq L):=⟨Dy _ _ _,.inr (.inr (.inl ⟨L.length,_,rfl⟩))⟩
def hasS(L:List ByteArray)(k:ByteArray):Bool:=L.any fun x=>k==x
theorem Mx{a b:ByteArray}(h:(a==b)=true):a=b:=by
 cases a;cases b
 have h1:(_==_)=true:=h
 exact congrArg _ (eq_of_beq h1)
theorem Ap(a:ByteArray):(a==a)=true:=by
 obtain⟨d⟩:=a
 show(d==d)=true
 exact beq_self_eq_true d
theorem Qa{L:List ByteArray}{k:ByteArray}(h:hasS L k=true):k∈L:=by
 obtain⟨x,hx,e⟩:=List.any_eq_true.1 h
 rw[Mx e];exact hx
section
variable{P:Program}{kt:TypeId}
theorem lz{k:ByteArray}{e:Bool}(hk:P.underlying kt=some .string):du P (Instr.checkKey e 10000 kt (.string k))=some ():=by
 show du P (Instr.checkKey e (9999+1) kt (.string k))=some ()
 unfold Instr.checkKey
 have:du P (underlying kt)=some .string:=vx hk
 exact mq this rfl
theorem Gx{k:ByteArray}:∀(L:List ByteArray) (i j:Nat),∃r,Instr.findNow .string (.string k) (ju (mSs i L)) j=some r/\(match r with
 |none=>hasS L k=false
 |some (q,_)=>hasS L k=true/\∃h:q-j<L.length,j<=q/\(mSs i L)[q-j]? =some (.string L[q-j],.v (.bool true),i+(q-j))/\L[q-j]=k)
 |[],i,j=>⟨none,rfl,rfl⟩
 |x::L,i,j=>by
  obtain⟨r,h1,h2⟩:=Gx (k:=k) L (i+1) (j+1)
  cases hx:(k==x)with
  |true=>exact⟨some (j,undef),by simp[ju,mSs,Instr.findNow,Instr.sameNow,hx],⟨by simp[hasS,hx],by simp,ag7 _,by simp[mSs],by simp[Mx hx]⟩⟩
  |false=>
   refine⟨r,?_,?_⟩
   ·simp only[ju,mSs,ahg,Instr.findNow,Instr.sameNow,hx]
    exact h1
   ·cases r with
    |none=>simpa[hasS,hx]using h2
    |some p=>
     obtain⟨q,v⟩:=p
     obtain⟨g1,g2,g3,g4,g5⟩:=h2
     refine⟨by simpa[hasS,hx]using g1,by simp;omega,by omega,?_,by simp only[show q-j=q-(j+1)+1 by omega,List.getElem_cons_succ];exact g5⟩
     have e:q-j=q-(j+1)+1:=by omega
     simp only[mSs,e,List.getElem?_cons_succ,List.getElem_cons_succ]
     rw[g4,show i+1+(q-(j+1))=i+(q-(j+1)+1)by omega]
theorem Th{k:ByteArray}{L:List ByteArray}(hk:P.underlying kt=some .string):∃r,ui P kt (.string k) (mSs 0 L)=some r/\(match r with
 |none=>hasS L k=false
 |some q=>hasS L k=true/\∃h:q<L.length,(mSs 0 L)[q]? =some (.string L[q],.v (.bool true),q)/\L[q]=k):=by
 obtain⟨r,h1,h2⟩:=Gx (k:=k) L 0 0
 have h3:du P (Instr.findKey kt (.string k) (ju (mSs 0 L)))=some r:=by
  unfold Instr.findKey
  refine mq (vx hk) ?_
  rw[h1]
  rfl
 unfold ui
 rw[lz hk]
 simp only[h3]
 cases r with
 |none=>exact⟨none,rfl,h2⟩
 |some p=>
  obtain⟨q,v⟩:=p
  obtain⟨g1,g2,g3,g4,g5⟩:=h2
  exact⟨some q,rfl,g1,by simpa using g2,by simpa using g4,by simpa using g5⟩
end
section
variable{P:Program}{τ:Nat->AV}{η:bi}{d:Option Tmp}{ty:TypeId}{pos:String}{af:Array Edge}{g:Option (Nat×Bool)}
theorem LOp.hasS{t kt et id ver z clock:Nat}{x i:Operand}{k:ByteArray}{L:List ByteArray}(ht:P.underlying t=some (.map kt et))(hk:P.underlying kt=some .string)(hz:bj P et=some (.bool false))(hm:aev τ x=.mp id ver)(ha:aev τ i=.v (.string k))(hb:η id=some (cn ver z clock (mSs 0 L))):
 LOp P ⟨d,.lookup t x i false,ty,pos,af,g⟩ τ η [id] [] (.v (.bool (hasS L k))):=by
 obtain⟨r,h1,h2⟩:=Th (P:=P) (k:=k) (L:=L) hk
 refine uv (u:=0) (r:=⟨[id],[],.v (.bool (YtbhhmbchdponjaaGreatDoor.hasS L k)),0⟩) ?_
 unfold If
 rw[ht]
 simp only[ha,hz,hm,l6 hb,h1]
 cases r with
 |none=>simp only[h2];rfl
 |some q=>
  obtain⟨g1,g2,g3⟩:=h2
  simp only[g1,g3];rfl
def Lc(L:List ByteArray)(k:ByteArray):List ByteArray:=bif hasS L k then L else L++[k]
theorem vk{α:Type}:∀(l:List α) (n:Nat) (a:α),l[n]? =some a->jd l n a=l
 |[],_,_,_=>rfl
 |x::l,0,a,h=>by simp at h;simp[jd,h]
 |x::l,n+1,a,h=>by simp only[jd];rw[vk l n a (by simpa using h)]
theorem u6{t kt et id:Nat}{m i x:Operand}{k:ByteArray}{L:List ByteArray}(ht:P.underlying t=some (.map kt et))(hk:P.underlying kt=some .string)(hm:aev τ m=.mp id 0)(ha:aev τ i=.v (.string k))(hx:aev τ x=.v (.bool true))(hb:η id=some (jq L)):
 LOp P ⟨d,.mapUpdate t m i x,ty,pos,af,g⟩ τ η [id] [(id,some (jq (Lc L k)))] (.v undef):=by
 obtain⟨r,h1,h2⟩:=Th (P:=P) (k:=k) (L:=L) hk
 cases r with
 |none=>
  have e:jq (Lc L k)=cn 0 0 (L.length+1) (mSs 0 L++[(.string k,.v (.bool true),L.length)]):=by
   have:=Ky 0 L k
   rw[Nat.zero_add]at this
   rw[this,Lc,h2];simp[jq]
  rw[e]
  refine l4 (u:=0) (r:=⟨[id],[(id,some (cn 0 0 (L.length+1) (mSs 0 L++[(.string k,.v (.bool true),L.length)])))],.v undef,0⟩) (.inl rfl) ?_
  unfold qf
  rw[ht]
  simp only[ha,hm,hx,l6 hb,lz hk,h1];rfl
 |some q=>
  obtain⟨g1,g2,g3,g4⟩:=h2
  have e:jq (Lc L k)=cn 0 0 L.length (jd (mSs 0 L) q (.string k,.v (.bool true),q)):=by
   rw[vk _ _ _ (by rw[g3,g4]),Lc,g1];rfl
  rw[e]
  refine l4 (u:=0) (r:=⟨[id],[(id,some (cn 0 0 L.length (jd (mSs 0 L) q (.string k,.v (.bool true),q))))],.v undef,0⟩) (.inl rfl) ?_
  unfold qf
  rw[ht]
  have sb:Instr.sameBits 10000 (.string L[q]) (.string k)=true:=by
   rw[g4]
   show(k==k)=true
   exact Ap k
  simp only[ha,hm,hx,l6 hb,lz hk,h1,g3,sb];rfl
end
def WkS(s s1:St):Prop:=∀N C a,SRel N C s a->∃C',C'.w=C.w/\SRel N C' s1 a/\Fr C C'
theorem xd{s s1:St}(h:Canon s s1):WkS s s1:=fun _ _ _ hr=>h.rel hr
theorem WkS.trans{s s1 s2:St}(h:WkS s s1)(k:WkS s1 s2):WkS s s2:=fun N C a hr=>by
 obtain⟨C1,w1,r1,f1⟩:=h N C a hr
 obtain⟨C2,w2,r2,f2⟩:=k N C1 a r1
 exact⟨C2,w2.trans w1,r2,f1.trans f2⟩
section
variable{P:Program}{N:Nat}{Q:Exit->St->Prop}{s:St}
theorem Ro{c:Code}{e:Exit}{s1:St}(h:AWP P N c (fun e1 s0=>e1=e/\WkS s0 s1) s)(hq:Q e s1):EWP P N c Q s:=by
 refine⟨e,s1,hq,fun C a hr=>Code.wp_mono ?_ (h C a hr)⟩
 rintro e1 a' w' ⟨s0,C',⟨rfl,hw⟩,rfl,ha,hf⟩
 obtain⟨C2,w2,r2,f2⟩:=hw N C' a' ha
 exact⟨s1,C2,⟨rfl,rfl⟩,w2,r2,hf.trans f2⟩
variable{X:Inf}{cu st:List Nat}{ops:Array Oper}
theorem Ne{id:Nat}{dr:Bool}{Q:Exit->St->Prop}{s s1:St}(h:AWP P N (.region id ops dr) (fun e1 s0=>e1=.normal/\WkS s0 s1) s)(hq:Q .normal s1):RegG P X N cu st id ops dr Q s:=⟨fun _ _=>Ro h hq⟩
end
theorem Xj{τ:Nat->AV}{η:bi}{u id:Nat}{b:Blk}(n:Nat)(hb:η id=some b)(hn:b.nilp=false)(ht:b.ver≠TV){b':Blk}(hb':b'=⟨b.ver,b.cs.take n,b.esz,false⟩):WkS ⟨τ,η,u⟩ ⟨τ,η.set id (some b'),u⟩:=by
 subst hb'
 intro N C a hr
 have he:C.η id=some b:=by rw[hr.η];exact hb
 let C':Ctx:={C with η:=C.η.set id (some ⟨b.ver,b.cs.take n,b.esz,false⟩)}
 have same:C'.η id=some ⟨b.ver,b.cs.take n,b.esz,false⟩:=ak _ _ _
 have oth:∀{i},i≠id->C'.η i=C.η i:=fun h=>am _ _ h
 have hk:(Blk.mk b.ver (b.cs.take n) b.esz false).kind=b.kind:=by rw[dl hn];rfl
 have cas:∀{i b1},C'.η i=some b1->(i=id/\b1=⟨b.ver,b.cs.take n,b.esz,false⟩)\/(i≠id/\C.η i=some b1):=by
  intro i b1 h
  by_cases e:i=id
  ·subst e;rw[same]at h;cases h;exact .inl ⟨rfl,rfl⟩
  ·rw[oth e]at h;exact .inr ⟨e,h⟩
 have back:∀{i b1},C.η i=some b1->∃b2,C'.η i=some b2/\b2.ver=b1.ver/\b2.kind=b1.kind/\b2.esz=b1.esz:=by
  intro i b1 h
  by_cases e:i=id
  ·subst e;rw[he]at h;cases h;exact⟨_,same,rfl,hk,rfl⟩
  ·exact⟨b1,(oth e).trans h,rfl,rfl,rfl⟩
 have fwd:∀{i b2},C'.η i=some b2->∃b1,C.η i=some b1/\b2.ver=b1.ver/\b2.kind=b1.kind/\b2.esz=b1.esz:=by
  intro i b2 h
  rcases cas h with⟨rfl,rfl⟩|⟨e,h⟩
  ·exact⟨b,he,rfl,hk,rfl⟩
  ·exact⟨b2,h,rfl,rfl,rfl⟩
 have ha:∀{i},C'.live i->C.live i:=by
  rintro i ⟨b2,h,hh⟩
  obtain⟨b1,h1,_,h2,_⟩:=fwd h
  exact⟨b1,h1,by rw[<-h2];exact hh⟩
 have hc:∀{k},C'.mine k->C.mine k:=fun⟨i,h1,h2⟩=>⟨i,ha h1,h2⟩
 have hd:Ev C C':=by
  refine⟨⟨rfl,rfl,rfl,ag7 _,fun _ _ _=>rfl,fun k h=>.inl (hc h),fun _ h=>h,fun _ h=>.inl h⟩,fun _ h=>h,fun i b2 hu h=>?_⟩
  obtain⟨b1,h1,h2,h3,h4⟩:=fwd h
  exact⟨b1,h1,by omega,fun _=>⟨rfl,rfl,h3,h4⟩⟩
 have hg:Good C':=by
  refine⟨?_,?_,?_,fun h1 h2=>hr.good.inj (ha h1) (ha h2),hr.good.tok,fun h=>hr.good.apart (hc h),?_⟩
  ·intro i b2 h
   obtain⟨b1,h1,_⟩:=fwd h
   exact hr.good.used h1
  ·intro i b2 h h2
   rcases cas h with⟨rfl,rfl⟩|⟨e,h⟩
   ·rw[hk,dl hn]at h2;cases h2
   ·obtain⟨o,g1,g2⟩:=hr.good.obj h h2
    exact⟨o,g1,g2.mono hr.good hd⟩
  ·intro i b2 h h2
   rcases cas h with⟨rfl,rfl⟩|⟨e,h⟩
   ·obtain⟨c,t,g1,g2,g3,g4⟩:=hr.good.blk he hn
    refine⟨c,t,g1,g2,aha (Nat.add_le_add_left (by simp;omega) _) g3,fun j hj hf=>?_⟩
    have hl:j<b.cs.length:=by simp at hj;omega
    have:=(g4 j hl hf).mono hr.good hd
    simpa using this
   ·obtain⟨c,t,g1,g2,g3,g4⟩:=hr.good.blk h h2
    exact⟨c,t,g1,g2,g3,fun j hj hf=>(g4 j hj hf).mono hr.good hd⟩
  ·intro i b2 h h1 h2
   rcases cas h with⟨rfl,rfl⟩|⟨e,h⟩
   ·exact absurd h1 ht
   ·exact hr.good.tight h h1 h2
 refine⟨C',rfl,⟨hg,?_,hr.u,hr.defers,hr.size,fun t=>(hr.τ t).mono hr.good hd⟩,hd.toFr⟩
 show C.η.set id _=η.set id _
 rw[hr.η]
theorem Bl{α:Type}{f:α->List AV}{q:Nat}(hf:RowF f q){l:List α}{k:Nat}(h:k<l.length)(v:α):bg (rF f l) (k*q) (f v)=rF f (l.set k v):=by
 have e:l.set k v=l.take k++(v::l.drop (k+1)):=List.set_eq_take_append_cons_drop.trans (ag1 h)
 have h1:(rF f (l.take k)).length=k*q:=F6 hf h
 have h2:(f v).length=q:=hf.len v
 have h3:(f l[k]).length=q:=hf.len _
 rw[e,ya,kh,Pa (f:=f) h]
 unfold bg
 rw[List.take_append_of_le_length (by omega),ahj (by omega),<-h1,List.append_assoc,List.drop_append,List.drop_append]
 have e2:(rF f (l.take k)).length+(f v).length-(rF f (l.take k)).length=q:=by omega
 simp[e2,h2,h3,List.drop_of_length_le]
section
variable{P:Program}{τ:Nat->AV}{η:bi}{d:Option Tmp}{ty:TypeId}{pos:String}{af:Array Edge}{g:Option (Nat×Bool)}
theorem pi{t t':Nat}{x y:Operand}{m n:Int}(hx:aev τ x=.v (.int .i32 m))(hy:aev τ y=.v (.int .i32 n))(h1:-2147483648<=m+n)(h2:m+n<=2147483647):
 LOp P ⟨d,.binOp .add t x y t',ty,pos,af,g⟩ τ η [] [] (.v (.int .i32 (m+n))):=
 .look [] fun C a _ ha _=>by
  have e1:=ha x (by simp[Op.operands])
  have e2:=ha y (by simp[Op.operands])
  rw[hx]at e1
  rw[hy]at e2
  refine⟨.int .i32 (m+n),?_,VR.v C _⟩
  rw[<-IntWalk.i32_in (m+n) ⟨h1,h2⟩]
  simp only[execOp,e1.v_inv,e2.v_inv]
  rfl
theorem er{α:Type}{f:α->List AV}(hf:RowF f 1){t:Nat}{x y:Operand}{id ver i:Nat}{L:List α}{v:α}{w:Value}(hs:ao P t=some 1)(hx:aev τ x=.ptr id ver i)(hb:η id=some ⟨ver,rF f L,1,false⟩)(hy:aev τ y=.v w)(hw:f v=[.v w])(hc:AV.cells (.v w)=[.v w])(ho:AV.one (.v w)=true)(hi:i<L.length):
 LOp P ⟨d,.store t x y,ty,pos,af,g⟩ τ η [id] [(id,some ⟨ver,rF f (L.set i v),1,false⟩)] (.v undef):=by
 have hl:=jp hf L
 have:=LOp.store (P:=P) (τ:=τ) (η:=η) (d:=d) (ty:=ty) (pos:=pos) (af:=af) (g:=g) (b:=⟨ver,rF f L,1,false⟩) (y:=y) hs hx hb rfl rfl (by rw[hy];rfl) (by rw[hy,hc];rfl) (by rw[hy,hc];simp[ho]) (by show i+1<=(rF f L).length;rw[hl];omega)
 have e:bg (rF f L) i (aev τ y).cells=rF f (L.set i v):=by
  have:=Bl hf hi v
  rw[Nat.mul_one]at this
  rw[hy,hc,<-hw];exact this
 simp only[e]at this
 exact this
theorem de{α:Type}{f:α->List AV}{t e:Nat}{x y:Operand}{id ver i n:Nat}{v:Int}{L:List α}(he:P.underlying t=some (.slice e))(hs:ao P e=some 1)(hx:aev τ x=.sl id ver 0 n)(hi:aev τ y=.v (.int .i64 v))(hv:v=((i:Nat):Int))(hj:i<n)(hb:η id=some ⟨ver,rF f L,1,false⟩):
 LOp P ⟨d,.indexAddr t x y,ty,pos,af,g⟩ τ η [id] [] (.ptr id ver i):=by
 subst hv
 have:=mg (P:=P) (τ:=τ) (η:=η) (d:=d) (ty:=ty) (pos:=pos) (af:=af) (g:=g) (j:=i) he hs hx hi hj hb rfl rfl rfl
 rwa [Nat.zero_add,Nat.mul_one]at this
theorem I8{f:Int->List AV}(hf:RowF f 1){z:Value}(hz:z.cells=#[z])(h0:f 0=[.v z])(n:Nat):b5 z (n*1)=rF f (List.replicate n 0):=by
 rw[Nat.mul_one]
 have e:rF f (List.replicate n 0)=List.replicate n (.v z):=by
  induction n with
  |zero=>rfl
  |succ n ih=>rw[List.replicate_succ,kh,ih,h0];rfl
 rw[e]
 refine List.ext_getElem (by simp[b5]) fun i h h'=>?_
 have e2:i%(#[z]:Array Value).size=0:=Nat.mod_one i
 simp only[b5,List.getElem_map,List.getElem_range,List.getElem_replicate,hz,e2];rfl
theorem ot{f:Int->List AV}(hf:RowF f 1)(u:Nat){t e len by_:Nat}{z:Value}{x y:Operand}{v:Int}(he:P.underlying t=some (.slice e))(hs:ao P e=some 1)(hz:bj P e=some z)(ha:(P.info? e).map (·.bytes)=some by_)(hb:z.cells=#[z])(h0f:f 0=[.v z])
 (hx:aev τ x=.v (.int .i64 v))(hy:aev τ y=.v (.int .i64 v))(hv:v=((len:Nat):Int))(hl:by_*len<=140737488355328)(hc:len<=140737488355328)(h0:len≠0):
 LOp P ⟨d,.makeSlice t x y,ty,pos,af,g⟩ τ η [] [(u,some ⟨0,rF f (List.replicate len 0),1,false⟩)] (.sl u 0 0 len):=by
 rw[<-I8 hf hb h0f];exact Nm u he hs hz ha hx hy hv hl hc h0
end
section
variable{P:Program}{τ:Nat->AV}{η:bi}{d:Option Tmp}{ty:TypeId}{pos:String}{af:Array Edge}{g:Option (Nat×Bool)}{t t':Nat}{x y:Operand}{k k':IntKind}{m n r:Int}
theorem pg(hx:aev τ x=.v (.int k m))(hy:aev τ y=.v (.int k n))(h:k.wrap (m+n)=r):LOp P ⟨d,.binOp .add t x y t',ty,pos,af,g⟩ τ η [] [] (.v (.int k r)):=
 .look [] fun C a _ ha _=>by
  have e1:=ha x (by simp[Op.operands])
  have e2:=ha y (by simp[Op.operands])
  rw[hx]at e1
  rw[hy]at e2
  refine⟨.int k r,?_,VR.v C _⟩
  simp only[execOp,e1.v_inv,e2.v_inv]
  simp[binOp,Op.intArith,eqGuard,Sem.run_bind,h]
theorem pd(hx:aev τ x=.v (.int k m))(hy:aev τ y=.v (.int k n))(h:k.wrap (m-n)=r):LOp P ⟨d,.binOp .sub t x y t',ty,pos,af,g⟩ τ η [] [] (.v (.int k r)):=
 .look [] fun C a _ ha _=>by
  have e1:=ha x (by simp[Op.operands])
  have e2:=ha y (by simp[Op.operands])
  rw[hx]at e1
  rw[hy]at e2
  refine⟨.int k r,?_,VR.v C _⟩
  simp only[execOp,e1.v_inv,e2.v_inv]
  simp[binOp,Op.intArith,eqGuard,Sem.run_bind,h]
theorem m4(hx:aev τ x=.v (.int k m))(hy:aev τ y=.v (.int k n))(h:k.wrap (m*n)=r):LOp P ⟨d,.binOp .mul t x y t',ty,pos,af,g⟩ τ η [] [] (.v (.int k r)):=
 .look [] fun C a _ ha _=>by
  have e1:=ha x (by simp[Op.operands])
  have e2:=ha y (by simp[Op.operands])
  rw[hx]at e1
  rw[hy]at e2
  refine⟨.int k r,?_,VR.v C _⟩
  simp only[execOp,e1.v_inv,e2.v_inv]
  simp[binOp,Op.intArith,eqGuard,Sem.run_bind,h]
theorem fm(hx:aev τ x=.v (.int k m))(hy:aev τ y=.v (.int k n))(h1:0<=m)(h2:1<=n):LOp P ⟨d,.binOp .rem t x y t',ty,pos,af,g⟩ τ η [] [] (.v (.int k (m%n))):=
 .look [] fun C a _ ha _=>by
  have e1:=ha x (by simp[Op.operands])
  have e2:=ha y (by simp[Op.operands])
  rw[hx]at e1
  rw[hy]at e2
  refine⟨.int k (m%n),?_,VR.v C _⟩
  have h0:¬(n=0):=by omega
  have h3:m.tmod n=m%n:=Int.tmod_eq_emod_of_nonneg h1
  simp only[execOp,e1.v_inv,e2.v_inv]
  simp[binOp,Op.intDiv,eqGuard,Sem.run_bind,h0,h3]
theorem rr{q:Nat}(hx:aev τ x=.v (.int k m))(hy:aev τ y=.v (.int k' ((q:Nat):Int)))(hq:min q k.bits=q)(h:m.fdiv (2^q)=r):LOp P ⟨d,.binOp .shr t x y t',ty,pos,af,g⟩ τ η [] [] (.v (.int k r)):=
 .look [] fun C a _ ha _=>by
  have e1:=ha x (by simp[Op.operands])
  have e2:=ha y (by simp[Op.operands])
  rw[hx]at e1
  rw[hy]at e2
  refine⟨.int k r,?_,VR.v C _⟩
  have h0:¬(((q:Nat):Int)<0):=by omega
  simp only[execOp,e1.v_inv,e2.v_inv]
  simp[binOp,Op.shift,eqGuard,Sem.run_bind,h0,hq,h]
theorem Rd{q:Nat}(hx:aev τ x=.v (.int k m))(hy:aev τ y=.v (.int k' ((q:Nat):Int)))(hq:min q k.bits=q)(h:k.wrap (m*2^q)=r):LOp P ⟨d,.binOp .shl t x y t',ty,pos,af,g⟩ τ η [] [] (.v (.int k r)):=
 .look [] fun C a _ ha _=>by
  have e1:=ha x (by simp[Op.operands])
  have e2:=ha y (by simp[Op.operands])
  rw[hx]at e1
  rw[hy]at e2
  refine⟨.int k r,?_,VR.v C _⟩
  have h0:¬(((q:Nat):Int)<0):=by omega
  simp only[execOp,e1.v_inv,e2.v_inv]
  simp[binOp,Op.shift,eqGuard,Sem.run_bind,h0,hq,h]
theorem bn{td:TypeDesc}(hs:P.underlying t=some td)(hd:P.underlying t'=some (.int k'))(hx:aev τ x=.v (.int k m))(h:k'.wrap m=r):
 LOp P ⟨d,.convert t t' x,ty,pos,af,g⟩ τ η [] [] (.v (.int k' r)):=
 .look [] fun C a _ ha _=>by
  have e1:=ha x (by simp[Op.operands])
  rw[hx]at e1
  refine⟨.int k' r,?_,VR.v C _⟩
  simp[execOp,e1.v_inv,convert,run_underlying hs,run_underlying hd,Conv.intToInt,h]
theorem Au{α:Type}{e q b:Nat}{v':Int}{z:Operand}{f:α->List AV}{l:List α}(hu:P.underlying t=some (.slice e))(hs:ao P e=some q)(hx:aev τ x=.tree q (l.map f))(hz:aev τ z=.v (.int k v'))(ha:v'=((b:Nat):Int))(hb:b<=l.length):
 LOp P ⟨d,.slice t x none (some z) none,ty,pos,af,g⟩ τ η [] [] (.tree q ((l.take b).map f)):=by
 subst ha
 have h:Bj P τ η 0 t x none (some z)=some ⟨[],[],.tree q ((l.take b).map f),0⟩:=by
  have h1:Nat.ble b l.length=true:=Nat.ble_eq_true_of_le hb
  have h3:aev τ z=.v (.int k (Int.ofNat b)):=hz
  unfold Bj
  rw[hu]
  have h0:Nat.ble 0 b=true:=Nat.ble_eq_true_of_le (ag5 b)
  simp only[hs,hx,zp,h3,agz,h0,h1,Nat.beq_refl,Bool.and_true,cond_true]
  congr 3
  simp[List.map_take]
 exact Bi h
theorem Cw(u:Nat){e s:Nat}(he:P.underlying t=some (.slice e))(hs:ao P e=some s)(hx:aev τ x=.v (.int .i64 0))(hy:aev τ y=.v (.int .i64 0)):
 LOp P ⟨d,.makeSlice t x y,ty,pos,af,g⟩ τ η [] [(u,some ⟨0,[],s,false⟩)] (.sl u 0 0 0):=by
 intro C a hg hc _ ha K Q hK
 have hu:¬C.U u:=ha (u,some ⟨0,[],s,false⟩) (by simp) (by simp)
 have e1:=hc x (by simp[Op.operands])
 have e2:=hc y (by simp[Op.operands])
 rw[hx]at e1
 rw[hy]at e2
 unfold ao at hs
 cases hi:P.info? e with
 |none=>rw[hi]at hs;cases hs
 |some inf=>
  have hb:(execOp a.eval ⟨d,.makeSlice t x y,ty,pos,af,g⟩).run P C.w=.ok (.value (.slice (some ⟨C.w.heap.size,0,none⟩) 0 0)) (C.w.alloc (.cells #[] e)):=by
   have hw:IntKind.i64.wrap 0=0:=rfl
   simp only[execOp,e1.v_inv,e2.v_inv,Instr.makeSlice,Sem.run_bind,run_underlying he,ahb,asInt,typeInfo,run_program,hi,ahc]
   have a1:∀w:World,(asIntOf (Value.int IntKind.i64 0)).run P w=.ok (IntKind.i64,0) w:=fun w=>rfl
   simp only[a1,ahb,hw]
   have cc:(decide ((0:Int)<0)||decide ((inf.bytes:Int)*0>2^48)||decide ((0:Int)<0)||decide ((0:Int)>0))=false:=by simp
   rw[ag0 (by rw[cc];exact ahp)]
   have tn:(0:Int).toNat=0:=rfl
   simp only[tn,Sem.run_bind,Nat.zero_mul]
   have ar:∀w:World,(askRoom 0).run P w=.ok () w:=fun w=>by unfold askRoom;split<;>rfl
   simp only[ar,ahb,sizeOf,typeInfo,Sem.run_bind,run_program,hi,ahc,Nat.zero_mul]
   rw[ag1 trivial]
   simp[newRow]
   try(congr 2;exact Array.eq_empty_of_size_eq_zero (by simp))
  unfold Oper.wp
  rw[hb]
  refine hK _ (C.alloc u #[] e ⟨0,[],s,false⟩) rfl (fun i=>by simp[Ctx.alloc]) (c8 hg hu rfl (ag7 _) (fun j h=>by simp at h)) (dg hg hu rfl) ?_
  exact VR.slz (C:=C.alloc u #[] e ⟨0,[],s,false⟩) (id:=u) (ver:=0) (off:=0) (b:=⟨0,[],s,false⟩) (ak _ _ _) rfl rfl
theorem pf{f:Int->List AV}(hf:RowF f 1)(u:Nat){e len by_:Nat}{z:Value}{v:Int}(he:P.underlying t=some (.slice e))(hs:ao P e=some 1)(hz:bj P e=some z)(ha:(P.info? e).map (·.bytes)=some by_)(hb:z.cells=#[z])(h0f:f 0=[.v z])
 (hx:aev τ x=.v (.int .i64 v))(hy:aev τ y=.v (.int .i64 v))(hv:v=((len:Nat):Int))(hl:by_*len<=140737488355328)(hc:len<=140737488355328):
 LOp P ⟨d,.makeSlice t x y,ty,pos,af,g⟩ τ η [] [(u,some ⟨0,rF f (List.replicate len 0),1,false⟩)] (.sl u 0 0 len):=by
 by_cases h0:len=0
 ·subst h0;subst hv;exact Cw u he hs hx hy
 ·exact ot hf u he hs hz ha hb h0f hx hy hv hl hc h0
theorem te{α:Type}{f:α->List AV}(hf:RowF f 1){id ver i:Nat}{L:List α}{v:AV}(ht:ej P t=some none)(hx:aev τ x=.ptr id ver i)(hb:η id=some ⟨ver,rF f L,1,false⟩)(hi:i<L.length)(hw:f L[i]=[v]):
 LOp P ⟨d,.load t x,ty,pos,af,g⟩ τ η [id] [] v:=by
 refine lD ht hx hb rfl rfl ?_
 have h1:(rF f (L.take i)).length=i*1:=F6 hf hi
 rw[Nat.mul_one]at h1
 show(rF f L)[i]? =_
 rw[Pa (f:=f) hi,hw]
 simp[h1]
theorem ad0{r n:Int}(h1:0<=r)(h2:r<=4294967295)(h3:0<=n)(h4:n<=4294967295):IntKind.u64.wrap ((BitVec.ofInt 64 (r*4294967296)|||BitVec.ofInt 64 n).toNat:Int)=r*4294967296+n:=by
 obtain⟨a,rfl⟩:=Int.eq_ofNat_of_zero_le h1
 obtain⟨b,rfl⟩:=Int.eq_ofNat_of_zero_le h3
 have e1:(BitVec.ofInt 64 ((a:Int)*4294967296)).toNat=a*4294967296:=by
  rw[BitVec.toNat_ofInt];omega
 have e2:(BitVec.ofInt 64 (b:Int)).toNat=b:=by
  rw[BitVec.toNat_ofInt];omega
 have e3:a*4294967296|||b=a*4294967296+b:=by
  have:=Nat.shiftLeft_add_eq_or_of_lt (i:=32) (b:=b) (by omega) a
  rw[Nat.shiftLeft_eq]at this
  exact this.symm
 rw[BitVec.toNat_or,e1,e2,e3,IntKind.wrap_u64];omega
theorem Rf(hx:aev τ x=.v (.int .u64 (r*4294967296)))(hy:aev τ y=.v (.int .u64 n))(h1:0<=r)(h2:r<=4294967295)(h3:0<=n)(h4:n<=4294967295):LOp P ⟨d,.binOp .or t x y t',ty,pos,af,g⟩ τ η [] [] (.v (.int .u64 (r*4294967296+n))):=
 .look [] fun C a _ ha _=>by
  have e1:=ha x (by simp[Op.operands])
  have e2:=ha y (by simp[Op.operands])
  rw[hx]at e1
  rw[hy]at e2
  refine⟨.int .u64 (r*4294967296+n),?_,VR.v C _⟩
  rw[<-ad0 h1 h2 h3 h4]
  simp only[execOp,e1.v_inv,e2.v_inv]
  rfl
theorem fo(hx:aev τ x=.v (.int k m))(hy:aev τ y=.v (.int k n))(h1:0<=m)(h2:1<=n)(h:k.wrap (m/n)=r):LOp P ⟨d,.binOp .quo t x y t',ty,pos,af,g⟩ τ η [] [] (.v (.int k r)):=
 .look [] fun C a _ ha _=>by
  have e1:=ha x (by simp[Op.operands])
  have e2:=ha y (by simp[Op.operands])
  rw[hx]at e1
  rw[hy]at e2
  refine⟨.int k r,?_,VR.v C _⟩
  have h0:¬(n=0):=by omega
  have h3:m.tdiv n=m/n:=Int.tdiv_eq_ediv_of_nonneg h1
  simp only[execOp,e1.v_inv,e2.v_inv]
  simp[binOp,Op.intDiv,eqGuard,Sem.run_bind,h0,h3,h]
theorem u5(hx:aev τ x=.v (.int k m))(h:k.wrap (-m)=r):LOp P ⟨d,.unOp .neg t x,ty,pos,af,g⟩ τ η [] [] (.v (.int k r)):=
 .look [] fun C a _ ha _=>by
  have e1:=ha x (by simp[Op.operands])
  rw[hx]at e1
  refine⟨.int k r,?_,VR.v C _⟩
  simp only[execOp,e1.v_inv]
  simp[Op.unary,Op.intArith,h]
theorem Xq{o:Oper}{fp:List Nat}{u:Nat}{b:Blk}{v v':AV}(h:LOp P o τ η fp [(u,some b)] v)(hf:∀η':bi,η' u=some b->FzP [u] η' v v'):LOp P o τ η fp [(u,none)] v':=by
 intro C a hg hm ho hn K Q hK
 refine h C a hg hm ho (fun p hp hq=>by
  rw[agx]at hp;subst hp
  exact hn (u,none) (by simp) hq) K Q fun x C1 h1 h2 h3 h4 h5=>?_
 have hr:C1.η u=some b:=by rw[h1];exact ak _ _ _
 let C':Ctx:={C1 with η:=C.η.put [(u,none)],T:=fun k=>C1.T k\/C1.mineOf [u] k}
 have hc:∀{i b'},C'.η i=some b'->C1.η i=some b'/\i≠u:=by
  intro i b' hb
  have hb:(C.η.set u none) i=some b':=hb
  by_cases e:i=u
  ·subst e;rw[ak]at hb;cases hb
  ·refine⟨?_,e⟩
   rw[h1];show(C.η.set u (some b)) i=some b'
   rw[am _ _ e]at hb ⊢;exact hb
 have hh:∀{a:AV} {x:Value},VR C1 a x->VR C' a x:=fun hv=>VR.shift (C:=C1) (C':=C') rfl rfl rfl rfl (fun b hb=>.inl hb) h3.used (fun id b' hb=>⟨b',(hc hb).1,rfl,rfl,rfl,rfl⟩) hv
 have ha:∀{i},C'.live i->C1.live i/\i≠u:=by
  rintro i ⟨b',hd,hk⟩
  exact⟨⟨b',(hc hd).1,hk⟩,(hc hd).2⟩
 have hs:Good C':=by
  refine⟨fun h=>h3.used (hc h).1,?_,?_,fun hi hj e=>h3.inj (ha hi).1 (ha hj).1 e,?_,?_,fun h hv hn=>h3.tight (hc h).1 hv hn⟩
  ·intro i b' hd hk
   obtain⟨o,g1,g2⟩:=h3.obj (hc hd).1 hk
   exact⟨o,g1,ObjR.shift hh g2⟩
  ·intro i b' hd ht
   obtain⟨c,t,g1,g2,g3,g4⟩:=h3.blk (hc hd).1 ht
   exact⟨c,t,g1,g2,g3,fun j hj hu=>hh (g4 j hj hu)⟩
  ·refine h3.tokT (fun _ h=>.inl h) ?_
   rintro k (hk|hk)
   ·exact h3.tlt hk
   ·exact cw h3 (bh hk)
  ·rintro k ⟨i,he,hk⟩ (hT|⟨i',hl,hl'',e⟩)
   ·exact h3.apart ⟨i,(ha he).1,hk⟩ hT
   ·have e2:i'=i:=h3.inj hl'' (ha he).1 (e.trans hk.symm)
    rw[agx]at hl
    exact(ha he).2 (e2▸hl)
 have hw:Ev C C':=⟨⟨h4.os,h4.tape,h4.output,h4.size,h4.keep,fun k ⟨i,q1,q2⟩=>h4.mine k ⟨i,(ha q1).1,q2⟩,fun k h=>.inl (h4.T k h),fun k h=>h.elim (fun h=>h4.Tnew k h) (fun h=>.inr (h4.mine k (bh h)))⟩,h4.U,fun id b' hU hb=>h4.old id b' hU (hc hb).1⟩
 exact hK x C' rfl (fun id=>by rw[show C'.U=C1.U from rfl,h2];simp) hs hw (.imm (hf C1.η hr C1 h3 (fun _ _=>rfl) x h5))
end
section
variable{P:Program}{τ:Nat->AV}{η:bi}{d:Option Tmp}{ty:TypeId}{pos:String}{af:Array Edge}{g:Option (Nat×Bool)}{t:Nat}{x y:Operand}
theorem Nn(u:Nat){e len by_ q:Nat}{cs:List AV}{z:Value}{v:Int}(he:P.underlying t=some (.slice e))(hs:ao P e=some q)(hz:bj P e=some z)(ha:(P.info? e).map (·.bytes)=some by_)
 (hx:aev τ x=.v (.int .i64 v))(hy:aev τ y=.v (.int .i64 v))(hv:v=((len:Nat):Int))(hl:by_*len<=140737488355328)(hl2:len<=140737488355328)(h0:len≠0)(hq:q≠0)(hf:cs.length=len*q)(hh:∀i (h:i<cs.length) (T:Nat->Prop) (w:World),TR T w cs[i] (z.cells[i%z.cells.size]!)):
 LOp P ⟨d,.makeSlice t x y,ty,pos,af,g⟩ τ η [] [(u,some ⟨0,cs,q,false⟩)] (.sl u 0 0 len):=by
 subst hv
 intro C a hg hd _ hb K Q hK
 have hu:¬C.U u:=hb (u,some ⟨0,cs,q,false⟩) (by simp) (by simp)
 have e1:=hd x (by simp[Op.operands])
 have e2:=hd y (by simp[Op.operands])
 rw[hx]at e1
 rw[hy]at e2
 unfold ao at hs
 unfold bj at hz
 cases hi:P.info? e with
 |none=>rw[hi]at hz;cases hz
 |some inf=>
  rw[hi]at hz hs ha
  simp only[aho]at hz
  simp only[ahn,agv]at hs ha
  let es:Array Value:=(Array.range (len*inf.size)).map fun i=>z.cells[i%z.cells.size]!
  have z1:cs.length=es.size:=by simp[es,hf,hs]
  have z2:∀i (h:i<cs.length) (h':i<es.size),VR C cs[i] es[i]:=fun i h h'=>by
   simp only[es,Array.getElem_map,Array.getElem_range];exact .imm (hh i h _ _)
  have gsz:es.size=len*inf.size:=by simp[es]
  have hc:(execOp a.eval ⟨d,.makeSlice t x y,ty,pos,af,g⟩).run P C.w=.ok (.value (.slice (some ⟨C.w.heap.size,0,none⟩) len len)) (C.w.alloc (.cells es e)):=by
   have h0:¬(len*inf.size=0):=by rw[hs];exact Nat.mul_ne_zero h0 hq
   have hw:IntKind.i64.wrap (Int.ofNat len)=Int.ofNat len:=IntWalk.i64_in _ (by constructor<;>simp<;>omega)
   have c1:¬(((inf.bytes:Int)*Int.ofNat len>2^48)):=by
    have:(inf.bytes:Int)*Int.ofNat len=((inf.bytes*len:Nat):Int):=by simp
    rw[this,ha];omega
   have c2:¬((Int.ofNat len:Int)<0):=by simp
   have e1':a.eval x=.int .i64 (Int.ofNat len):=e1.v_inv
   have e2':a.eval y=.int .i64 (Int.ofNat len):=e2.v_inv
   simp only[execOp,e1',e2',Instr.makeSlice,Sem.run_bind,run_underlying he,ahb,asInt,typeInfo,run_program,hi,ahc]
   have a1:∀w:World,(asIntOf (Value.int IntKind.i64 (Int.ofNat len))).run P w=.ok (IntKind.i64,Int.ofNat len) w:=fun w=>rfl
   simp only[a1,ahb,hw]
   have cc:(decide ((Int.ofNat len:Int)<0)||decide ((inf.bytes:Int)*Int.ofNat len>2^48)||decide ((Int.ofNat len:Int)<0)||decide ((Int.ofNat len:Int)>Int.ofNat len))=false:=by
    simp only[Bool.or_eq_false_iff,decide_eq_false_iff_not]
    exact⟨⟨⟨c2,c1⟩,c2⟩,Int.lt_irrefl _⟩
   rw[ag0 (by rw[cc];exact ahp)]
   have tn:(Int.ofNat len).toNat=len:=rfl
   simp only[tn,Sem.run_bind]
   have ar:∀w:World,(askRoom (len*inf.bytes)).run P w=.ok () w:=fun w=>by unfold askRoom;split<;>rfl
   simp only[ar,ahb,sizeOf,typeInfo,Sem.run_bind,run_program,hi,ahc]
   rw[ag0 h0]
   simp only[Sem.run_bind,zeroValue,typeInfo,run_program,hi,ahc,ahb,hz]
   rfl
  have hj:q=inf.size:=hs.symm
  rw[hj]at hK
  unfold Oper.wp
  rw[hc]
  refine hK _ (C.alloc u es e ⟨0,cs,inf.size,false⟩) rfl (fun i=>by simp[Ctx.alloc]) (c8 hg hu rfl (Nat.le_of_eq z1) z2) (dg hg hu rfl) ?_
  have h3:(C.alloc u es e ⟨0,cs,inf.size,false⟩).ρ u=(C.w.heap.size,0):=by simp[Ctx.alloc]
  have h4:(C.alloc u es e ⟨0,cs,inf.size,false⟩).sz u=es.size:=by simp[Ctx.alloc]
  have:=VR.sl (C:=C.alloc u es e ⟨0,cs,inf.size,false⟩) (id:=u) (ver:=0) (off:=0) (len:=len) (cap:=len) (b:=⟨0,cs,inf.size,false⟩) (ak _ _ _) rfl rfl (ag7 _) (by unfold maxLen;omega) (by omega)
   (by rw[h3,h4,gsz];simp)
  rw[h3]at this
  exact this
theorem Sf{α:Type}{f:α->List AV}{q:Nat}(hf:RowF f q){a:α}:∀{n i:Nat} (h:i<(rF f (List.replicate n a)).length),∃h':i%q<(f a).length,(rF f (List.replicate n a))[i]=(f a)[i%q]
 |0,i,h=>absurd h (by simp[rF])
 |n+1,i,h=>by
  have hq:(f a).length=q:=hf.len a
  have e:rF f (List.replicate (n+1) a)=f a++rF f (List.replicate n a):=by rw[List.replicate_succ,kh]
  have h1:i<(f a++rF f (List.replicate n a)).length:=by rw[<-e];exact h
  simp only[e]
  by_cases g:i<(f a).length
  ·refine⟨by rw[Nat.mod_eq_of_lt (by omega)];exact g,?_⟩
   rw[List.getElem_append_left g]
   congr 1;rw[Nat.mod_eq_of_lt (by omega)]
  ·have h2:i-(f a).length<(rF f (List.replicate n a)).length:=by rw[agw]at h1;omega
   obtain⟨h3,e3⟩:=Sf hf h2
   have e4:(i-(f a).length)%q=i%q:=by rw[hq];exact(Nat.mod_eq_sub_mod (by omega)).symm
   refine⟨by rw[<-e4];exact h3,?_⟩
   rw[List.getElem_append_right (by omega),e3]
   congr 1
end
section
variable{P:Program}{τ:Nat->AV}{η:bi}{d:Option Tmp}{ty:TypeId}{pos:String}{af:Array Edge}{g:Option (Nat×Bool)}{α:Type}{f:α->List AV}{q:Nat}{L:List α}{k o:Nat}
theorem Sw{L:List α}(h:k<L.length):Nat.beq L.length 0=false:=mf (by omega)
theorem U2(hf:RowF f q){m:Nat}(h:k<L.length)(ho:o+m<=q):((rF f L).drop (k*q+o)).take m=((f L[k]).drop o).take m:=by
 rw[<-List.drop_drop,Do hf h,List.drop_append_of_le_length (by rw[hf.len];omega),List.take_append_of_le_length (by rw[List.length_drop,hf.len];omega)]
theorem br(hf:RowF f q){t e n:Nat}{x y:Operand}{id ver:Nat}{v:Int}(he:P.underlying t=some (.slice e))(hs:ao P e=some q)(hx:aev τ x=.sl id ver 0 n)(hi:aev τ y=.v (.int .i64 v))(hv:v=((k:Nat):Int))(hj:k<n)(hb:η id=some ⟨ver,rF f L,q,Nat.beq L.length 0⟩)(hk:k<L.length):
 LOp P ⟨d,.indexAddr t x y,ty,pos,af,g⟩ τ η [id] [] (.ptr id ver (k*q)):=av hf he hs hx hi hv hj (L:=L) (by rw[hb,Sw hk])
theorem jz(hf:RowF f q){t:Nat}{x:Operand}{id ver:Nat}(ht:ej P t=some (some q))(hx:aev τ x=.ptr id ver (k*q))(hb:η id=some ⟨ver,rF f L,q,Nat.beq L.length 0⟩)(hk:k<L.length):
 LOp P ⟨d,.load t x,ty,pos,af,g⟩ τ η [id] [] (.agg (f L[k])):=d5 hf ht hx (by rw[hb,Sw hk]) hk
theorem ic{t i off sz:Nat}{x:Operand}{id ver p:Nat}(hF:dx P t i=some (off,sz))(hz:Nat.beq sz 0=false)(hx:aev τ x=.ptr id ver p)(hb:η id=some ⟨ver,rF f L,q,Nat.beq L.length 0⟩)(hk:k<L.length):
 LOp P ⟨d,.fieldAddr t x i,ty,pos,af,g⟩ τ η [id] [] (.ptr id ver (p+off)):=kc (f:=f) (q:=q) (L:=L) hF hz hx (by rw[hb,Sw hk])
theorem Nk(hf:RowF f q){t m:Nat}{x:Operand}{id ver:Nat}{ds:List AV}(ht:ej P t=some (some m))(hx:aev τ x=.ptr id ver (k*q+o))(hb:η id=some ⟨ver,rF f L,q,Nat.beq L.length 0⟩)(hk:k<L.length)(ho:o+m<=q)(hv:((f L[k]).drop o).take m=ds):
 LOp P ⟨d,.load t x,ty,pos,af,g⟩ τ η [id] [] (.agg ds):=by
 have:=w9 (P:=P) (τ:=τ) (η:=η) (d:=d) (ty:=ty) (pos:=pos) (af:=af) (g:=g) (b:=⟨ver,rF f L,q,Nat.beq L.length 0⟩) ht hx hb rfl (Sw hk) (by show k*q+o+m<=(rF f L).length;rw[jp hf];have:=aec (q:=q) hk;omega)
 rwa [show((⟨ver,rF f L,q,Nat.beq L.length 0⟩:Blk).cs.drop (k*q+o)).take m=ds from(U2 hf hk ho).trans hv]at this
theorem LOp.cellN(hf:RowF f q){t:Nat}{x:Operand}{id ver:Nat}{v:AV}(ht:ej P t=some none)(hx:aev τ x=.ptr id ver (k*q+o))(hb:η id=some ⟨ver,rF f L,q,Nat.beq L.length 0⟩)(hk:k<L.length)(hv:(f L[k])[o]? =some v):
 LOp P ⟨d,.load t x,ty,pos,af,g⟩ τ η [id] [] v:=by
 have ho:o<q:=by have:=(ahl.1 hv).1;rwa [hf.len]at this
 refine lD (P:=P) (b:=⟨ver,rF f L,q,Nat.beq L.length 0⟩) ht hx hb rfl (Sw hk) ?_
 show(rF f L)[k*q+o]? =some v
 have e:(rF f L)[k*q+o]? =((rF f L).drop (k*q))[o]?:=by rw[List.getElem?_drop]
 rw[e,Do hf hk,List.getElem?_append_left (by rw[hf.len];exact ho)];exact hv
theorem jw(hf:RowF f q){t m:Nat}{x y:Operand}{id ver:Nat}{v:α}{vs:List AV}(hs:ao P t=some m)(hx:aev τ x=.ptr id ver (k*q+o))(hb:η id=some ⟨ver,rF f L,q,Nat.beq L.length 0⟩)(ha:(aev τ y).known=true)(hy:(aev τ y).cells=vs)(hm:vs.length=m)(h1:vs.all AV.one=true)(hk:k<L.length)(ho:o+m<=q)(hv:bg (f L[k]) o vs=f v):
 LOp P ⟨d,.store t x y,ty,pos,af,g⟩ τ η [id] [(id,some ⟨ver,rF f (L.set k v),q,Nat.beq (L.set k v).length 0⟩)] (.v undef):=by
 have:=bl (P:=P) (τ:=τ) (η:=η) (d:=d) (ty:=ty) (pos:=pos) (af:=af) (g:=g) hf hs hx (by rw[hb,Sw hk]) ha hy hm h1 hk ho hv
 rwa [show(false:Bool)=Nat.beq (L.set k v).length 0 by rw[List.length_set];exact(Sw hk).symm]at this
theorem kv(hf:RowF f q){t:Nat}{x:Operand}{id ver:Nat}{v:α}(ht:ej P t=some (some q))(hx:aev τ x=.ptr id ver (k*q))(hb:η id=some ⟨ver,rF f L,q,false⟩)(hv:L[k]? =some v):
 LOp P ⟨d,.load t x,ty,pos,af,g⟩ τ η [id] [] (.agg (f v)):=by
 obtain⟨hk,rfl⟩:=ahl.1 hv
 exact d5 hf ht hx hb hk
theorem j0(hf:RowF f q){t:Nat}{x:Operand}{id ver:Nat}{v:AV}(ht:ej P t=some none)(hx:aev τ x=.ptr id ver (k*q+o))(hb:η id=some ⟨ver,rF f L,q,false⟩)(hk:k<L.length)(hv:(f L[k])[o]? =some v):
 LOp P ⟨d,.load t x,ty,pos,af,g⟩ τ η [id] [] v:=LOp.cellN hf ht hx (by rw[hb,Sw hk]) hk hv
end
def mPs:Nat->List ByteArray->List (Value×AV×Nat)
 |_,[]=>[]
 |i,p::r=>(.string p,.v (.int .i64 (Int.ofNat i)),i)::mPs (i+1) r
theorem K0:∀(i:Nat) (l:List ByteArray) (p:ByteArray),mPs i l++[(.string p,.v (.int .i64 (Int.ofNat (i+l.length))),i+l.length)]=mPs i (l++[p])
 |i,[],p=>rfl
 |i,q::r,p=>by
  have:=K0 (i+1) r p
  simp only[mPs,List.cons_append,ahe]
  rw[show i+(r.length+1)=i+1+r.length by omega,this]
theorem Kz(u:Nat):∀(i:Nat) (l:List ByteArray),qh u ((mPs i l).map fun e=>.agg [.v e.1,e.2.1,.v (.int .i64 (Int.ofNat e.2.2))])=true
 |_,[]=>rfl
 |i,p::r=>by
  have:=Kz u (i+1) r
  simp only[mPs,ahg,qh,AV.lowB,this]
  rfl
abbrev Py(L:List ByteArray):Blk:=cn 0 0 L.length (mPs 0 L)
theorem o5(u:Nat)(L:List ByteArray):qh u (Py L).cs=true:=by
 show qh u (ki L.length (mPs 0 L))=true
 unfold ki
 simp only[qh,AV.lowB,Bool.true_and]
 exact Kz u 0 L
theorem Sz:∀(L:List ByteArray) (i j:Nat) (h:j<L.length),(mPs i L)[j]? =some (.string L[j],.v (.int .i64 (Int.ofNat (i+j))),i+j)
 |x::L,i,0,_=>rfl
 |x::L,i,j+1,h=>by
  have:=Sz L (i+1) j (by simpa using h)
  simp only[mPs,List.getElem?_cons_succ,List.getElem_cons_succ]
  rw[this,show i+1+j=i+(j+1)by omega]
section
variable{P:Program}{kt:TypeId}
theorem Gy{k:ByteArray}:∀(L:List ByteArray) (i j:Nat),∃r,Instr.findNow .string (.string k) (ju (mPs i L)) j=some r/\(match r with
 |none=>∀x∈L,x≠k
 |some (q,_)=>∃h:q-j<L.length,j<=q/\L[q-j]=k)
 |[],i,j=>⟨none,rfl,fun x hx=>by simp at hx⟩
 |x::L,i,j=>by
  obtain⟨r,h1,h2⟩:=Gy (k:=k) L (i+1) (j+1)
  cases hx:(k==x)with
  |true=>exact⟨some (j,undef),by simp[ju,mPs,Instr.findNow,Instr.sameNow,hx],⟨by simp,ag7 _,by simp[Mx hx]⟩⟩
  |false=>
   refine⟨r,?_,?_⟩
   ·simp only[ju,mPs,ahg,Instr.findNow,Instr.sameNow,hx]
    exact h1
   ·cases r with
    |none=>
     intro y hy
     rcases ahi.1 hy with rfl|hy
     ·intro e;subst e;rw[Ap]at hx;cases hx
     ·exact h2 y hy
    |some p=>
     obtain⟨q,v⟩:=p
     obtain⟨g3,g4,g5⟩:=h2
     exact⟨by simp;omega,by omega,by simp only[show q-j=q-(j+1)+1 by omega,List.getElem_cons_succ];exact g5⟩
theorem Lt{k:ByteArray}{L:List ByteArray}(hk:P.underlying kt=some .string):∃r,ui P kt (.string k) (mPs 0 L)=some r/\(match r with
 |none=>∀x∈L,x≠k
 |some q=>∃h:q<L.length,L[q]=k):=by
 obtain⟨r,h1,h2⟩:=Gy (k:=k) L 0 0
 have h3:du P (Instr.findKey kt (.string k) (ju (mPs 0 L)))=some r:=by
  unfold Instr.findKey
  refine mq (vx hk) ?_
  rw[h1]
  rfl
 unfold ui
 rw[lz hk]
 simp only[h3]
 cases r with
 |none=>exact⟨none,rfl,h2⟩
 |some p=>
  obtain⟨q,v⟩:=p
  obtain⟨g3,g4,g5⟩:=h2
  exact⟨some q,rfl,by simpa using g3,by simpa using g5⟩
end
section
variable{P:Program}{τ:Nat->AV}{η:bi}{d:Option Tmp}{ty:TypeId}{pos:String}{af:Array Edge}{g:Option (Nat×Bool)}{t kt et id:Nat}{m x i:Operand}{k:ByteArray}{L:List ByteArray}
theorem Rk{v:Int}(ht:P.underlying t=some (.map kt et))(hk:P.underlying kt=some .string)(hm:aev τ m=.mp id 0)(ha:aev τ i=.v (.string k))(hx:aev τ x=.v (.int .i64 v))(hv:v=((L.length:Nat):Int))(hb:η id=some (Py L))(hn:∀y∈L,y≠k):
 LOp P ⟨d,.mapUpdate t m i x,ty,pos,af,g⟩ τ η [id] [(id,some (Py (L++[k])))] (.v undef):=by
 subst hv
 obtain⟨r,h1,h2⟩:=Lt (P:=P) (k:=k) (L:=L) hk
 have hr:r=none:=by
  cases r with
  |none=>rfl
  |some q=>obtain⟨h,e⟩:=h2;exact absurd e (hn _ (ags h))
 subst hr
 have e:Py (L++[k])=cn 0 0 (L.length+1) (mPs 0 L++[(.string k,.v (.int .i64 ((L.length:Nat):Int)),L.length)]):=by
  have:=K0 0 L k
  rw[Nat.zero_add]at this
  show cn 0 0 (L++[k]).length (mPs 0 (L++[k]))=_
  rw[<-this,agw];rfl
 rw[e]
 refine l4 (u:=0) (r:=⟨[id],[(id,some (cn 0 0 (L.length+1) (mPs 0 L++[(.string k,.v (.int .i64 ((L.length:Nat):Int)),L.length)])))],.v undef,0⟩) (.inl rfl) ?_
 unfold qf
 rw[ht]
 simp only[ha,hm,hx,l6 hb,lz hk,h1];rfl
theorem Nl(ht:P.underlying t=some (.map kt et))(hk:P.underlying kt=some .string)(hz:bj P et=some (.int .i64 0))(hm:aev τ x=.mp id 0)(ha:aev τ i=.v (.string k))(hb:η id=some (Py L))(hn:∀y∈L,y≠k):
 LOp P ⟨d,.lookup t x i true,ty,pos,af,g⟩ τ η [id] [] (.tup [.v (.int .i64 0),.v (.bool false)]):=by
 obtain⟨r,h1,h2⟩:=Lt (P:=P) (k:=k) (L:=L) hk
 have hr:r=none:=by
  cases r with
  |none=>rfl
  |some q=>obtain⟨h,e⟩:=h2;exact absurd e (hn _ (ags h))
 subst hr
 refine uv (u:=0) (r:=⟨[id],[],.tup [.v (.int .i64 0),.v (.bool false)],0⟩) ?_
 unfold If
 rw[ht]
 simp only[ha,hz,hm,l6 hb,h1];rfl
theorem Ri{j:Nat}(ht:P.underlying t=some (.map kt et))(hk:P.underlying kt=some .string)(hz:bj P et=some (.int .i64 0))(hm:aev τ x=.mp id 0)(ha:aev τ i=.v (.string k))(hb:η id=some (Py L))(hj:j<L.length)(he:L[j]=k)(hd:∀a (h:a<L.length),L[a]=k->a=j):
 LOp P ⟨d,.lookup t x i true,ty,pos,af,g⟩ τ η [id] [] (.tup [.v (.int .i64 ((j:Nat):Int)),.v (.bool true)]):=by
 obtain⟨r,h1,h2⟩:=Lt (P:=P) (k:=k) (L:=L) hk
 cases r with
 |none=>exact absurd he (h2 _ (ags hj))
 |some q=>
  obtain⟨h,e⟩:=h2
  have:=hd q h e
  subst this
  refine uv (u:=0) (r:=⟨[id],[],.tup [.v (.int .i64 ((q:Nat):Int)),.v (.bool true)],0⟩) ?_
  unfold If
  rw[ht]
  have ea:=Sz L 0 q h
  rw[Nat.zero_add]at ea
  simp only[ha,hz,hm,l6 hb,h1,ea];rfl
theorem Np{p:Option Nat}(ht:P.underlying t=some (.map kt et))(hk:P.underlying kt=some .string)(hz:bj P et=some (.int .i64 0))(hm:aev τ x=.mp id 0)(ha:aev τ i=.v (.string k))(hb:η id=some (Py L))(hp:match p with
 |none=>∀y∈L,y≠k
 |some j=>∃hj:j<L.length,L[j]=k/\∀a (h:a<L.length),L[a]=k->a=j):LOp P ⟨d,.lookup t x i true,ty,pos,af,g⟩ τ η [id] [] (.tup [.v (.int .i64 ((p.getD 0:Nat):Int)),.v (.bool p.isSome)]):=by
 cases p with
 |none=>exact Nl ht hk hz hm ha hb hp
 |some j=>obtain⟨hj,he,hd⟩:=hp;exact Ri ht hk hz hm ha hb hj he hd
end
inductive NilC(x:AV):List AV->List AV->Prop where
 |here (l:List AV):NilC x (.v (.slice none 0 0) :: l) (x :: l)
 |keep {a:AV} {l r:List AV}:NilC x l r->NilC x (a :: l) (a :: r)
theorem NilC.at{x:AV}{l r:List AV}(h:NilC x l r):l.length=r.length/\∀i (h:i<l.length) (h':i<r.length),l[i]=r[i]\/(l[i]=.v (.slice none 0 0)/\r[i]=x):=by
 induction h with
 |here l=>
  refine⟨rfl,fun i h h'=>?_⟩
  cases i with
  |zero=>exact .inr ⟨rfl,rfl⟩
  |succ i=>exact .inl rfl
 |keep h ih=>
  refine⟨by simp[ih.1],fun i h h'=>?_⟩
  cases i with
  |zero=>exact .inl rfl
  |succ i=>exact ih.2 i (by simpa using h) (by simpa using h')
section
variable{P:Program}{N:Nat}{Q:Exit->St->Prop}{τ:Nat->AV}{η:bi}{u:Nat}
theorem Nx{c:Code}(id k t ver w z q:Nat)(r:AV){b:Blk}{cs ds:List AV}(hb:η id=some b)(hbv:b.ver=ver)(hk:η k=some ⟨w,cs,z,false⟩)(hx:Nat.beq k id=false)(hf:FzP [id] η (τ t) r)(g0:NilC (.sl id (ver+1) 0 0) cs ds)
 (hc:AWP P N c Q ⟨upd τ t r,(η.set k (some ⟨w,ds,z,false⟩)).set id (some ⟨ver+1,[],q,true⟩),u⟩):AWP P N c Q ⟨τ,η,u⟩:=by
 intro C a hs
 have e0:C.η=η:=hs.η
 have hki:k≠id:=fun e=>by rw[e]at hx;simp at hx
 obtain⟨hm,g5⟩:=g0.at
 let C':Ctx:={C with η:=(C.η.set k (some ⟨w,ds,z,false⟩)).set id (some ⟨ver+1,[],q,true⟩),T:=fun b=>C.T b\/C.mineOf [id] b}
 have g6:C.η id=some b:=by rw[e0];exact hb
 have hp:C.η k=some ⟨w,cs,z,false⟩:=by rw[e0];exact hk
 have he:∀{i b'},C'.η i=some b'->(i=id/\b'=⟨ver+1,[],q,true⟩)\/(i=k/\i≠id/\b'=⟨w,ds,z,false⟩)\/(i≠id/\i≠k/\C.η i=some b'):=by
  intro i b' ha
  have ha:((C.η.set k (some ⟨w,ds,z,false⟩)).set id (some ⟨ver+1,[],q,true⟩)) i=some b':=ha
  by_cases ei:i=id
  ·subst ei
   rw[ak]at ha
   cases ha
   exact .inl ⟨rfl,rfl⟩
  ·rw[am _ _ ei]at ha
   by_cases ek:i=k
   ·subst ek
    rw[ak]at ha
    cases ha
    exact .inr (.inl ⟨rfl,ei,rfl⟩)
   ·rw[am _ _ ek]at ha
    exact .inr (.inr ⟨ei,ek,ha⟩)
 have hh:∀i b',C'.η i=some b'->∃b,C.η i=some b/\b.ver<=b'.ver/\(b.ver=b'.ver->C'.ρ i=C.ρ i/\C'.sz i=C.sz i/\b'.kind=b.kind/\b'.esz=b.esz):=by
  intro i b' ha
  rcases he ha with⟨rfl,rfl⟩|⟨rfl,_,rfl⟩|⟨_,_,h⟩
  ·exact⟨b,g6,by simp only;omega,fun e=>by simp only at e;omega⟩
  ·exact⟨_,hp,ag7 _,fun _=>⟨rfl,rfl,by rw[dl rfl,dl rfl],rfl⟩⟩
  ·exact⟨b',h,ag7 _,fun _=>⟨rfl,rfl,rfl,rfl⟩⟩
 have hd:∀{i},C'.live i->C.live i/\i≠id:=by
  rintro i ⟨b',ha,hl⟩
  rcases he ha with⟨rfl,rfl⟩|⟨rfl,hi,rfl⟩|⟨hi,_,h⟩
  ·exact absurd rfl hl
  ·exact⟨⟨_,hp,dj rfl⟩,hi⟩
  ·exact⟨⟨b',h,hl⟩,hi⟩
 have ho:Fr0 C C':=⟨rfl,rfl,rfl,ag7 _,fun _ _ _=>rfl,fun k ⟨i,q1,q2⟩=>.inl ⟨i,(hd q1).1,q2⟩,fun k h=>.inl h,fun k h=>h.imp (fun h=>h) (fun h=>.inl (bh h))⟩
 have g7:Ev C C':=⟨ho,fun _ h=>h,fun i b' _ ha=>hh i b' ha⟩
 have hq:∀{a:AV} {x:Value},VR C a x->VR C' a x:=fun hv=>VR.mono hs.good g7 hv
 have hr:C'.η id=some ⟨ver+1,[],q,true⟩:=ak _ _ _
 have hg:Good C':=by
  refine⟨fun h=>?_,?_,?_,fun hi hj e=>hs.good.inj (hd hi).1 (hd hj).1 e,?_,?_,fun h hv hn=>?_⟩
  ·obtain⟨b,h1,_⟩:=hh _ _ h
   exact hs.good.used h1
  ·intro i b' ha hl
   rcases he ha with⟨rfl,rfl⟩|⟨rfl,hi,rfl⟩|⟨hi,_,h⟩
   ·cases hl
   ·rw[dl rfl]at hl;cases hl
   ·obtain⟨o,g1,g2⟩:=hs.good.obj h hl
    exact⟨o,g1,ObjR.shift hq g2⟩
  ·intro i b' ha hy
   rcases he ha with⟨rfl,rfl⟩|⟨rfl,hi,rfl⟩|⟨hi,_,h⟩
   ·cases hy
   ·obtain⟨c,t,g1,g2,g3,g4⟩:=hs.good.blk hp rfl
    refine⟨c,t,g1,g2,by show(C.ρ i).2+ds.length<=c.size;rw[<-hm];exact g3,fun j hj ht=>?_⟩
    have g8:j<ds.length:=hj
    have hz:j<cs.length:=by omega
    have h1:=g4 j hz ht
    rcases g5 j hz g8 with e|e
    ·show VR C' ds[j] _
     rw[<-e];exact hq h1
    ·show VR C' ds[j] _
     rw[e.1]at h1
     rw[e.2,h1.v_inv]
     exact VR.slnil hr rfl rfl
   ·obtain⟨c,t,g1,g2,g3,g4⟩:=hs.good.blk h hy
    exact⟨c,t,g1,g2,g3,fun j hj ht=>hq (g4 j hj ht)⟩
  ·refine hs.good.tokT (fun _ h=>.inl h) ?_
   rintro k (hk|hk)
   ·exact hs.good.tlt hk
   ·exact cw hs.good (bh hk)
  ·rintro k ⟨i,hw,hl⟩ (hT|⟨i',g9,hl'',e⟩)
   ·exact hs.good.apart ⟨i,(hd hw).1,hl⟩ hT
   ·have:i'=i:=hs.good.inj hl'' (hd hw).1 (e.trans hl.symm)
    subst this
    exact(hd hw).2 (agx.1 g9)
  ·rcases he h with⟨rfl,rfl⟩|⟨rfl,hi,rfl⟩|⟨hi,_,h1⟩
   ·cases hn
   ·have:=hs.good.tight hp hv rfl
    show C.sz _=(C.ρ _).2+ds.length
    rw[<-hm];exact this
   ·exact hs.good.tight h1 hv hn
 have ga:Fr C C':=⟨ho,fun i _ hu=>⟨hu,fun b' ha=>hh i b' ha⟩⟩
 have gb:SRel N C' ⟨upd τ t r,(η.set k (some ⟨w,ds,z,false⟩)).set id (some ⟨ver+1,[],q,true⟩),u⟩ a:=by
  refine⟨hg,by simp only[C',e0],hs.u,hs.defers,hs.size,fun p=>?_⟩
  by_cases e:p=t
  ·subst e
   have e1:upd τ p r p=r:=by simp[upd]
   show VR C' (upd τ p r p) _
   rw[e1];exact .imm (hf C hs.good (fun id _=>by rw[e0]) _ (hs.τ p))
  ·have e1:upd τ t r p=τ p:=by simp[upd,mf e]
   show VR C' (upd τ t r p) _
   rw[e1];exact hq (hs.τ p)
 have:=hc C' a gb
 exact Code.wp_mono (fun e a' w' ⟨s',C'',h1,h2,h3,h4⟩=>⟨s',C'',h1,h2,h3,ga.trans h4⟩) this
end
noncomputable def H4(P:Program)(ov:FuncId->Bool)(ovr:d7)(ext:ct)(rs:FuncId->Bool)(steps:Nat):Nat->Fe
 |0,_,_,_,_=>none
 |n+1,f,ys,h,u=>match P.funcs[f]? with
  |none=>none
  |some fn=>match fn.body with
   |none=>none
   |some c=>bif Nat.ble ys.length fn.ntmps then
    match ll 0 ys .nil with
    |none=>none
    |some t=>bif rs f then(match Em P fn.ntmps steps (opF P ov ovr (H4 P ov ovr ext rs steps n) ext) c ⟨t,h,u,0,0⟩with
     |some (.normal,E)=>N2 P fn E u
     |some (.ret,E)=>N2 P fn E u
     |_=>none)
     else match jo fn.ntmps steps (opF P ov ovr (H4 P ov ovr ext rs steps n) ext) c ⟨t,h,u,0,0⟩with
     |some (.normal,E)=>N2 P fn E u
     |some (.ret,E)=>N2 P fn E u
     |_=>none
    else none
theorem O6{P:Program}{ov:FuncId->Bool}{ovr:d7}{ext:ct}{rs:FuncId->Bool}(hm:P.follows .mixedOrders=true)(ho:∀f ys ret,ovr f ys=some ret->b8 P f ys ret)(hd:ext.Ok P){steps:Nat}:∀(n:Nat),Fe.Ok P (H4 P ov ovr ext rs steps n):=by
 intro n
 induction n with
 |zero=>intro f ys h u r _ hr;simp[H4]at hr
 |succ n ih=>
  intro f ys h u r ha hr
  simp only[H4]at hr
  split at hr
  ·cases hr
  ·rename_i fn hf
   split at hr
   ·cases hr
   ·rename_i c hb
    cases hl:Nat.ble ys.length fn.ntmps with
    |false=>rw[hl]at hr;simp at hr
    |true=>
     rw[hl]at hr
     simp only[cond_true]at hr
     split at hr
     ·cases hr
     ·rename_i t ht
      cases he:rs f with
      |true=>
       rw[he]at hr
       simp only[cond_true]at hr
       split at hr
       ·rename_i E hc
        exact Lv hf hb (ag9 hl) ht ha (.inl rfl) (Hd (ye ho ih hd) hm _ _ _ _ ha hc) hr
       ·rename_i E hc
        exact Lv hf hb (ag9 hl) ht ha (.inr rfl) (Hd (ye ho ih hd) hm _ _ _ _ ha hc) hr
       ·cases hr
      |false=>
       rw[he]at hr
       simp only[cond_false]at hr
       split at hr
       ·rename_i E hc
        exact Ad hf hb (ag9 hl) ht ha (.inl rfl) (mz (ye ho ih hd) hm _ _ _ _ ha hc) hr
       ·rename_i E hc
        exact Ad hf hb (ag9 hl) ht ha (.inr rfl) (mz (ye ho ih hd) hm _ _ _ _ ha hc) hr
       ·cases hr
def fzU(η:bi)(a:AV):Option (List Nat×AV):=match a with
 |.tup (.mp i v::cs)=>(match C8 (fz η 64) cs with
  |some (fp,ds)=>some (fp,.tup (.unk::ds))
  |none=>none)
 |a=>fzT η a
theorem Z7{η:bi}{a:AV}{fp:List Nat}{r:AV}(h:fzU η a=some (fp,r)):FzP fp η a r:=by
 unfold fzU at h
 split at h
 ·rename_i i v cs
  cases h1:C8 (fz η 64) cs with
  |none=>rw[h1]at h;cases h
  |some q=>
   obtain⟨fp1,ds⟩:=q
   rw[h1]at h
   simp only[agv,Prod.mk.injEq]at h
   obtain⟨rfl,rfl⟩:=h
   obtain⟨hl,hi⟩:=sn (Lk 64) _ _ _ h1
   exact FzP.tup (by simp[hl]) (fun i h h'=>match i,h,h' with
    |0,_,_=>FzP.unk
    |i+1,h,h'=>hi i (by simpa using h) (by simpa using h'))
 ·exact Z8 h
noncomputable def J2(P:Program)(ov:FuncId->Bool)(ovr:d7)(ext:ct)(rs:FuncId->Bool)(steps depth:Nat)(f:FuncId)(ys:List AV):Option AV:=match H4 P ov ovr ext rs steps depth f ys .nil 0 with
 |none=>none
 |some r=>match fzU (be r.h) r.v with
  |none=>none
  |some (_,ret)=>some ret
theorem ze{P:Program}{ov:FuncId->Bool}{ovr:d7}{ext:ct}{rs:FuncId->Bool}(hm:P.follows .mixedOrders=true)(ho:∀f ys ret,ovr f ys=some ret->b8 P f ys ret)(ha:ext.Ok P){steps depth:Nat}{f:FuncId}{ys:List AV}{ret:AV}(h:J2 P ov ovr ext rs steps depth f ys=some ret):b8 P f ys ret:=by
 unfold J2 at h
 split at h
 ·cases h
 ·rename_i r hr
  split at h
  ·cases h
  ·rename_i fp ret' hz
   simp only[agv]at h
   subst h
   have hη0:be .nil=nb:=Bd
   obtain⟨h1,h2,h3⟩:=O6 hm ho ha depth f ys .nil 0 r (fun id _=>by rw[hη0];rfl) hr
   rw[hη0]at h2 h3
   exact yp h2 (Z7 hz) h3
end Go.Proofs.YtbhhmbchdponjaaGreatDoor
