/- Texts of the claim. -/
import Derived.Lib.MinMax
import Derived.Lib.Bytealg
import Derived.Laws.Externs
import Derived.Test.YtfpfdfhlljjckaaGreatDoorCQ1
import Derived.Test.YtfpfdfhlljjckaaGreatDoorCE1
set_option linter.all false
namespace Go.Proofs.YtfpfdfhlljjckaaGreatDoor
set_option linter.unusedVariables false
set_option linter.unusedSimpArgs false
open Go.RowKit
variable{ret v:AV}{R:AV->Prop}{parts:Array (Nat×Operand)}{af:Array Edge}{xs:Array Operand}{ats:Array TypeId}{b:Blk}{dr:Bool}{c:Code}{Q:Exit->St->Prop}{fn:Func}{f:FuncId}{a m w:Int}{k:IntKind}{hb:List (Nat×Blk)}{hb' δ:List (Nat×Option Blk)}{args caps cs ds vs:List AV}{fp kn:List Nat}{l:List Oper}{e j n q t t' u ver:Nat}{τ:Nat->AV}{p:Nat->Bool}{o:Oper}{g0 i x y:Operand}{g:Option (Nat×Bool)}{d:Option Tmp}{P:Program}{A B:Prop}{s:St}{pos:String}{α:Type}{td:TypeDesc}{ty:TypeId}{z:Value}
section
variable{P:Program}{τ:Nat->AV}{η:bm}{d:Option Tmp}{ty:TypeId}{pos:String}{af:Array Edge}{g:Option (Nat×Bool)}
theorem ae{f:α->List AV}{l:List α}{v:Int}(he:P.underlying t=some (.slice e))(hs:aj P e=some n)(hx:aev τ x=.tree n (l.map f))(hi:aev τ i=.v (.int .i64 v))(hv:v=((j:Nat):Int))(hj:j<l.length):
 LOp P ⟨d,.indexAddr t x i,ty,pos,af,g⟩ τ η [] [] (.tp (f l[j]) 0):=by
 subst hv
 exact lI he hs hx hi hj
theorem Pv{s:ByteArray}(ha:ats[0]? =some t)(hu:P.underlying t=some .string)(hx:aev τ x=.v (.string s)):
 LOp P ⟨d,.call {callee:=.builtin .len,args:=#[x],argTypes:=ats},ty,pos,af,g⟩ τ η [] [] (.v (.int .i64 ((s.size:Nat):Int))):=
 .look [] fun C a hg h0 _=>by have h1:=h0 x (by simp[Op.operands,Call.operands]);rw[hx]at h1;have e1:=h1.v_inv;refine⟨_,?_,VR.v C _⟩;simp[execOp,e1,resolve,invoke,builtin,Builtin.len_,ha,run_underlying hu,goInt]
def bAt(s:ByteArray)(k:Nat):UInt8:=s.data.getD k 0
theorem abe{s:ByteArray}{k:Nat}(h:k<s.size):s[k]? =some (bAt s k):=by have h1:k<s.data.size:=h;rw[getElem?_pos s k h];unfold bAt;simp[Array.getD,h1];rw[dif_pos h];rfl
theorem yd{k:Nat}{s:ByteArray}(hu:P.underlying t=some .string)(hx:aev τ x=.v (.string s))(hi:aev τ i=.v (.int .i64 ((k:Nat):Int)))(hk:k<s.size):
 LOp P ⟨d,.index t x i,ty,pos,af,g⟩ τ η [] [] (.v (.int .u8 (((bAt s k).toNat:Nat):Int))):=
 .look [] fun C a hg h3 _=>by have h1:=h3 x (by simp[Op.operands]);have h2:=h3 i (by simp[Op.operands]);rw[hx]at h1;rw[hi]at h2;have e1:=h1.v_inv;have e2:=h2.v_inv;refine⟨_,?_,VR.v C _⟩;simp only[execOp,e1,e2,Instr.index,asIntOf,Sem.run_bind,azr,azq,run_underlying hu];have h0:(0:Int)<=((k:Nat):Int):=Int.natCast_nonneg k;simp only[h0,if_true,Int.toNat_natCast,abe hk,azr,azq]
end
theorem je{b c:Bool}(h:b=c):AV.v (.bool b)=AV.v (.bool c):=by rw[h]
theorem at8{b c:Int}(h:b=c):AV.v (.int .i64 b)=AV.v (.int .i64 c):=by rw[h]
def yq(n:Nat)(p:Nat->Bool):Bool:=(List.range n).all p
theorem zk{k:Nat}(h:k<n)(hp:p k=false):yq n p=false:=by grind[yq]
theorem Nq{k:Nat}(h:k<=n)(h':¬k<n)(hp:∀j,j<k->p j=true):yq n p=true:=by grind[yq]
theorem mn :yq n p=true↔∀j,j<n->p j=true:=by grind[yq]
def iA(n:Int):List AV:=[.v (.int .i64 n)]
abbrev isA(l:List Int):AV:=.tree 1 (l.map iA)
theorem Eg{l:List α}{k:Nat}{d:α}(h:k<l.length):l.getD k d=l[k]:=by simp[List.getD,h]
inductive UK where
 |sl (e:Nat)
 |str
 |bool
 |o
def ab9(P:Program)(t:Nat):UK:=match P.underlying t with
 |some (.slice e)=>.sl e
 |some .string=>.str
 |some .bool=>.bool
 |_=>.o
theorem Im(h:ab9 P t=.sl e):P.underlying t=some (.slice e):=by unfold ab9 at h;split at h<;>first|(cases h;assumption)|cases h
theorem Kz(h:ab9 P t=.str):P.underlying t=some .string:=by unfold ab9 at h;split at h<;>first|(cases h;assumption)|cases h
theorem Ft(h:ab9 P t=.bool):P.underlying t=some .bool:=by unfold ab9 at h;split at h<;>first|(cases h;assumption)|cases h
structure TI where
 ty:Nat
 und:UK
 row:Option Nat
 size:Nat
 bytes:Nat
 zero:Value
 k:Nat
 pl:List (Nat×Nat)
def fiL(P:Program)(i:TI):List (Option (Nat×Nat)):=match i.k with
 |1=>(List.range i.pl.length).map (ph P i.ty)
 |_=>[]
def plL(P:Program)(i:TI):Option (List (Nat×Nat)):=match i.k with
 |0=>none
 |_=>i9 P i.ty
def TI.v1(P:Program)(i:TI):=(ab9 P i.ty,ey P i.ty,aj P i.ty,(P.info? i.ty).map (·.bytes),bp P i.ty,plL P i,fiL P i)
def TI.v2(i:TI):=(i.und,some i.row,some i.size,some i.bytes,some i.zero,(match i.k with|0=>none|_=>some i.pl),(match i.k with|1=>i.pl.map some|_=>[]))
structure TI.Ok(P:Program)(i:TI):Prop where
 und:ab9 P i.ty=i.und
 row:ey P i.ty=some i.row
 size:aj P i.ty=some i.size
 bytes:(P.info? i.ty).map (·.bytes)=some i.bytes
 zero:bp P i.ty=some i.zero
 pl:Nat.beq i.k 0=false->i9 P i.ty=some i.pl
 fi:Nat.beq i.k 1=true->∀j f,i.pl[j]? =some f->ph P i.ty j=some f
theorem TI.ok_of{i:TI}(h:i.v1 P=i.v2):i.Ok P:=by
 unfold TI.v1 TI.v2 at h
 simp only[Prod.mk.injEq]at h
 obtain⟨h1,h2,h3,h4,h5,h6,h7⟩:=h
 refine⟨h1,h2,h3,h4,h5,fun hk=>?_,fun hk j f hj=>?_⟩
 ·cases e:i.k with
  |zero=>rw[e]at hk;cases hk
  |succ n=>unfold plL at h6;simp only[e]at h6;exact h6
 ·have e:i.k=1:=ay9 hk
  unfold fiL at h7
  rw[e]at h7
  obtain⟨h0,hf⟩:=az2.1 hj
  have:=congrArg (fun l=>l[j]?) h7
  simp only[List.getElem?_map,List.getElem?_range h0,az5,hj]at this
  exact Option.some.inj this
def su:List TI->Nat->Option TI
 |[],_=>none
 |i::r,t=>bif Nat.beq i.ty t then some i else su r t
structure Inf where
 I:List TI
 B:List Nat
variable{X:Inf}
structure Inf.Ok(P:Program)(X:Inf):Prop where
 I:∀i∈X.I,i.Ok P
 B:∀f∈X.B,cw P f=true
 m:P.follows .mixedOrders=true
theorem Inf.ok_of(h1:X.I.map (TI.v1 P)=X.I.map TI.v2)(h2:X.B.all (cw P)=true)(h3:P.follows .mixedOrders=true):X.Ok P:=by refine⟨fun i hi=>TI.ok_of ?_,fun f hf=>List.all_eq_true.1 h2 f hf,h3⟩;obtain⟨j,hj,rfl⟩:=azs hi;have:=congrArg (fun l=>l[j]?) h1;simpa[hj]using this
theorem jn(h:X.Ok P){i:TI}(hl:su X.I t=some i):i.Ok P/\i.ty=t:=by
 have:∀l:List TI,su l t=some i->i∈l/\i.ty=t:=by
  intro l
  induction l with
  |nil=>intro h;cases h
  |cons a r ih=>
   intro h
   unfold su at h
   cases hb:Nat.beq a.ty t with
   |true=>rw[hb]at h;simp only[cond_true,aza]at h;subst h;exact⟨by simp,ay9 hb⟩
   |false=>rw[hb]at h;simp only[cond_false]at h;exact⟨by simp[(ih h).1],(ih h).2⟩
 exact⟨h.I _ (this _ hl).1,(this _ hl).2⟩
def frc(a:AV)(k:AV->Prop):Prop:=match a with
 |.v x=>k (.v x)
 |.ptr i v o=>k (.ptr i v o)
 |.sl i v o n=>k (.sl i v o n)
 |.tree n xs=>k (.tree n xs)
 |.tp cs o=>k (.tp cs o)
 |.agg cs=>k (.agg cs)
 |.tup cs=>k (.tup cs)
 |.clo f cs=>k (.clo f cs)
 |.unk=>k .unk
 |.mp i v=>k (.mp i v)
 |.it i v=>k (.it i v)
theorem vk{a:AV}{k:AV->Prop}(h:frc a k):k a:=by cases a<;>exact h
def ado:List AV->(List AV->Prop)->Prop
 |[],k=>k []
 |a::r,k=>frc a fun a'=>ado r fun r'=>k (a'::r')
theorem ub:∀{l:List AV} {k:List AV->Prop},ado l k->k l
 |[],_,h=>h
 |a::r,k,h=>ub (k:=fun r'=>k (a::r')) (vk (k:=fun a'=>ado r fun r'=>k (a'::r')) h)
abbrev KT:=List Nat->List (Nat×Option Blk)->AV->Nat->Prop
inductive OpG(P:Program)(o:Oper)(τ:Nat->AV)(η:bm)(u:Nat)(k:KT):Prop
 |mk (fp:List Nat) (δ:List (Nat×Option Blk)) (v:AV) (u':Nat) (hL:LOp P o τ η fp δ v) (hu:Nat.ble u u'=true) (hn:D4 fp δ u u'=true) (h:k fp δ v u'):OpG P o τ η u k
inductive IdxG(xs:List (List AV))(j:Nat)(k:AV->Prop):Prop
 |mk (hj:j<xs.length) (h:k (.tp xs[j] 0)):IdxG xs j k
inductive LenG(xs:List (List AV))(k:AV->Prop):Prop
 |mk (h:k (.v (.int .i64 ((xs.length:Nat):Int)))):LenG xs k
theorem IdxG.of{f:α->List AV}{l:List α}{k:AV->Prop}(hj:j<l.length)(h:k (.tp (f l[j]) 0)):IdxG (l.map f) j k:=by refine .mk (by rw[aze];exact hj) ?_;rw[List.getElem_map];exact h
theorem cb{f:α->List AV}{l:List α}{k:AV->Prop}(hj:j<l.length)(hc:f l[j]=cs)(h:k (.tp cs 0)):IdxG (l.map f) j k:=by subst hc;exact .of hj h
theorem LenG.of{f:α->List AV}{l:List α}{k:AV->Prop}(h:k (.v (.int .i64 ((l.length:Nat):Int)))):LenG (l.map f) k:=by refine .mk ?_;rw[aze];exact h
section
variable{P:Program}{X:Inf}{τ:Nat->AV}{η:bm}{u:Nat}{k:KT}{d:Option Tmp}{ty:TypeId}{pos:String}{af:Array Edge}{g:Option (Nat×Bool)}
theorem OpG.lk(hL:LOp P o τ η fp [] v)(h:k fp [] v u):OpG P o τ η u k:=.mk fp [] v u hL (by simp[Nat.ble_eq]) rfl h
theorem OpG.nw{b:Option Blk}(hL:LOp P o τ η [] [(u,b)] v)(ht:Nat.ble (u+1) TOP=true)(h:k [] [(u,b)] v (u+1)):OpG P o τ η u k:=.mk [] _ v (u+1) hL (by simp[Nat.ble_eq]) (Gu ht) h
theorem OpG.wr{b:Option Blk}{id:Nat}(hL:LOp P o τ η [id] [(id,b)] v)(ht:qo u id=true)(h:k [id] [(id,b)] v u):OpG P o τ η u k:=.mk [id] _ v u hL (by simp[Nat.ble_eq]) (S3 ht) h
theorem ee{b:Bool}(h:cond b A B):(b=true/\A)\/(b=false/\B):=by cases b with
 |true=>exact .inl ⟨rfl,h⟩
 |false=>exact .inr ⟨rfl,h⟩
def ahb(P:Program)(o:Oper)(τ:Nat->AV)(η:bm)(u:Nat)(c x y:Operand)(k:KT):Prop:=match aev τ c with
 |.v (.bool t)=>cond t (frc (aev τ x) fun v=>k [] [] v u) (frc (aev τ y) fun v=>k [] [] v u)
 |_=>OpG P o τ η u k
theorem Y4{c:Operand}(h:ahb P ⟨d,.pick c x y,ty,pos,af,g⟩ τ η u c x y k):OpG P ⟨d,.pick c x y,ty,pos,af,g⟩ τ η u k:=by unfold ahb at h;split at h;rename_i t hc;rcases ee h with⟨e,h'⟩|⟨e,h'⟩;exact .lk (akx hc e rfl) (vk (k:=fun v=>k [] [] v u) h');exact .lk (aky hc e rfl) (vk (k:=fun v=>k [] [] v u) h');exact h
def aia(P:Program)(X:Inf)(o:Oper)(τ:Nat->AV)(η:bm)(u:Nat)(t:Nat)(x:Operand)(k:KT):Prop:=match su X.I t with
 |none=>OpG P o τ η u k
 |some i=>match aev τ x with
  |.ptr id ver p=>match xb η id ver with
   |none=>OpG P o τ η u k
   |some b=>match i.row with
    |none=>match b.cs[p]? with
     |some v=>frc v fun v=>k [id] [] v u
     |none=>OpG P o τ η u k
    |some n=>match ij p n b.cs with
     |some ds=>k [id] [] (.agg ds) u
     |none=>OpG P o τ η u k
  |.tp cs p=>match i.row with
   |none=>match cs[p]? with
    |some v=>frc v fun v=>k [] [] v u
    |none=>OpG P o τ η u k
   |some n=>match ij p n cs with
    |some ds=>k [] [] (.agg ds) u
    |none=>OpG P o τ η u k
  |_=>OpG P o τ η u k
theorem Zr(hX:X.Ok P)(h:aia P X ⟨d,.load t x,ty,pos,af,g⟩ τ η u t x k):OpG P ⟨d,.load t x,ty,pos,af,g⟩ τ η u k:=by unfold aia at h;split at h;exact h;rename_i i hi;obtain⟨hI,rfl⟩:=jn hX hi;split at h;rename_i id ver p hx;split at h;exact h;rename_i b hb;obtain⟨h1,h2,h3⟩:=oa hb;split at h;rename_i hr;split at h;rename_i v hv;exact .lk (lD (hI.row.trans (by rw[hr])) hx h1 h2 h3 hv) (vk h);exact h;rename_i n hr;split at h;rename_i ds hv;exact .lk (Xm (hI.row.trans (by rw[hr])) hx h1 h2 h3 hv) h;exact h;rename_i cs p hx;split at h;rename_i hr;split at h;rename_i v hv;exact .lk (lE (hI.row.trans (by rw[hr])) hx hv) (vk h);exact h;rename_i n hr;split at h;rename_i ds hv;exact .lk (ci (hI.row.trans (by rw[hr])) hx hv) h;exact h;exact h
def Jx(P:Program)(X:Inf)(o:Oper)(τ:Nat->AV)(η:bm)(u:Nat)(t:Nat)(x:Operand)(j:Nat)(k:KT):Prop:=match su X.I t with
 |none=>OpG P o τ η u k
 |some i=>bif Nat.beq i.k 1 then match i.pl[j]? with
  |none=>OpG P o τ η u k
  |some (off,sz)=>bif Nat.beq sz 0 then OpG P o τ η u k else match aev τ x with
   |.ptr id ver p=>match xb η id ver with
    |none=>OpG P o τ η u k
    |some b=>k [id] [] (.ptr id ver (p+off)) u
   |.tp cs p=>k [] [] (.tp cs (p+off)) u
   |_=>OpG P o τ η u k
  else OpG P o τ η u k
theorem O3(hX:X.Ok P)(h:Jx P X ⟨d,.fieldAddr t x j,ty,pos,af,g⟩ τ η u t x j k):OpG P ⟨d,.fieldAddr t x j,ty,pos,af,g⟩ τ η u k:=by unfold Jx at h;split at h;exact h;rename_i i hi;obtain⟨hI,rfl⟩:=jn hX hi;rcases ee h with⟨hk,h⟩|⟨hk,h⟩;split at h;exact h;rename_i off sz hp;have hf:=hI.fi hk _ _ hp;rcases ee h with⟨hz,h⟩|⟨hz,h⟩;exact h;split at h;rename_i id ver p hx;split at h;exact h;rename_i b hb;obtain⟨h1,h2,h3⟩:=oa hb;exact .lk (lF hf hz hx h1 h2 h3) h;rename_i cs p hx;exact .lk (B5 hf hz hx) h;exact h;exact h
def Jq(P:Program)(X:Inf)(o:Oper)(τ:Nat->AV)(η:bm)(u:Nat)(t:Nat)(x y:Operand)(k:KT):Prop:=match su X.I t with
 |none=>OpG P o τ η u k
 |some i=>match i.und with
  |.sl e=>match su X.I e with
   |none=>OpG P o τ η u k
   |some q=>match aev τ x with
    |.tree n xs=>match aev τ y with
     |.v (.int .i64 (.ofNat j))=>bif Nat.beq q.size n then IdxG xs j fun v=>k [] [] v u else OpG P o τ η u k
     |_=>OpG P o τ η u k
    |.sl id ver off len=>match aev τ y with
     |.v (.int .i64 (.ofNat j))=>match xb η id ver with
      |some b=>bif Nat.beq b.esz q.size then j<len/\k [id] [] (.ptr id ver (off+j*q.size)) u else OpG P o τ η u k
      |none=>OpG P o τ η u k
     |_=>OpG P o τ η u k
    |_=>OpG P o τ η u k
  |_=>OpG P o τ η u k
theorem O1(hX:X.Ok P)(h:Jq P X ⟨d,.indexAddr t x y,ty,pos,af,g⟩ τ η u t x y k):OpG P ⟨d,.indexAddr t x y,ty,pos,af,g⟩ τ η u k:=by unfold Jq at h;split at h;exact h;rename_i i hi;obtain⟨hI,rfl⟩:=jn hX hi;split at h;rename_i e he;have hu:=Im (hI.und.trans he);split at h;exact h;rename_i q hq;obtain⟨hQ,rfl⟩:=jn hX hq;split at h;rename_i n xs hx;split at h;rename_i j hj;rcases ee h with⟨hz,h'⟩|⟨hz,h⟩;obtain⟨hl,h'⟩:=h';have hn:q.size=n:=ay9 hz;subst hn;have:=lI (P:=P) (τ:=τ) (η:=η) (d:=d) (ty:=ty) (pos:=pos) (af:=af) (g:=g) (f:=fun r:List AV=>r) (l:=xs) hu hQ.size (by rw[hx];simp) hj hl;exact .lk this h';exact h;exact h;rename_i id ver off len hx;split at h;rename_i j hj;split at h;rename_i b hb;obtain⟨h1,h2,h3⟩:=oa hb;rcases ee h with⟨hz,h⟩|⟨hz,h⟩;exact .lk (xm hu hQ.size hx hj h.1 h1 h2 h3 (ay9 hz)) h.2;exact h;exact h;exact h;exact h;exact h
def Az(P:Program)(X:Inf)(o:Oper)(τ:Nat->AV)(η:bm)(u:Nat)(t:Nat)(x y:Operand)(k:KT):Prop:=match su X.I t with
 |none=>OpG P o τ η u k
 |some i=>match i.und with
  |.str=>match aev τ x with
   |.v (.string s)=>match aev τ y with
    |.v (.int .i64 (.ofNat j))=>j<s.size/\k [] [] (.v (.int .u8 ((bAt s j).toNat:Int))) u
    |_=>OpG P o τ η u k
   |_=>OpG P o τ η u k
  |_=>OpG P o τ η u k
theorem G5(hX:X.Ok P)(h:Az P X ⟨d,.index t x y,ty,pos,af,g⟩ τ η u t x y k):OpG P ⟨d,.index t x y,ty,pos,af,g⟩ τ η u k:=by unfold Az at h;split at h;exact h;rename_i i hi;obtain⟨hI,rfl⟩:=jn hX hi;split at h;rename_i he;have hu:=Kz (hI.und.trans he);split at h;rename_i s hx;split at h;rename_i j hj;exact .lk (yd hu hx hj h.1) h.2;exact h;exact h;exact h
def Q8(P:Program)(X:Inf)(o:Oper)(τ:Nat->AV)(η:bm)(u:Nat)(t:Nat)(x y:Operand)(k:KT):Prop:=match su X.I t with
 |none=>OpG P o τ η u k
 |some i=>match aev τ x with
  |.ptr id ver p=>match η id with
   |some ⟨w,cs,z,np⟩=>bif Nat.beq w ver&&!np&&qo u id then match og (aev τ y)with
    |some vs=>ado vs fun vs=>bif Nat.beq vs.length i.size&&vs.all AV.one then match u9 p cs vs with
     |some ds=>k [id] [(id,some ⟨w,ds,z,np⟩)] (.v undef) u
     |none=>OpG P o τ η u k
     else OpG P o τ η u k
    |none=>OpG P o τ η u k
    else OpG P o τ η u k
   |none=>OpG P o τ η u k
  |_=>OpG P o τ η u k
theorem Q7(hX:X.Ok P)(h:Q8 P X ⟨d,.store t x y,ty,pos,af,g⟩ τ η u t x y k):OpG P ⟨d,.store t x y,ty,pos,af,g⟩ τ η u k:=by unfold Q8 at h;split at h;exact h;rename_i i hi;obtain⟨hI,rfl⟩:=jn hX hi;split at h;rename_i id ver p hx;split at h;rename_i w cs z np hb;rcases ee h with⟨hc,h⟩|⟨hc,h⟩;simp only[az8,Bool.not_eq_true']at hc;split at h;rename_i vs hv;rcases ee (ub h)with⟨hz,h⟩|⟨hz,h⟩;rw[az8]at hz;split at h;rename_i ds hd;exact .wr (atg hI.size hx hb (ay9 hc.1.1) hc.1.2 hv (ay9 hz.1) hz.2 hd) hc.2 h;exact h;exact h;exact h;exact h;exact h;exact h
def aow(P:Program)(o:Oper)(τ:Nat->AV)(η:bm)(u:Nat)(cs:Option (List AV))(k:KT):Prop:=match cs with
 |some vs=>bif Nat.ble (u+1) TOP then ado vs fun vs=>k [] [(u,some ⟨0,vs,0,false⟩)] (.ptr u 0 0) (u+1)else OpG P o τ η u k
 |none=>OpG P o τ η u k
theorem aj2(h:aow P ⟨d,.box t x,ty,pos,af,g⟩ τ η u (og (aev τ x)) k):OpG P ⟨d,.box t x,ty,pos,af,g⟩ τ η u k:=by unfold aow at h;split at h;rename_i vs hv;rcases ee h with⟨hz,h⟩|⟨hz,h⟩;have h:=ub h;exact .nw (ath hv) hz h;exact h;exact h
def Xb(P:Program)(X:Inf)(o:Oper)(τ:Nat->AV)(η:bm)(u:Nat)(t:Nat)(k:KT):Prop:=match su X.I t with
 |none=>OpG P o τ η u k
 |some i=>aow P o τ η u (og (.v i.zero)) k
theorem Xa(hX:X.Ok P)(h:Xb P X ⟨d,.alloc t,ty,pos,af,g⟩ τ η u t k):OpG P ⟨d,.alloc t,ty,pos,af,g⟩ τ η u k:=by unfold Xb at h;split at h;exact h;rename_i i hi;obtain⟨hI,rfl⟩:=jn hX hi;unfold aow at h;split at h;rename_i vs hv;rcases ee h with⟨hz,h⟩|⟨hz,h⟩;have h:=ub h;exact .nw (ati hI.zero hv) hz h;exact h;exact h
def Wg(P:Program)(X:Inf)(o:Oper)(τ:Nat->AV)(η:bm)(u:Nat)(t:Nat)(parts:Array (Nat×Operand))(k:KT):Prop:=match su X.I t with
 |none=>OpG P o τ η u k
 |some i=>bif Nat.beq i.k 0 then OpG P o τ η u k else match og (.v i.zero)with
  |none=>OpG P o τ η u k
  |some cs=>match Jv i.pl cs (q7 τ parts)with
   |some out=>ado out fun out=>k [] [] (.agg out) u
   |none=>OpG P o τ η u k
theorem We(hX:X.Ok P)(h:Wg P X ⟨d,.build t parts,ty,pos,af,g⟩ τ η u t parts k):OpG P ⟨d,.build t parts,ty,pos,af,g⟩ τ η u k:=by unfold Wg at h;split at h;exact h;rename_i i hi;obtain⟨hI,rfl⟩:=jn hX hi;rcases ee h with⟨hz,h⟩|⟨hz,h⟩;exact h;split at h;exact h;rename_i cs hc;split at h;rename_i out ho;have h:=ub h;exact .lk (LOp.bd hI.zero (hI.pl hz) hc ho) h;exact h
def Ey(P:Program)(X:Inf)(o:Oper)(τ:Nat->AV)(η:bm)(u:Nat)(t len:Nat)(parts:Array (Nat×Operand))(k:KT):Prop:=match su X.I t with
 |none=>OpG P o τ η u k
 |some i=>match i.und with
  |.sl e=>match su X.I e with
   |none=>OpG P o τ η u k
   |some q=>bif Nat.ble (u+1) TOP&&Nat.ble (len*q.size) 16777216&&Nat.ble len 16777216&&!Nat.beq (len*q.size) 0 then match Jv (zx len q.size) (dk q.zero (len*q.size)) (q7 τ parts)with
    |some out=>ado out fun out=>k [] [(u,some ⟨TV,out,q.size,false⟩)] (.sl u TV 0 len) (u+1)
    |none=>OpG P o τ η u k
    else OpG P o τ η u k
  |_=>OpG P o τ η u k
theorem Kb(hX:X.Ok P){len:Nat}(h:Ey P X ⟨d,.buildSlice t len parts,ty,pos,af,g⟩ τ η u t len parts k):OpG P ⟨d,.buildSlice t len parts,ty,pos,af,g⟩ τ η u k:=by unfold Ey at h;split at h;exact h;rename_i i hi;obtain⟨hI,rfl⟩:=jn hX hi;split at h;rename_i e he;have hu:=Im (hI.und.trans he);split at h;exact h;rename_i q hq;obtain⟨hQ,rfl⟩:=jn hX hq;rcases ee h with⟨hc,h⟩|⟨hc,h⟩;simp only[az8,Bool.not_eq_true']at hc;split at h;rename_i out ho;have h:=ub h;exact .nw (de hu hQ.size hQ.zero hc.1.1.2 hc.1.2 hc.2 ho) hc.1.1.1 h;exact h;exact h;exact h
def awa(P:Program)(o:Oper)(τ:Nat->AV)(η:bm)(u:Nat)(x:Operand)(k:KT):Prop:=match aev τ x with
 |.ptr id ver p=>match xb η id ver with
  |some b=>k [id] [] (.ptr id ver p) u
  |none=>OpG P o τ η u k
 |.tp cs p=>k [] [] (.tp cs p) u
 |_=>OpG P o τ η u k
theorem ah1(h:awa P ⟨d,.nilCheck x,ty,pos,af,g⟩ τ η u x k):OpG P ⟨d,.nilCheck x,ty,pos,af,g⟩ τ η u k:=by unfold awa at h;split at h;rename_i id ver p hx;split at h;rename_i b hb;obtain⟨h1,h2,h3⟩:=oa hb;exact .lk (lN hx h1 h2) h;exact h;rename_i cs p hx;exact .lk (E5 hx) h;exact h
def En(P:Program)(o:Oper)(τ:Nat->AV)(η:bm)(u:Nat)(x:Operand)(j:Nat)(k:KT):Prop:=match aev τ x with
 |.tup cs=>match cs[j]? with
  |some v=>frc v fun v=>k [] [] v u
  |none=>OpG P o τ η u k
 |_=>OpG P o τ η u k
theorem Jy(h:En P ⟨d,.extract x j,ty,pos,af,g⟩ τ η u x j k):OpG P ⟨d,.extract x j,ty,pos,af,g⟩ τ η u k:=by unfold En at h;split at h;rename_i cs hx;split at h;rename_i v hv;exact .lk (LOp.extract hx hv) (vk h);exact h;exact h
end
def cmpI(b:BinOp)(m n:Int):Option Bool:=match b with
 |.eql=>some (m==n)
 |.neq=>some (m !=n)
 |.lss=>some (decide (m<n))
 |.leq=>some (decide (m<=n))
 |.gtr=>some (decide (m>n))
 |.geq=>some (decide (m≥n))
 |_=>none
def cmpT(b:BinOp)(s r:ByteArray):Option Bool:=match b with
 |.eql=>some (s.toList==r.toList)
 |.neq=>some (!(s.toList==r.toList))
 |.lss=>some (Op.bytesLess s.toList r.toList)
 |.leq=>some (Op.bytesLess s.toList r.toList||s.toList==r.toList)
 |.gtr=>some (!(Op.bytesLess s.toList r.toList||s.toList==r.toList))
 |.geq=>some (!Op.bytesLess s.toList r.toList)
 |_=>none
section
variable{P:Program}{X:Inf}{τ:Nat->AV}{η:bm}{u:Nat}{k:KT}{d:Option Tmp}{ty:TypeId}{pos:String}{af:Array Edge}{g:Option (Nat×Bool)}
theorem LOp.cmpI{t t':TypeId}{b:BinOp}{n:Int}{kk:IntKind}{v:Bool}(hx:aev τ x=.v (.int kk m))(hy:aev τ y=.v (.int kk n))(h:cmpI b m n=some v):LOp P ⟨d,.binOp b t x y t',ty,pos,af,g⟩ τ η [] [] (.v (.bool v)):=
 .look [] fun C a hg h0 _=>⟨.bool v,by
  have e1:=h0 x (by simp[Op.operands]);have e2:=h0 y (by simp[Op.operands])
  rw[hx]at e1;rw[hy]at e2;have e1':=e1.v_inv
  have e2':=e2.v_inv;have h1:∀w:World,(eqGuard b t x y (.int kk m) (.int kk n)).run P w=.ok () w:=by intro w;unfold eqGuard;split<;>rfl
  have hb:∀w:World,(Go.binOp b t (.int kk m) (.int kk n)).run P w=.ok (.bool v) w:=by
   intro w
   cases b<;>simp only[Go.Proofs.YtfpfdfhlljjckaaGreatDoor.cmpI]at h<;>first
    |(cases h;done)
    |(obtain rfl:=Option.some.inj h;simp[Go.binOp,Op.intCmp])
  simp only[execOp,e1',e2',Sem.run_bind,h1,azq,hb];rfl,VR.v C _⟩
theorem LOp.cmpT{t t':TypeId}{b:BinOp}{m n:ByteArray}{v:Bool}(hx:aev τ x=.v (.string m))(hy:aev τ y=.v (.string n))(h:cmpT b m n=some v):LOp P ⟨d,.binOp b t x y t',ty,pos,af,g⟩ τ η [] [] (.v (.bool v)):=
 .look [] fun C a hg h0 _=>⟨.bool v,by
  have e1:=h0 x (by simp[Op.operands]);have e2:=h0 y (by simp[Op.operands])
  rw[hx]at e1;rw[hy]at e2;have e1':=e1.v_inv
  have e2':=e2.v_inv;have h1:∀w:World,(eqGuard b t x y (.string m) (.string n)).run P w=.ok () w:=by intro w;unfold eqGuard;split<;>rfl
  have hb:∀w:World,(Go.binOp b t (.string m) (.string n)).run P w=.ok (.bool v) w:=by
   intro w
   cases b<;>simp only[Go.Proofs.YtfpfdfhlljjckaaGreatDoor.cmpT]at h<;>first
    |(cases h;done)
    |(obtain rfl:=Option.some.inj h;rfl)
  simp only[execOp,e1',e2',Sem.run_bind,h1,azq,hb];rfl,VR.v C _⟩
def ar5(P:Program)(o:Oper)(τ:Nat->AV)(η:bm)(u:Nat)(b:BinOp)(m n:Int)(k:KT):Prop:=match cmpI b m n with
 |some v=>k [] [] (.v (.bool v)) u
 |none=>match b with
  |.add=>(-9223372036854775808<=m+n/\m+n<=9223372036854775807)/\k [] [] (.v (.int .i64 (m+n))) u
  |.sub=>(-9223372036854775808<=m-n/\m-n<=9223372036854775807)/\k [] [] (.v (.int .i64 (m-n))) u
  |_=>OpG P o τ η u k
def ar4(P:Program)(o:Oper)(τ:Nat->AV)(η:bm)(u:Nat)(b:BinOp)(m n:ByteArray)(k:KT):Prop:=match cmpT b m n with
 |some v=>k [] [] (.v (.bool v)) u
 |none=>match b with
  |.add=>m.size+n.size<=9223372036854775807/\k [] [] (.v (.string (m++n))) u
  |_=>OpG P o τ η u k
def asg(P:Program)(X:Inf)(o:Oper)(τ:Nat->AV)(η:bm)(u:Nat)(b:BinOp)(t:Nat)(p q:Bool)(k:KT):Prop:=match su X.I t with
 |none=>OpG P o τ η u k
 |some i=>match i.und with
  |.bool=>match b with
   |.eql=>k [] [] (.v (.bool (p==q))) u
   |.neq=>k [] [] (.v (.bool (!(p==q)))) u
   |_=>OpG P o τ η u k
  |_=>OpG P o τ η u k
def ax9(P:Program)(X:Inf)(o:Oper)(τ:Nat->AV)(η:bm)(u:Nat)(b:BinOp)(t:Nat)(x y:Operand)(k:KT):Prop:=match aev τ x with
 |.v (.int .i64 m)=>match aev τ y with
  |.v (.int .i64 n)=>ar5 P o τ η u b m n k
  |_=>OpG P o τ η u k
 |.v (.int .u8 m)=>match aev τ y with
  |.v (.int .u8 n)=>match cmpI b m n with
   |some v=>k [] [] (.v (.bool v)) u
   |none=>OpG P o τ η u k
  |_=>OpG P o τ η u k
 |.v (.string m)=>match aev τ y with
  |.v (.string n)=>ar4 P o τ η u b m n k
  |_=>OpG P o τ η u k
 |.v (.bool p)=>match aev τ y with
  |.v (.bool q)=>asg P X o τ η u b t p q k
  |_=>OpG P o τ η u k
 |_=>OpG P o τ η u k
theorem aka(hX:X.Ok P){b:BinOp}(h:ax9 P X ⟨d,.binOp b t x y t',ty,pos,af,g⟩ τ η u b t x y k):OpG P ⟨d,.binOp b t x y t',ty,pos,af,g⟩ τ η u k:=by unfold ax9 at h;split at h;rename_i m hx;split at h;rename_i n hy;unfold ar5 at h;split at h;rename_i v hv;exact .lk (LOp.cmpI hx hy hv) h;split at h;exact .lk (lJ hx hy h.1.1 h.1.2) h.2;exact .lk (qf hx hy h.1.1 h.1.2) h.2;exact h;exact h;rename_i m hx;split at h;rename_i n hy;split at h;rename_i v hv;exact .lk (LOp.cmpI hx hy hv) h;exact h;exact h;rename_i m hx;split at h;rename_i n hy;unfold ar4 at h;split at h;rename_i v hv;exact .lk (LOp.cmpT hx hy hv) h;split at h;exact .lk (P1 hx hy h.1) h.2;exact h;exact h;rename_i p hx;split at h;rename_i q hy;unfold asg at h;split at h;exact h;rename_i i hi;obtain⟨hI,rfl⟩:=jn hX hi;split at h;rename_i hu;split at h;exact .lk (ak0 hx hy (Ft (hI.und.trans hu))) h;exact .lk (akz hx hy (Ft (hI.und.trans hu))) h;exact h;exact h;exact h;exact h
def av9(P:Program)(o:Oper)(τ:Nat->AV)(η:bm)(u:Nat)(x:Operand)(k:KT):Prop:=match aev τ x with
 |.v (.bool b)=>k [] [] (.v (.bool (!b))) u
 |_=>OpG P o τ η u k
theorem ahz(h:av9 P ⟨d,.unOp .not t x,ty,pos,af,g⟩ τ η u x k):OpG P ⟨d,.unOp .not t x,ty,pos,af,g⟩ τ η u k:=by unfold av9 at h;split at h;rename_i b hx;exact .lk (aad (by unfold ajb;simp only[hx])) h;exact h
def awi(P:Program)(X:Inf)(o:Oper)(τ:Nat->AV)(η:bm)(u:Nat)(t:Nat)(x:Operand)(k:KT):Prop:=match su X.I t with
 |none=>OpG P o τ η u k
 |some i=>match i.und with
  |.sl e=>match aev τ x with
   |.tree n xs=>LenG xs fun v=>k [] [] v u
   |.sl id ver off len=>match xb η id ver with
    |some b=>k [id] [] (.v (.int .i64 ((len:Nat):Int))) u
    |none=>OpG P o τ η u k
   |.v (.slice none 0 0)=>k [] [] (.v (.int .i64 0)) u
   |_=>OpG P o τ η u k
  |.str=>match aev τ x with
   |.v (.string s)=>k [] [] (.v (.int .i64 ((s.size:Nat):Int))) u
   |_=>OpG P o τ η u k
  |_=>OpG P o τ η u k
theorem aii(hX:X.Ok P)(ha:ats[0]? =some t)(h:awi P X ⟨d,.call {callee:=.builtin .len,args:=#[x],argTypes:=ats},ty,pos,af,g⟩ τ η u t x k):OpG P ⟨d,.call {callee:=.builtin .len,args:=#[x],argTypes:=ats},ty,pos,af,g⟩ τ η u k:=by unfold awi at h;split at h;exact h;rename_i i hi;obtain⟨hI,rfl⟩:=jn hX hi;split at h;rename_i e he;have hu:=Im (hI.und.trans he);split at h;rename_i n xs hx;obtain⟨h⟩:=h;exact .lk (lT (n:=n) (f:=fun r:List AV=>r) (l:=xs) ha hu (by rw[hx];simp)) h;rename_i id ver off len hx;split at h;rename_i b hb;obtain⟨h1,h2,h3⟩:=oa hb;exact .lk (we ha hu hx h1 h2) h;exact h;rename_i hx;exact .lk (Pw ha hu hx) h;exact h;rename_i he;have hu:=Kz (hI.und.trans he);split at h;rename_i s hx;exact .lk (Pv ha hu hx) h;exact h;exact h
def ah6(n:Nat):List Nat->Bool
 |[]=>false
 |a::r=>bif Nat.beq a n then true else ah6 n r
theorem Tf{n:Nat}:∀{l:List Nat},ah6 n l=true->n∈l
 |[],h=>by cases h
 |a::r,h=>by
  unfold ah6 at h
  cases hb:Nat.beq a n with
  |true=>rw[ay9 hb];simp
  |false=>rw[hb]at h;exact List.mem_cons_of_mem _ (Tf h)
inductive ArgG(P:Program)(f:FuncId)(args:List AV)(k:AV->Prop):Prop
 |mk {R:AV->Prop} (h:PRet P f args R) (hp:bz args=true) (hk:∀ret,R ret->k ret):ArgG P f args k
def ajx(P:Program)(X:Inf)(o:Oper)(τ:Nat->AV)(η:bm)(u:Nat)(f:FuncId)(xs:List Operand)(k:KT):Prop:=
 bif ah6 f X.B then ado (xs.map (aev τ)) fun ys=>ArgG P f ys fun v=>frc v fun v=>k [] [] v u else OpG P o τ η u k
theorem aa1(hX:X.Ok P)(h:ajx P X ⟨d,.call {callee:=.value (.func f),args:=xs,argTypes:=ats},ty,pos,af,g⟩ τ η u f xs.toList k):OpG P ⟨d,.call {callee:=.value (.func f),args:=xs,argTypes:=ats},ty,pos,af,g⟩ τ η u k:=by unfold ajx at h;rcases ee h with⟨hb,h⟩|⟨hb,h⟩;obtain⟨⟨ret,hR,hc⟩,hp,hk⟩:=ub h;exact .lk (LOp.call (hX.B _ (Tf hb)) hp hc) (vk (k:=fun v=>k [] [] v u) (hk ret hR));exact h
def keyO(o:Oper):Nat:=match o.dst with
 |some d=>d
 |none=>match o.op with
  |.store _ (.tmp q) _=>q+100000
  |_=>99999
def agf(P:Program)(X:Inf)(cu:List Nat)(o:Oper)(τ:Nat->AV)(η:bm)(u:Nat)(k:KT):Prop:=
 bif ah6 (keyO o) cu then OpG P o τ η u k else match o.op with
 |.move x=>frc (aev τ x) fun v=>k [] [] v u
 |.assign x=>frc (aev τ x) fun v=>k [] [] v u
 |.pick c x y=>ahb P o τ η u c x y k
 |.load t x=>aia P X o τ η u t x k
 |.store t x y=>Q8 P X o τ η u t x y k
 |.fieldAddr t x j=>Jx P X o τ η u t x j k
 |.indexAddr t x y=>Jq P X o τ η u t x y k
 |.index t x y=>Az P X o τ η u t x y k
 |.box t x=>aow P o τ η u (og (aev τ x)) k
 |.alloc t=>Xb P X o τ η u t k
 |.build t parts=>Wg P X o τ η u t parts k
 |.buildSlice t len parts=>Ey P X o τ η u t len parts k
 |.nilCheck x=>awa P o τ η u x k
 |.extract x j=>En P o τ η u x j k
 |.binOp b t x y _=>ax9 P X o τ η u b t x y k
 |.unOp .not _ x=>av9 P o τ η u x k
 |.call ⟨.value (.func f),xs,_⟩=>ajx P X o τ η u f xs.toList k
 |.call ⟨.builtin .len,⟨[x]⟩,ats⟩=>match ats[0]? with
  |some t=>awi P X o τ η u t x k
  |none=>OpG P o τ η u k
 |_=>OpG P o τ η u k
theorem Yn(hX:X.Ok P){cu:List Nat}(h:agf P X cu o τ η u k):OpG P o τ η u k:=by obtain⟨d,op,ty,pos,af,g⟩:=o;unfold agf at h;rcases ee h with⟨_,h⟩|⟨_,h⟩;exact h;simp only at h;split at h;exact .lk (LOp.move _) (vk (k:=fun v=>k [] [] v u) h);exact .lk (LOp.assign _) (vk (k:=fun v=>k [] [] v u) h);exact Y4 h;exact Zr hX h;exact Q7 hX h;exact O3 hX h;exact O1 hX h;exact G5 hX h;exact aj2 h;exact Xa hX h;exact We hX h;exact Kb hX h;exact ah1 h;exact Jy h;exact aka hX h;exact ahz h;exact aa1 hX h;split at h;rename_i t ht;exact aii hX ht h;exact h;exact h
end
inductive GS where
 |no
 |on (q:Nat) (b:Bool)
 |bad
def Z6(ops:Array Oper)(o:Oper):GS:=match o.guard with
 |none=>.no
 |some (j,b)=>match(ops[j]?).bind (·.dst)with
  |some d=>.on d b
  |none=>.bad
abbrev KR:=List Rec->(Nat->AV)->bm->Nat->Prop
variable{K:KR}
def eqB':Bool->Bool->Bool
 |true,b=>b
 |false,b=>!b
def aam(d:Option Tmp)(τ:Nat->AV)(η:bm)(δ:List (Nat×Option Blk))(v:AV)(u:Nat)(K:(Nat->AV)->bm->Nat->Prop):Prop:=match d with
 |some d=>match δ with
  |[]=>K (upd τ d v) η u
  |[(i,b)]=>K (upd τ d v) (η.set i b) u
  |δ=>K (upd τ d v) (η.put δ) u
 |none=>match δ with
  |[]=>K τ η u
  |[(i,b)]=>K τ (η.set i b) u
  |δ=>K τ (η.put δ) u
theorem M3{η:bm}{K:(Nat->AV)->bm->Nat->Prop}(h:aam d τ η δ v u K):K (Dn τ d v) (η.put δ) u:=by
 unfold aam at h
 repeat' split at h
 all_goals exact h
inductive SpI(t:Bool)(A B:Prop):Prop
 |mk (ht:t=true->A) (hf:t=false->B):SpI t A B
theorem SpI.at{t:Bool}(h:SpI t A B):(t=true/\A)\/(t=false/\B):=by
 obtain⟨h1,h2⟩:=h
 cases t with
 |true=>exact .inl ⟨rfl,h1 rfl⟩
 |false=>exact .inr ⟨rfl,h2 rfl⟩
theorem cB{t:Bool}(ht:t=true->A)(hf:t=false->B):SpI t A B:=⟨ht,hf⟩
theorem cT(h:A):SpI true A B:=⟨fun _=>h,fun e=>Bool.noConfusion e⟩
theorem cF(h:B):SpI false A B:=⟨fun e=>Bool.noConfusion e,fun _=>h⟩
abbrev KV:=List Nat->KR->(Nat->AV)->bm->Nat->Prop
def goV(P:Program)(X:Inf)(cu:List Nat)(o:Oper)(ih:KV)(kn:List Nat)(K:KR)(τ:Nat->AV)(η:bm)(u:Nat):Prop:=
 agf P X cu o τ η u fun fp δ v u'=>aam o.dst τ η δ v u' (ih kn fun rs=>K (⟨fp,δ,v,u'⟩::rs))
def skV(o:Oper)(ih:KV)(kn:List Nat)(K:KR)(τ:Nat->AV)(η:bm)(u:Nat):Prop:=
 aam o.dst τ η [] (.v undef) u (ih kn fun rs=>K (⟨[],[],.v undef,u⟩::rs))
def opV(P:Program)(X:Inf)(cu:List Nat)(ops:Array Oper)(o:Oper)(ih:KV):KV:=fun kn K τ η u=>match Z6 ops o with
 |.no=>goV P X cu o ih kn K τ η u
 |.on q b=>match τ q with
  |.v (.bool c)=>cond (ah6 q kn) (cond (eqB' b c) (goV P X cu o ih kn K τ η u) (skV o ih kn K τ η u))
   (SpI c
    (cond b (goV P X cu o ih (q::kn) K (upd τ q (.v (.bool true))) η u) (skV o ih (q::kn) K (upd τ q (.v (.bool true))) η u))
    (cond b (skV o ih (q::kn) K (upd τ q (.v (.bool false))) η u) (goV P X cu o ih (q::kn) K (upd τ q (.v (.bool false))) η u)))
  |.v (.tuple _)=>skV o ih kn K τ η u
  |_=>False
 |.bad=>False
noncomputable def Fp(P:Program)(X:Inf)(cu:List Nat)(ops:Array Oper)(l:List Oper):KV:=
 List.rec (motive:=fun _=>KV) (fun kn K τ η u=>K [] τ η u) (fun o _ ih=>opV P X cu ops o ih) l
section
variable{P:Program}{X:Inf}{cu:List Nat}{N:Nat}{ops:Array Oper}
theorem X7{η:bm}(hX:X.Ok P)(hd:qc N ops o=true)(hw:By ops τ o=some true)
  (ih:∀(kn:List Nat) (K:KR) τ η u,Fp P X cu ops l kn K τ η u->akv P N ops l (fun rs s=>K rs s.τ s.η s.u) ⟨τ,η,u⟩)
 (h:goV P X cu o (Fp P X cu ops l) kn K τ η u):akv P N ops (o::l) (fun rs s=>K rs s.τ s.η s.u) ⟨τ,η,u⟩:=by
 obtain⟨fp,δ,v,u',hL,hu,hn,h⟩:=Yn hX h
 obtain⟨rs,s',h1,h2⟩:=ih _ _ _ _ _ (M3 h)
 exact⟨_,s',Seq.op (s:=⟨τ,η,u⟩) u' hL hw hd hu hn h1,h2⟩
theorem Dj{η:bm}(hd:qc N ops o=true)(hw:By ops τ o=some false)
  (ih:∀(kn:List Nat) (K:KR) τ η u,Fp P X cu ops l kn K τ η u->akv P N ops l (fun rs s=>K rs s.τ s.η s.u) ⟨τ,η,u⟩)
 (h:skV o (Fp P X cu ops l) kn K τ η u):akv P N ops (o::l) (fun rs s=>K rs s.τ s.η s.u) ⟨τ,η,u⟩:=by
 obtain⟨rs,s',h1,h2⟩:=ih _ _ _ _ _ (M3 h)
 exact⟨_,s',Seq.skip (s:=⟨τ,η,u⟩) hw hd h1,h2⟩
theorem Dk(hX:X.Ok P):∀(l:List Oper) (_:l.all (qc N ops)=true) (kn:List Nat) (K:KR) (τ:Nat->AV) (η:bm) (u:Nat),Fp P X cu ops l kn K τ η u->akv P N ops l (fun rs s=>K rs s.τ s.η s.u) ⟨τ,η,u⟩
 |[],_,kn,K,τ,η,u,h=>⟨[],_,.nil,h⟩
 |o::l,h0,kn,K,τ,η,u,h=>by
  rw[List.all_cons,az8]at h0;have ih:=Dk hX l h0.2
  have h:opV P X cu ops o (Fp P X cu ops l) kn K τ η u:=h;unfold opV at h;split at h;rename_i hg;refine X7 hX h0.1 ?_ ih h;unfold Z6 at hg;unfold By;split at hg;rename_i e;rw[e];split at hg<;>cases hg;rename_i q b hg
  have h1:∀(τ':Nat->AV) c,τ' q=.v (.bool c)->By ops τ' o=some (c==b):=by
   intro τ' c hc;unfold Z6 at hg;unfold By;split at hg;cases hg;rename_i j b' e;split at hg;rename_i d' e2;cases hg;rw[e];simp only[e2,hc];cases hg
  split at h;rename_i c hc;have h2:=Yb hc
  have hw:=h1 τ c hc;rcases ee h with⟨_,h⟩|⟨_,h⟩;rcases ee h with⟨e,h'⟩|⟨e,h'⟩;exact X7 hX h0.1 (by rw[hw];cases b<;>cases c<;>first|rfl|cases e) ih h';exact Dj h0.1 (by rw[hw];cases b<;>cases c<;>first|rfl|cases e) ih h';rcases h.at with⟨rfl,h'⟩|⟨rfl,h'⟩;rw[h2]at h';rcases ee h' with⟨e,h''⟩|⟨e,h''⟩;exact X7 hX h0.1 (by rw[hw,e];rfl) ih h'';exact Dj h0.1 (by rw[hw,e];rfl) ih h'';rw[h2]at h';rcases ee h' with⟨e,h''⟩|⟨e,h''⟩;exact Dj h0.1 (by rw[hw,e];rfl) ih h'';exact X7 hX h0.1 (by rw[hw,e];rfl) ih h'';rename_i c hc;refine Dj h0.1 ?_ ih h;unfold Z6 at hg;unfold By;split at hg;cases hg;rename_i j b' e;split at hg;rename_i d' e2;cases hg;rw[e];simp only[e2,hc];cases hg;exact h.elim;exact h.elim
def nh(N:Nat):Code->Bool
 |.region _ ops _=>ops.toList.all (qc N ops)
 |.seq a b=>nh N a&&nh N b
 |.cond _ a b=>nh N a&&nh N b
 |.block _ c=>nh N c
 |.loop c=>nh N c
 |_=>true
inductive LpG(P:Program)(X:Inf)(N:Nat)(cu st:List Nat)(c:Code)(Q:Exit->St->Prop)(s:St):Prop
 |mk (h:X.Ok P->nh N c=true->EWP P N (.loop c) Q s):LpG P X N cu st c Q s
inductive RegG(P:Program)(X:Inf)(N:Nat)(cu st:List Nat)(id:Nat)(ops:Array Oper)(dr:Bool)(Q:Exit->St->Prop)(s:St):Prop
 |mk (h:X.Ok P->ops.toList.all (qc N ops)=true->EWP P N (.region id ops dr) Q s):RegG P X N cu st id ops dr Q s
def X8(P:Program)(X:Inf)(cu:List Nat)(ops:Array Oper)(dr:Bool)(Q:Exit->St->Prop)(s:St):Prop:=match s with
 |⟨τ,η,u⟩=>match ops with
  |⟨l⟩=>match dr with
   |false=>Fp P X cu l.toArray l [] (fun _ τ η u=>Q .normal ⟨τ,η,u⟩) τ η u
   |true=>Fp P X cu l.toArray l [] (fun rs τ η u=>s7 l.toArray rs=true/\Q .normal ⟨τ,η,u⟩) τ η u
theorem Kw{id:Nat}(hX:X.Ok P)(hd:ops.toList.all (qc N ops)=true)(h:X8 P X cu ops dr Q s):EWP P N (.region id ops dr) Q s:=by
 obtain⟨τ,η,u⟩:=s
 obtain⟨l⟩:=ops
 unfold X8 at h
 cases dr with
 |false=>exact EWP.region (Dk hX l hd _ _ _ _ _ h)
 |true=>exact ab0 hX.m (Dk hX l hd _ _ _ _ _ h)
abbrev KC:=(Exit->St->Prop)->St->Prop
def ajj(c:Operand)(a b:KC):KC:=fun Q s=>match aev s.τ c with
 |.v (.bool t)=>SpI t (a Q s) (b Q s)
 |_=>False
def avf(P:Program)(X:Inf)(N:Nat)(cu st:List Nat)(id:Nat)(ops:Array Oper)(dr:Bool):KC:=fun Q s=>bif ah6 id st then RegG P X N cu st id ops dr Q s else X8 P X cu ops dr Q s
noncomputable def vc(P:Program)(X:Inf)(N:Nat)(cu st:List Nat)(c:Code):KC:=
 Code.rec (motive:=fun _=>KC) (fun Q s=>Q .normal s) (fun id ops dr=>avf P X N cu st id ops dr) (fun _ _ a b Q s=>a (andThen (b Q) Q) s) (fun c _ _ a b=>ajj c a b) (fun id _ c Q s=>c (A3 id Q) s)
  (fun c _ Q s=>LpG P X N cu st c Q s) (fun _ _ _ _ _ _ _ _=>False) (fun id Q s=>Q (.exit id) s) (fun _ _ _ _=>False) (fun _ _ _=>False) (fun _ _ _=>False) (fun Q s=>Q .ret s) (fun _ _ _=>False) c
variable{st:List Nat}
theorem N1(hX:X.Ok P):∀(c:Code) (Q:Exit->St->Prop) (s:St),nh N c=true->vc P X N cu st c Q s->EWP P N c Q s:=by
 intro c
 induction c with
 |skip=>exact fun Q s _ h=>EWP.skip h
 |exit id=>exact fun Q s _ h=>EWP.exit h
 |ret=>exact fun Q s _ h=>EWP.ret h
 |seq a b iha ihb=>
  intro Q s hd h
  rw[nh,az8]at hd
  refine EWP.seq (EWP.mono (iha _ _ hd.1 h) fun e s' h=>?_)
  cases e with
  |normal=>exact ihb _ _ hd.2 h
  |_=>exact h
 |block id c ih=>exact fun Q s hd h=>EWP.block (ih _ _ hd h)
 |cond c a b iha ihb=>
  intro Q s hd h
  rw[nh,az8]at hd
  have h:ajj c (vc P X N cu st a) (vc P X N cu st b) Q s:=h
  unfold ajj at h
  split at h
  ·rename_i t ht
   refine EWP.cond ht (fun e=>?_) (fun e=>?_)
   ·exact iha _ _ hd.1 (h.1 e)
   ·exact ihb _ _ hd.2 (h.2 e)
  ·exact h.elim
 |loop c ih=>exact fun Q s hd h=>h.1 hX hd
 |region id ops dr=>
  intro Q s hd h
  have h:avf P X N cu st id ops dr Q s:=h
  unfold avf at h
  rcases ee h with⟨_,h⟩|⟨_,h⟩
  ·exact h.1 hX hd
  ·exact Kw hX hd h
 |_=>intro Q s hd h;exact h.elim
theorem LpG.via{s2:St}(hv:∀Q,AWP P N (.loop c) Q s2->AWP P N (.loop c) Q s)(h:LpG P X N cu st c Q s2):LpG P X N cu st c Q s:=⟨fun hX hd=>EWP.via hv (h.1 hX hd)⟩
theorem LpG.exit(h:vc P X N cu st c (andThen (fun _=>False) Q) s):LpG P X N cu st c Q s:=⟨fun hX hd=>Ie (N1 hX c _ _ hd h)⟩
inductive ULp(P:Program)(X:Inf)(N:Nat)(cu st:List Nat)(c:Code)(Q:Exit->St->Prop)(s:St):Prop
 |mk (h:X.Ok P->nh N c=true->ab1 P N c Q s):ULp P X N cu st c Q s
theorem ULp.step(h:vc P X N cu st c (andThen (ULp P X N cu st c Q) Q) s):ULp P X N cu st c Q s:=
 ⟨fun hX hd=>If (EWP.mono (N1 hX c _ _ hd h) fun e s' h=>by
  cases e with
  |normal=>exact h.1 hX hd
  |_=>exact h)⟩
theorem eu(h:ULp P X N cu st c Q s):LpG P X N cu st c Q s:=⟨fun hX hd=>Xw (h.1 hX hd)⟩
theorem RegG.via{id:Nat}{s2:St}(hv:∀Q,AWP P N (.region id ops dr) Q s2->AWP P N (.region id ops dr) Q s)(h:RegG P X N cu st id ops dr Q s2):RegG P X N cu st id ops dr Q s:=⟨fun hX hd=>EWP.via hv (h.1 hX hd)⟩
theorem ay{id:Nat}(h:X8 P X cu ops dr Q s):RegG P X N cu st id ops dr Q s:=⟨fun hX hd=>Kw hX hd h⟩
theorem PRet.of_vc(hX:X.Ok P)(cu st:List Nat)(hf:P.funcs[f]? =some fn)(hb:fn.body=some c)(hN:fn.ntmps=N)(hl:Nat.ble args.length N=true)(hc:nh N c=true)
 (h:vc P X N cu st c (fun e s'=>(e=.normal\/e=.ret)/\∃ret,P8 P N fn s' ret/\R ret) ⟨lz args,Co,0⟩):PRet P f args R:=
 PRet.of_body hf hb hN (azo hl) (N1 hX c _ _ hc h)
theorem PRet.eq(h:PRet P f args (fun r=>r=ret)):qe P f args ret:=by obtain⟨_,rfl,h⟩:=h;exact h
theorem PRet.of_call(h:qe P f args ret):PRet P f args (fun r=>r=ret):=⟨_,rfl,h⟩
end
inductive Wk:AV->AV->Prop
 |rfl {a:AV}:Wk a a
 |unk {a:AV}:Wk a .unk
 |agg {cs ds:List AV} (hl:cs.length=ds.length) (h:∀i (h:i<cs.length) (h':i<ds.length),Wk cs[i] ds[i]):Wk (.agg cs) (.agg ds)
inductive WkL:List AV->List AV->Prop
 |nil:WkL [] []
 |cons {a b:AV} {r s:List AV}:Wk a b->WkL r s->WkL (a :: r) (b :: s)
theorem WkL.at(h:WkL cs ds):cs.length=ds.length/\∀i (h:i<cs.length) (h':i<ds.length),Wk cs[i] ds[i]:=by
 induction h with
 |nil=>exact⟨rfl,fun i h=>by simp at h⟩
 |cons h1 h2 ih=>exact⟨by simp[ih.1],fun i h h'=>by cases i with
  |zero=>exact h1
  |succ i=>exact ih.2 i (by simpa using h) (by simpa using h')⟩
theorem Wk.aggL(h:WkL cs ds):Wk (.agg cs) (.agg ds):=.agg h.at.1 h.at.2
theorem TR.wk{T:Nat->Prop}{w:World}{a b:AV}(h:Wk a b):∀{x:Value},TR T w a x->TR T w b x:=by
 induction h with
 |rfl=>exact fun h=>h
 |unk=>exact fun _=>.unk _
 |agg hl h ih=>intro x hx;cases hx with
  |agg h1 h2=>exact .agg (by omega) (fun i g g'=>ih i (by omega) g (h2 i (by omega) g'))
theorem qe.wk{args':List AV}(hw:WkL args args')(h:qe P f args' ret):qe P f args ret:=fun T w vals ht hT=>h T w vals ⟨by have:=ht.1;have:=hw.at.1;omega,fun i g g'=>TR.wk (hw.at.2 i (by have:=hw.at.1;omega) g) (ht.2 i (by have:=hw.at.1;omega) g')⟩ hT
theorem PRet.wk{args':List AV}(hw:WkL args args')(h:PRet P f args' R):PRet P f args R:=by obtain⟨ret,h1,h2⟩:=h;exact⟨ret,h1,h2.wk hw⟩
theorem FzP.unk{η:bm}{a:AV}:FzP fp η a .unk:=fun _ _ _ x _=>.unk x
inductive FzPL(fp:List Nat)(η:bm):List AV->List AV->Prop
 |nil:FzPL fp η [] []
 |cons {a b:AV} {r s:List AV}:FzP fp η a b->FzPL fp η r s->FzPL fp η (a :: r) (b :: s)
theorem FzPL.at{η:bm}(h:FzPL fp η cs ds):cs.length=ds.length/\∀i (h:i<cs.length) (h':i<ds.length),FzP fp η cs[i] ds[i]:=by
 induction h with
 |nil=>exact⟨rfl,fun i h=>by simp at h⟩
 |cons h1 h2 ih=>exact⟨by simp[ih.1],fun i h h'=>by cases i with
  |zero=>exact h1
  |succ i=>exact ih.2 i (by simpa using h) (by simpa using h')⟩
theorem FzP.aggL{η:bm}(h:FzPL fp η cs ds):FzP fp η (.agg cs) (.agg ds):=FzP.agg h.at.1 h.at.2
section
variable{P:Program}{X:Inf}{N:Nat}
theorem dc{η:bm}(hb:cw P f=true)(hf:FzPL [] η (xs.toList.map (aev τ)) args)(hc:qe P f args ret):
 LOp P ⟨d,.call {callee:=.value (.func f),args:=xs,argTypes:=ats},ty,pos,af,g⟩ τ η [] [] ret:=
 iz [] hb (by have:=hf.at.1;simpa using this) (fun i h h'=>by have:=hf.at.2 i (by simpa using h) h';simpa using this) (fun id h0=>absurd h0 (by simp)) hc
theorem aby.of_vc(hX:X.Ok P)(cu st:List Nat)(hf:P.funcs[f]? =some fn)(h0:fn.body=some c)(hN:fn.ntmps=N)(hl:Nat.ble args.length N=true)(hc:nh N c=true)
 (h:vc P X N cu st c (fun e s'=>(e=.normal\/e=.ret)/\∃ret,Pn P N fn s' hb' ret/\R ret) ⟨lz args,hLz hb,0⟩):aby P f args hb hb' R:=
 aby.of_body hf h0 hN (azo hl) (N1 hX c _ _ hc h)
end
theorem Cc:∀l:List AV,Fz l.length l=some l
 |[]=>rfl
 |a::l=>by simp only[azu,Fz,Cc l]
theorem Src.rows{f:α->List AV}(hf:RowF f q){η:bm}{id v:Nat}{l:List α}(hb:η id=some ⟨v,rF f l,q,Nat.beq l.length 0⟩):Src η [id] (.sl id v 0 l.length) l.length (rF f l):=by
 cases l with
 |nil=>
  intro C hg hη x hx
  obtain⟨e,_,_⟩:=hx.slnil_inv ((hη id (by simp)).trans hb) rfl rfl
  exact .inl ⟨rfl,rfl,none,0,e⟩
 |cons a r=>exact Src.sl hb rfl rfl rfl (by have:=Cc (rF f (a::r));simpa[ij]using this)
theorem FzPL.pure{fp:List Nat}{η:bm}:∀{ls:List AV},bz ls=true->FzPL fp η ls ls
 |[],_=>.nil
 |a::r,h=>by rw[bz,az8]at h;exact .cons (FzP.pure h.1) (FzPL.pure h.2)
section
variable{P:Program}{τ:Nat->AV}{η:bm}{d:Option Tmp}{ty:TypeId}{pos:String}{af:Array Edge}{g:Option (Nat×Bool)}{α:Type}{f:α->List AV}{q:Nat}
theorem sk{f:FuncId}{ys:List AV}(hb:cw P f=true)(h4:aev τ g0=.clo f caps)(h5:xs.toList.map (aev τ)++caps=ys)(hp:bz ys=true)(hc:qe P f ys ret):
 LOp P ⟨d,.call {callee:=.value g0,args:=xs,argTypes:=ats},ty,pos,af,g⟩ τ η [] [] ret:=by
 have hf:FzPL [] η ys ys:=FzPL.pure hp
 refine LOp.of_call hc fun C a hg h3 hη=>?_
 have h0:=h3 g0 (by simp[Op.operands,Call.operands])
 rw[h4]at h0
 obtain⟨vs,hv,hl,hi⟩:=h0.clo_inv
 refine⟨xs.map a.eval++vs,?_,?_⟩
 ·subst h5
  refine⟨by simp[hl],fun i h h'=>?_⟩
  have hF:=(hf.at.2 i h h) C hg hη ((xs.map a.eval++vs)[i]) ?_
  ·exact hF.mono (fun b hb=>hb.elim (fun h=>h) (fun⟨i,h1,_⟩=>absurd h1 (by simp))) (fun _ _=>rfl)
  ·by_cases h2:i<xs.size
   ·have e1:(xs.toList.map (aev τ)++caps)[i]=aev τ xs[i]:=by
     rw[List.getElem_append_left (by simpa using h2)];simp
    have e2:(xs.map a.eval++vs)[i]=a.eval xs[i]:=by
     rw[Array.getElem_append_left (by simpa using h2)];simp
    rw[e1,e2]
    exact h3 _ (by simp[Op.operands,Call.operands])
   ·have e1:(xs.toList.map (aev τ)++caps)[i]=caps[i-xs.size]'(by simp at h;omega):=by
     rw[List.getElem_append_right (by simpa using h2)];simp
    have e2:(xs.map a.eval++vs)[i]=vs[i-xs.size]'(by simp at h';omega):=by
     rw[Array.getElem_append_right (by simpa using h2)];simp
    rw[e1,e2]
    exact hi _ _ _
 ·have e:(execOp a.eval ⟨d,.call {callee:=.value g0,args:=xs,argTypes:=ats},ty,pos,af,g⟩).run P C.w=(callFunc f (#[]++xs.map a.eval++vs)).run P C.w:=by
   have e0:execOp a.eval ⟨d,.call {callee:=.value g0,args:=xs,argTypes:=ats},ty,pos,af,g⟩=(do let dd<-Deferred.ofValue (a.eval g0) (xs.map a.eval);invoke dd.target dd.args):=rfl
   rw[e0,hv]
   rfl
  rw[e,fu hb]
  simp
theorem nr{v':AV}(h:LOp P o τ η fp [] v)(hf:∀η',FzP [] η' v v'):LOp P o τ η fp [] v':=by intro C a hg h0 h6 hn K Q hK;exact h C a hg h0 h6 hn K Q fun x C' h1 h2 h3 h4 h5=>hK x C' h1 h2 h3 h4 (.imm ((hf C'.η C' h3 (fun _ h=>absurd h (by simp)) x h5).mono (fun b hb=>hb.elim (fun h=>h) (fun⟨i,hi,_⟩=>absurd hi (by simp))) (fun _ _=>rfl)))
theorem cm{v':AV}(h:LOp P o τ η [] [(u,some b)] v)(hf:∀η':bm,η' u=some b->FzP [u] η' v v'):LOp P o τ η [] [(u,none)] v':=by
 intro C a hg ha hc hn K Q hK;refine h C a hg ha hc (fun p hp hq=>by rw[azc]at hp;subst hp;exact hn (u,none) (by simp) hq) K Q fun x C1 h1 h2 h3 h4 h5=>?_;have hd:C1.η u=some b:=by rw[h1];exact aw _ _ _
 let C':Ctx:={C1 with η:=C.η.put [(u,none)],T:=fun k=>C1.T k\/C1.mineOf [u] k}
 have h6:∀{i b'},C'.η i=some b'->C1.η i=some b'/\i≠u:=by
  intro i b' hb;have hb:(C.η.set u none) i=some b':=hb
  by_cases e:i=u;subst e;rw[aw]at hb;cases hb;refine⟨?_,e⟩;rw[h1];show(C.η.set u (some b)) i=some b'
  rw[az _ _ e]at hb ⊢;exact hb
 have h8:∀{a:AV} {x:Value},VR C1 a x->VR C' a x:=fun hv=>VR.shift (C:=C1) (C':=C') rfl rfl rfl rfl (fun b hb=>.inl hb) h3.used (fun id b' hb=>⟨b',(h6 hb).1,rfl,rfl,rfl,rfl⟩) hv;have h0:∀{i},C'.live i->C1.live i/\i≠u:=by rintro i ⟨b',h7,hk⟩;exact⟨⟨b',(h6 h7).1,hk⟩,(h6 h7).2⟩
 have he:Good C':=by
  refine⟨fun h=>h3.used (h6 h).1,by intro i b' h7 hk;obtain⟨o,g1,g2⟩:=h3.obj (h6 h7).1 hk;exact⟨o,g1,ObjR.shift h8 g2⟩,by intro i b' h7 hh;obtain⟨c,t,g1,g2,g3,g4⟩:=h3.blk (h6 h7).1 hh;exact⟨c,t,g1,g2,g3,fun j hj hl=>h8 (g4 j hj hl)⟩,fun hi hj e=>h3.inj (h0 hi).1 (h0 hj).1 e,?_,?_,fun h hv hn=>h3.tight (h6 h).1 hv hn⟩;refine h3.tokT (fun _ h=>.inl h) ?_;rintro k (hk|hk);exact h3.tlt hk;exact fv h3 (bt hk);rintro k ⟨i,hl',hk⟩ (hT|⟨i',h9,hl'',e⟩);exact h3.apart ⟨i,(h0 hl').1,hk⟩ hT;have e2:i'=i:=h3.inj hl'' (h0 hl').1 (e.trans hk.symm)
  rw[azc]at h9;exact(h0 hl').2 (e2▸h9)
 have hm:Ev C C':=⟨⟨h4.os,h4.tape,h4.output,h4.size,h4.keep,fun k ⟨i,q1,q2⟩=>h4.mine k ⟨i,(h0 q1).1,q2⟩,fun k h=>.inl (h4.T k h),fun k h=>h.elim (fun h=>h4.Tnew k h) (fun h=>.inr (h4.mine k (bt h)))⟩,h4.U,fun id b' hU hb=>h4.old id b' hU (h6 hb).1⟩;exact hK x C' rfl (fun id=>by rw[show C'.U=C1.U from rfl,h2];simp) he hm (.imm (hf C1.η hd C1 h3 (fun _ _=>rfl) x h5))
theorem Id(hf:RowF f q){by_:Nat}{s:Operand}{id id2 v2:Nat}{l l':List α}(ht:P.underlying t=some (.slice e))(hs:aj P e=some q)(hz:bp P e=some z)(h2:(P.info? e).map (·.bytes)=some by_)(h3:z.cells.size=q)
 (hx:aev τ s=.sl id ver 0 l.length)(hb:η id=some ⟨ver,rF f l,q,false⟩)(hy:aev τ x=.sl id2 v2 0 l'.length)(h4:η id2=some ⟨v2,rF f l',q,Nat.beq l'.length 0⟩)(h1:(l.length+l'.length)*by_<=140737488355328)(h0:l.length+l'.length<=140737488355328)(h5:ver+1≠TV):
 LOp P ⟨d,.call {callee:=.builtin .append,args:=#[s,x],argTypes:=#[t,t]},ty,pos,af,g⟩ τ η [id,id2] [(id,some ⟨ver+1,rF f (l++l'),q,false⟩)] (.sl id (ver+1) 0 (l++l').length):=by
 have:=LOp.append (d:=d) (ty:=ty) (pos:=pos) (af:=af) (g:=g) (m:=l'.length) (news:=rF f l') ht hs hz h2 h3 hx hb rfl rfl rfl (Nat.le_of_eq (mf hf l).symm) (by rw[hy];exact Src.rows hf h4) (mf hf l') (Lu hf l') h1 h0 h5
 rw[<-azb,<-mf hf l,List.take_length,<-Ch]at this
 exact this
theorem Ko(hf:RowF f q){by_:Nat}{s:Operand}{id:Nat}{l:List α}{a:α}{news:List AV}(ht:P.underlying t=some (.slice e))(hs:aj P e=some q)(hz:bp P e=some z)(h4:(P.info? e).map (·.bytes)=some by_)(h5:z.cells.size=q)
 (hx:aev τ s=.sl id ver 0 l.length)(hb:η id=some ⟨ver,rF f l,q,false⟩)(h2:Src η fp (aev τ x) 1 news)(h0:news=f a)(h3:(l.length+1)*by_<=140737488355328)(h1:l.length+1<=140737488355328)(h6:ver+1≠TV):
 LOp P ⟨d,.call {callee:=.builtin .append,args:=#[s,x],argTypes:=#[t,t]},ty,pos,af,g⟩ τ η (id::fp) [(id,some ⟨ver+1,rF f (l++[a]),q,false⟩)] (.sl id (ver+1) 0 (l++[a]).length):=by
 subst h0
 have:=LOp.append (d:=d) (ty:=ty) (pos:=pos) (af:=af) (g:=g) (m:=1) (news:=f a) ht hs hz h4 h5 hx hb rfl rfl rfl (Nat.le_of_eq (mf hf l).symm) h2 (by rw[Nat.one_mul];exact hf.len a) (hf.one a) h3 h1 h6
 rw[<-mf hf l,List.take_length,<-R0]at this
 simpa using this
end
section
variable{A B:Prop}
theorem cE{b:Int}(ht:a=b->A)(hf:¬a=b->B):SpI (a==b) A B:=⟨fun h=>ht (beq_iff_eq.1 h),fun h=>hf (fun e=>by rw[e,beq_self_eq_true]at h;cases h)⟩
theorem cN{b:Int}(ht:¬a=b->A)(hf:a=b->B):SpI (a !=b) A B:=⟨fun h=>ht (fun e=>by rw[e,bne_self_eq_false]at h;cases h),fun h=>hf (by simpa using h)⟩
theorem cD{p:Prop}[Decidable p](ht:p->A)(hf:¬p->B):SpI (decide p) A B:=⟨fun h=>ht (azi h),fun h=>hf (azh h)⟩
theorem cL{m:Nat}(ht:m<n->A)(hf:¬m<n->B):SpI (decide (((m:Nat):Int)<((n:Nat):Int))) A B:=⟨fun h=>ht (Int.ofNat_lt.1 (azi h)),fun h=>hf (fun e=>azh h (Int.ofNat_lt.2 e))⟩
theorem bF{p:Prop}:∃b:Bool,AV.v (.bool false)=.v (.bool b)/\(b=true->p):=⟨_,rfl,fun h=>absurd h az7⟩
end
section
variable{P:Program}{X:Inf}{N:Nat}{cu st:List Nat}
theorem rV(hr:fn.results=#[.tmp t])(hp:(s.τ t).pureB=true)(h:R (s.τ t)):((Exit.ret:Exit)=.normal\/(Exit.ret:Exit)=.ret)/\∃ret,P8 P N fn s ret/\R ret:=⟨.inr rfl,_,oV hr rfl hp rfl,h⟩
theorem LpG.on(S:α->St)(M:α->Nat)(J:α->Prop)(a:α)(hc:Canon s (S a))(h0:J a)(hI:∀k,J k->vc P X N cu st c (andThen (fun s'=>∃k',M k'<M k/\Canon s' (S k')/\J k') Q) (S k)):LpG P X N cu st c Q s:=
 ⟨fun hX hd=>Xx (fun m s1=>∃k,m=M k/\s1=S k/\J k) hc ⟨a,rfl,rfl,h0⟩ fun n s hi=>by
  obtain⟨k,rfl,rfl,hj⟩:=hi;refine EWP.mono (N1 hX c _ _ hd (hI k hj)) fun e s' h=>?_;cases e with
  |normal=>
   obtain⟨k',h1,h2,h3⟩:=h
   exact⟨_,_,h1,h2,k',rfl,rfl,h3⟩
  |_=>exact h⟩
end
section
variable{P:Program}{τ:Nat->AV}{η:bm}{d:Option Tmp}{ty:TypeId}{pos:String}{af:Array Edge}{g:Option (Nat×Bool)}
theorem De{r:AV}(m:List (Nat×Nat))(h8:cw P f=true)(hc:jy P f args hb hb' ret)
 (h9:aev τ g0=.clo f caps)
 (hm:m.map (·.1)=hb'.map (·.1))(h1:q9 (m.map (·.1))=true)(h2:q9 (m.map (·.2))=true)(h5:hb.all (fun p=>Nat.ble TOP p.1&&(m.map (·.1)).contains p.1)=true)
 (hη:Ki (fun p=>η (gOf m p.1)=some (p.2.ren (gOf m))) hb)(ha:Ki (fun p=>Gm (hb.map (·.1)) p.2) hb)(h6:Ki (fun p=>okO (m.map (·.1)) p.2) hb')(h3:inL (hb.map (·.1)) args=true)(h7:ret.inB (m.map (·.1))=true)
 (hd:xs.toList.map (aev τ)++caps=wl (gOf m) args)(he:(hb.map fun p=>gOf m p.1)=fp)(hδ:ju m hb'=δ)(hr:ret.ren (gOf m)=r):
 LOp P ⟨d,.call {callee:=.value g0,args:=xs,argTypes:=ats},ty,pos,af,g⟩ τ η fp δ r:=by
 subst he hδ hr
 refine yc m hc hm h1 h2 h5 hη ha h6 h3 h7 fun C a hg hx=>?_
 have h0:=hx g0 (by simp[Op.operands,Call.operands])
 rw[h9]at h0
 obtain⟨vs,hv,hl,hi⟩:=h0.clo_inv
 refine⟨xs.map a.eval++vs,?_,?_⟩
 ·rw[<-hd]
  refine⟨by simp[hl],fun i h h'=>?_⟩
  by_cases h4:i<xs.size
  ·have e1:(xs.toList.map (aev τ)++caps)[i]=aev τ xs[i]:=by
    rw[List.getElem_append_left (by simpa using h4)];simp
   have e2:(xs.map a.eval++vs)[i]=a.eval xs[i]:=by
    rw[Array.getElem_append_left (by simpa using h4)];simp
   rw[e1,e2]
   exact hx _ (by simp[Op.operands,Call.operands])
  ·have e1:(xs.toList.map (aev τ)++caps)[i]=caps[i-xs.size]'(by simp at h;omega):=by
    rw[List.getElem_append_right (by simpa using h4)];simp
   have e2:(xs.map a.eval++vs)[i]=vs[i-xs.size]'(by simp at h';omega):=by
    rw[Array.getElem_append_right (by simpa using h4)];simp
   rw[e1,e2]
   exact hi _ _ _
 ·have e:(execOp a.eval ⟨d,.call {callee:=.value g0,args:=xs,argTypes:=ats},ty,pos,af,g⟩).run P C.w=(callFunc f (#[]++xs.map a.eval++vs)).run P C.w:=by
   have e0:execOp a.eval ⟨d,.call {callee:=.value g0,args:=xs,argTypes:=ats},ty,pos,af,g⟩=(do let dd<-Deferred.ofValue (a.eval g0) (xs.map a.eval);invoke dd.target dd.args):=rfl
   rw[e0,hv]
   rfl
  rw[e,fu h8]
  simp
end
section
variable{P:Program}{τ:Nat->AV}{η:bm}{d:Option Tmp}{ty:TypeId}{pos:String}{af:Array Edge}{g:Option (Nat×Bool)}
theorem jb{b:Int}(hx:aev τ x=.v (.int .i64 a))(hy:aev τ y=.v (.int .i64 b)):
 LOp P ⟨d,.call {callee:=.builtin .min,args:=#[x,y],argTypes:=ats},ty,pos,af,g⟩ τ η [] [] (.v (.int .i64 (min a b))):=
 .look [] fun C a hg h0 _=>by have h1:=h0 x (by simp[Op.operands,Call.operands]);have h2:=h0 y (by simp[Op.operands,Call.operands]);rw[hx]at h1;rw[hy]at h2;have e1:=h1.v_inv;have e2:=h2.v_inv;refine⟨_,?_,VR.v C _⟩;simp[execOp,e1,e2,resolve,invoke,builtin,Lib.run_min_ints]
theorem ld{b:Int}(hx:aev τ x=.v (.int .i64 a))(hy:aev τ y=.v (.int .i64 b)):
 LOp P ⟨d,.call {callee:=.builtin .max,args:=#[x,y],argTypes:=ats},ty,pos,af,g⟩ τ η [] [] (.v (.int .i64 (max a b))):=
 .look [] fun C a hg h0 _=>by have h1:=h0 x (by simp[Op.operands,Call.operands]);have h2:=h0 y (by simp[Op.operands,Call.operands]);rw[hx]at h1;rw[hy]at h2;have e1:=h1.v_inv;have e2:=h2.v_inv;refine⟨_,?_,VR.v C _⟩;simp[execOp,e1,e2,resolve,invoke,builtin,Lib.run_max_ints]
theorem Xk{caps:Array Operand}(h:caps.toList.map (aev τ)=cs):LOp P ⟨d,.makeFunc (.func f) #[] caps,ty,pos,af,g⟩ τ η [] [] (.clo f cs):=by subst h;exact LOp.makeFunc
end
theorem Rm{t e:TypeId}(hu:P.underlying t=some (.slice e))(n:Nat)(w:World):(Op.equalIn (n+1) t (.slice none 0 0) (.slice none 0 0)).run P w=.ok true w:=by simp only[Op.equalIn,Sem.run_bind,run_underlying hu,azq,azr,Option.isNone_none]
theorem N8{t e:TypeId}(hu:P.underlying t=some (.slice e))(w:World):(Op.equal t (.slice none 0 0) (.slice none 0 0)).run P w=.ok true w:=Rm hu 9999 w
section
variable{P:Program}{τ:Nat->AV}{η:bm}{d:Option Tmp}{ty:TypeId}{pos:String}{af:Array Edge}{g:Option (Nat×Bool)}
theorem Rl{t e:TypeId}{ad:Addr}{l c:Nat}(hu:P.underlying t=some (.slice e))(n:Nat)(w:World):(Op.equalIn (n+1) t (.slice (some ad) l c) (.slice none 0 0)).run P w=.ok false w:=by
 simp only[Op.equalIn,Sem.run_bind,run_underlying hu,azq,azr]
theorem Pq{rows:List (List AV)}(hx:aev τ x=.tree n rows)(hy:aev τ y=.v (.slice none 0 0))(hu:P.underlying t=some (.slice e))(hr:0<rows.length):
 LOp P ⟨d,.binOp .neq t x y t',ty,pos,af,g⟩ τ η [] [] (.v (.bool true)):=
 .look [] fun C a _ h0 _=>by
  have e1:=h0 x (by simp[Op.operands])
  have e2:=h0 y (by simp[Op.operands])
  rw[hx]at e1
  rw[hy]at e2
  have e1:=e1.tree_inv
  generalize hq:a.eval x=q at e1
  cases e1 with
  |tree0=>cases hr
  |tree cell hT q1 q2 q3 q4 q5 q6=>
   refine⟨.bool true,?_,VR.v C _⟩
   have h2:∀v,eqGuard .neq t x y (.slice (some v) rows.length ‹_›) (.slice none 0 0)=pure ():=fun _=>rfl
   have h:∀v,binOp .neq t (.slice (some v) rows.length ‹_›) (.slice none 0 0)=(do pure (.bool (!(<-Op.equal t (.slice (some v) rows.length ‹_›) (.slice none 0 0)))):Sem Value):=fun _=>rfl
   simp only[execOp,hq,e2.v_inv,h2,h,Sem.run_bind,azr,azq,show∀v c,(Op.equal t (.slice (some v) rows.length c) (.slice none 0 0)).run P C.w=.ok false C.w from fun v c=>Rl hu 9999 _,Bool.not_false]
theorem Pr(hx:aev τ x=.v (.slice none 0 0))(hy:aev τ y=.v (.slice none 0 0))(hu:P.underlying t=some (.slice e)):
 LOp P ⟨d,.binOp .neq t x y t',ty,pos,af,g⟩ τ η [] [] (.v (.bool false)):=
 .look [] fun C a _ h0 _=>by have e1:=h0 x (by simp[Op.operands]);have e2:=h0 y (by simp[Op.operands]);rw[hx]at e1;rw[hy]at e2;refine⟨.bool false,?_,VR.v C _⟩;have h:(binOp .neq t (.slice none 0 0) (.slice none 0 0)).run P C.w=.ok (.bool false) C.w:=(by show((do pure (.bool (!(<-Op.equal t (.slice none 0 0) (.slice none 0 0)))):Sem Value)).run P C.w=_;simp only[Sem.run_bind,N8 hu,azq,azr,Bool.not_true]);have h2:(eqGuard .neq t x y (.slice none 0 0) (.slice none 0 0))=pure ():=rfl;simp only[execOp,e1.v_inv,e2.v_inv,h2,Sem.run_bind,azr,azq,h]
theorem er{len o id:Nat}(hu:P.underlying t=some (.array len e))(hs:aj P e=some n)(hx:aev τ x=.ptr id ver o)(hi:aev τ i=.v (.int k (Int.ofNat j)))(hj:Nat.blt j len=true)(hb:η id=some b)(hv:b.ver=ver)(hn:b.nilp=false):
 LOp P ⟨d,.indexAddr t x i,ty,pos,af,g⟩ τ η [id] [] (.ptr id ver (o+j*n)):=
 G7 (u:=0) (r:=⟨[id],[],.ptr id ver (o+j*n),0⟩) (by unfold A2;rw[hu];simp only[hs,hi,hx,hj,cond_true,xb,hb,hv,hn,Nat.beq_refl,Bool.not_false,Bool.and_true,cond_true])
theorem ug{kt et id z clock:Nat}{n:Int}{z0:Value}{es:List (Value×AV×Nat)}(ht:P.underlying t=some (.map kt et))(hk:P.underlying kt=some (.int .i64))(hz:bp P et=some z0)(hm:aev τ x=.mp id ver)(h0:aev τ i=.v (.int .i64 n))(hb:η id=some (cj ver z clock es))
 (h:∀e∈es,∃q,e.1=.int .i64 q/\q≠n):LOp P ⟨d,.lookup t x i false,ty,pos,af,g⟩ τ η [id] [] (.v z0):=by
 refine Ml (u:=0) (r:=⟨[id],[],.v z0,0⟩) ?_
 unfold Zq
 rw[ht]
 simp only[h0,hz,hm,rb hb,Cy hk h]
 rfl
end
section
variable{P:Program}{τ:Nat->AV}{η:bm}{d:Option Tmp}{ty:TypeId}{pos:String}{af:Array Edge}{g:Option (Nat×Bool)}
theorem abx{n:Int}(hx:aev τ x=.v (.int .u64 m))(hy:aev τ y=.v (.int .u64 n))(h1:0<=m+n)(h2:m+n<=18446744073709551615):
 LOp P ⟨d,.binOp .add t x y t',ty,pos,af,g⟩ τ η [] [] (.v (.int .u64 (m+n))):=
 .look [] fun C a _ h0 _=>by have e1:=h0 x (by simp[Op.operands]);have e2:=h0 y (by simp[Op.operands]);rw[hx]at e1;rw[hy]at e2;refine⟨.int .u64 (m+n),?_,VR.v C _⟩;rw[<-Go.IntWalk.u64_in (m+n) ⟨h1,h2⟩];simp only[execOp,e1.v_inv,e2.v_inv];rfl
theorem abr{n:Int}(hx:aev τ x=.v (.int .u64 m))(hy:aev τ y=.v (.int .u64 n))(h1:0<=m)(h2:m<=18446744073709551615)(h3:1<=n):
 LOp P ⟨d,.binOp .quo t x y t',ty,pos,af,g⟩ τ η [] [] (.v (.int .u64 (m/n))):=
 .look [] fun C a _ h4 _=>by have e1:=h4 x (by simp[Op.operands]);have e2:=h4 y (by simp[Op.operands]);rw[hx]at e1;rw[hy]at e2;refine⟨.int .u64 (m/n),?_,VR.v C _⟩;rw[<-Go.IntWalk.u64_quo m n ⟨h1,h2,h3⟩];have h0:¬(n=0):=(by omega);simp only[execOp,e1.v_inv,e2.v_inv];simp[binOp,Op.intArith,Op.intDiv,eqGuard,h0,Sem.run_bind]
theorem Nt(hs:P.underlying t=some td)(hd:P.underlying t'=some (.int .u64))(hx:aev τ x=.v (.int k m))(h1:0<=m)(h2:m<=18446744073709551615):
 LOp P ⟨d,.convert t t' x,ty,pos,af,g⟩ τ η [] [] (.v (.int .u64 m)):=
 .look [] fun C a _ h0 _=>by have e1:=h0 x (by simp[Op.operands]);rw[hx]at e1;refine⟨.int .u64 m,?_,VR.v C _⟩;simp[execOp,e1.v_inv,convert,run_underlying hs,run_underlying hd,Conv.intToInt,Go.IntWalk.u64_in m ⟨h1,h2⟩]
theorem abw(hs:P.underlying t=some td)(hd:P.underlying t'=some (.int .u64))(hx:aev τ x=.v (.int k m)):
 LOp P ⟨d,.convert t t' x,ty,pos,af,g⟩ τ η [] [] (.v (.int .u64 (IntKind.u64.wrap m))):=
 .look [] fun C a _ h0 _=>by have e1:=h0 x (by simp[Op.operands]);rw[hx]at e1;refine⟨.int .u64 (IntKind.u64.wrap m),?_,VR.v C _⟩;simp[execOp,e1.v_inv,convert,run_underlying hs,run_underlying hd,Conv.intToInt]
theorem abt{n:Int}(hx:aev τ x=.v (.int .u64 m))(h:IntKind.u64.wrap (-m)=n):
 LOp P ⟨d,.unOp .neg t x,ty,pos,af,g⟩ τ η [] [] (.v (.int .u64 n)):=
 .look [] fun C a _ h0 _=>by have e1:=h0 x (by simp[Op.operands]);rw[hx]at e1;refine⟨.int .u64 n,?_,VR.v C _⟩;simp only[execOp,e1.v_inv];simp[Op.unary,Op.intArith,h]
theorem ah4(h1:-9223372036854775808<=m)(h2:m<0):IntKind.u64.wrap (-(IntKind.u64.wrap m))=-m:=by rw[IntKind.wrap_u64,IntKind.wrap_u64];omega
end
theorem Xf(hf:P.funcs[f]? =some fn)(h0:(fn.name== "runtime.NumGoroutine")=false)(hb:fn.body.isNone=true)(hn:Extern.findNext fn=none)(he:Extern.find fn=some add64Entry){x y:Int}(hx:0<=x)(hy:0<=y)(w:World):
 (callFunc f #[.int .u64 x,.int .u64 y,.int .u64 0]).run P w=.ok (.value (.tuple #[.int .u64 ((x+y)%18446744073709551616),.int .u64 ((x+y)/18446744073709551616)])) w:=by
 rw[run_callFunc_extern hf h0 hb hn he,run_add64 x y 0 hx hy (by decide) (by decide),Int.add_zero]
 rfl
theorem Xp{η:bm}{z:Operand}{b:Int}
 (hr:∀{x y:Int},0<=x->0<=y->∀w:World,(callFunc f #[.int .u64 x,.int .u64 y,.int .u64 0]).run P w=.ok (.value (.tuple #[.int .u64 ((x+y)%18446744073709551616),.int .u64 ((x+y)/18446744073709551616)])) w)
 (hx:aev τ x=.v (.int .u64 a))(hy:aev τ y=.v (.int .u64 b))(hz:aev τ z=.v (.int .u64 0))(ha:0<=a)(hb:0<=b):
 LOp P ⟨d,.call {callee:=.value (.func f),args:=#[x,y,z],argTypes:=ats},ty,pos,af,g⟩ τ η [] [] (.tup [.v (.int .u64 ((a+b)%18446744073709551616)),.v (.int .u64 ((a+b)/18446744073709551616))]):=
 .look [] fun C ac _ h0 _=>by
  have e1:=h0 x (by simp[Op.operands,Call.operands]);have e2:=h0 y (by simp[Op.operands,Call.operands])
  have e3:=h0 z (by simp[Op.operands,Call.operands]);rw[hx]at e1;rw[hy]at e2;rw[hz]at e3;refine⟨.tuple #[.int .u64 ((a+b)%18446744073709551616),.int .u64 ((a+b)/18446744073709551616)],by have e0:execOp ac.eval ⟨d,.call {callee:=.value (.func f),args:=#[x,y,z],argTypes:=ats},ty,pos,af,g⟩=callFunc f (#[]++#[x,y,z].map ac.eval++#[]):=rfl;have e4:(#[]++#[x,y,z].map ac.eval++#[]:Array Value)=#[.int .u64 a,.int .u64 b,.int .u64 0]:=(by simp[e1.v_inv,e2.v_inv,e3.v_inv]);rw[e0,e4];exact hr ha hb C.w,?_⟩
  exact .imm (.tup rfl fun i h h'=>by
   have:i=0\/i=1:=by simp at h;omega
   rcases this with rfl|rfl;exact .v _;exact .v _)
section
variable{α:Type}{f:α->List AV}{q:Nat}{l:List α}{k o:Nat}
theorem ag1(hf:RowF f q)(h:k<l.length):(rF f l).drop (k*q)=f l[k]++rF f (l.drop (k+1)):=by rw[ang (f:=f) h];have h1:(rF f (l.take k)).length=k*q:=acw hf h;rw[List.drop_append,<-h1];simp
theorem anf(hf:RowF f q)(h:k<l.length):((rF f l).drop (k*q)).take q=f l[k]:=by rw[ag1 hf h,List.take_append_of_le_length (by rw[hf.len];exact azm _),az0 (by rw[hf.len];exact azm _)]
theorem mulS(h:k<n):k*q+q<=n*q:=by rw[<-Nat.succ_mul];exact Nat.mul_le_mul_right _ h
theorem Dr(hf:RowF f q)(h:k<l.length){v:α}(ho:o+vs.length<=q)(hv:bn (f l[k]) o vs=f v):bn (rF f l) (k*q+o) vs=rF f (l.set k v):=by have e:l.set k v=l.take k++(v::l.drop (k+1)):=List.set_eq_take_append_cons_drop.trans (azg h);have h1:(rF f (l.take k)).length=k*q:=acw hf h;have h3:(f l[k]).length=q:=hf.len _;rw[e,Ch,ly,<-hv,ang (f:=f) h];unfold bn;rw[<-h1];simp only[List.take_append,List.drop_append,List.append_assoc];have e1:(rF f (l.take k)).length+o-(rF f (l.take k)).length=o:=(by omega);have e2:(rF f (l.take k)).length+o+vs.length-(rF f (l.take k)).length=o+vs.length:=(by omega);rw[e1,e2,az0 (i:=(rF f (l.take k)).length+o) (by omega),List.drop_of_length_le (i:=(rF f (l.take k)).length+o+vs.length) (by omega),show o-(f l[k]).length=0 by omega,show o+vs.length-(f l[k]).length=0 by omega];simp
end
section
variable{P:Program}{τ:Nat->AV}{η:bm}{d:Option Tmp}{ty:TypeId}{pos:String}{af:Array Edge}{g:Option (Nat×Bool)}{α:Type}{f:α->List AV}{q:Nat}{L:List α}{k o:Nat}
theorem dy(hf:RowF f q){id:Nat}{v:Int}(he:P.underlying t=some (.slice e))(hs:aj P e=some q)(hx:aev τ x=.sl id ver 0 n)(hi:aev τ y=.v (.int .i64 v))(hv:v=((k:Nat):Int))(hj:k<n)(hb:η id=some ⟨ver,rF f L,q,false⟩):
 LOp P ⟨d,.indexAddr t x y,ty,pos,af,g⟩ τ η [id] [] (.ptr id ver (k*q)):=by
 subst hv
 have:=xm (P:=P) (τ:=τ) (η:=η) (d:=d) (ty:=ty) (pos:=pos) (af:=af) (g:=g) (j:=k) he hs hx hi hj hb rfl rfl rfl
 rwa [Nat.zero_add]at this
theorem uh(hf:RowF f q){id:Nat}(ht:ey P t=some (some q))(hx:aev τ x=.ptr id ver (k*q))(hb:η id=some ⟨ver,rF f L,q,false⟩)(hk:k<L.length):
 LOp P ⟨d,.load t x,ty,pos,af,g⟩ τ η [id] [] (.agg (f L[k])):=by
 have:=Ic (P:=P) (τ:=τ) (η:=η) (d:=d) (ty:=ty) (pos:=pos) (af:=af) (g:=g) (b:=⟨ver,rF f L,q,false⟩) ht hx hb rfl rfl (by show k*q+q<=(rF f L).length;rw[mf hf];exact mulS hk)
 rwa [show((⟨ver,rF f L,q,false⟩:Blk).cs.drop (k*q)).take q=f L[k]from anf hf hk]at this
theorem lu(hf:RowF f q){m:Nat}{id:Nat}{v:α}(hs:aj P t=some m)(hx:aev τ x=.ptr id ver (k*q+o))(hb:η id=some ⟨ver,rF f L,q,false⟩)(h0:(aev τ y).known=true)(hy:(aev τ y).cells=vs)(hm:vs.length=m)(h1:vs.all AV.one=true)(hk:k<L.length)(ho:o+m<=q)(hv:bn (f L[k]) o vs=f v):
 LOp P ⟨d,.store t x y,ty,pos,af,g⟩ τ η [id] [(id,some ⟨ver,rF f (L.set k v),q,false⟩)] (.v undef):=by
 have hl:=mf hf L
 have hS:=mulS (q:=q) hk
 have:=LOp.store (P:=P) (τ:=τ) (η:=η) (d:=d) (ty:=ty) (pos:=pos) (af:=af) (g:=g) (b:=⟨ver,rF f L,q,false⟩) (y:=y) hs hx hb rfl rfl h0 (by rw[hy];exact hm) (by rw[hy];exact h1) (by show k*q+o+m<=(rF f L).length;omega)
 have e:bn (rF f L) (k*q+o) (aev τ y).cells=rF f (L.set k v):=by rw[hy];exact Dr hf hk (by omega) hv
 simp only[e]at this
 exact this
theorem wc(hf:RowF f q){m:Nat}{id:Nat}(hs:aj P t=some m)(hx:aev τ x=.ptr id ver (k*q+o))(hb:η id=some ⟨ver,rF f L,q,false⟩)(hkn:(aev τ y).known=true)(hy:(aev τ y).cells=vs)(hm:vs.length=m)(h1:vs.all AV.one=true)(hk:k<L.length)(ho:o+m<=q)(hv:bn (f L[k]) o vs=f L[k]):
 LOp P ⟨d,.store t x y,ty,pos,af,g⟩ τ η [id] [(id,some ⟨ver,rF f L,q,false⟩)] (.v undef):=by grind[lu,List.set_getElem_self]
end
theorem xn{i v m:Nat}{zs:List AV}{nb:Bool}(h:jy P f args [] [(i,some ⟨v,cs++zs,q,nb⟩)] (.sl i v 0 m))(hi:i<TOP)(hz:nb=true->cs=[]/\zs=[])(hp:bz cs=true):jy P f args [] [(i,some ⟨0,cs,q,nb⟩)] (.sl i 0 0 m):=by
 intro C vals hg hη hU hv
 refine(h C vals hg hη hU hv).mono ?_
 rintro e w' ⟨x,C',rfl,rfl,hη',h7,h5,hc⟩
 have hb:C'.η i=some ⟨v,cs++zs,q,nb⟩:=by rw[hη'];simp[lp]
 let C'':Ctx:={C' with η:=lp [(i,some ⟨0,cs,q,nb⟩)]}
 have one:∀{j b},C''.η j=some b->j=i/\b=⟨0,cs,q,nb⟩:=by
  intro j b h
  by_cases e:j=i
  ·subst e
   have:C''.η j=some ⟨0,cs,q,nb⟩:=by simp[C'',lp]
   rw[this]at h;cases h;exact⟨rfl,rfl⟩
  ·have:C''.η j=none:=by simp[C'',lp,kg e]
   rw[this]at h;cases h
 have hk:(Blk.mk 0 cs q nb).kind=(Blk.mk v (cs++zs) q nb).kind:=by
  cases nb with
  |false=>rfl
  |true=>obtain⟨rfl,rfl⟩:=hz rfl;rfl
 have h0:∀{j},C''.live j->C'.live j:=by
  rintro j ⟨b,h1,h2⟩
  obtain⟨rfl,rfl⟩:=one h1
  exact⟨_,hb,by rw[<-hk];exact h2⟩
 have h6:∀{k},C''.mine k->C'.mine k:=fun⟨j,h1,h2⟩=>⟨j,h0 h1,h2⟩
 have hd:∀{a:AV} {y:Value},a.pureB=true->VR C' a y->VR C'' a y:=fun ha hv=>.imm (hv.pure ha)
 refine⟨x,C'',rfl,rfl,rfl,⟨?_,?_,?_,fun h1 h2=>h7.inj (h0 h1) (h0 h2),h7.tok,fun h=>h7.apart (h6 h),?_⟩,⟨⟨h5.os,h5.tape,h5.output,h5.size,h5.keep,fun k h=>h5.mine k (h6 h),h5.T,h5.Tnew⟩,?_⟩,?_⟩
 ·intro j b h1
  obtain⟨rfl,rfl⟩:=one h1
  exact h7.used hb
 ·intro j b h1 h2
  obtain⟨rfl,rfl⟩:=one h1
  obtain⟨o,g1,g2⟩:=h7.obj hb (by rw[<-hk];exact h2)
  cases nb with
  |false=>cases h2
  |true=>obtain⟨rfl,rfl⟩:=hz rfl;cases h2
 ·intro j b h1 h2
  obtain⟨rfl,rfl⟩:=one h1
  obtain⟨c,t,g1,g2,g3,g4⟩:=h7.blk hb h2
  refine⟨c,t,g1,g2,azp (Nat.add_le_add_left (by simp) _) g3,fun k h8 he=>?_⟩
  have hl:k<(cs++zs).length:=by rw[azb];exact Nat.lt_of_lt_of_le h8 (Nat.le_add_right _ _)
  have g:=g4 k hl he
  rw[List.getElem_append_left h8]at g
  exact hd (n9 hp k h8) g
 ·intro j b h1 h2
  obtain⟨rfl,rfl⟩:=one h1
  have h2:0=TV:=h2
  unfold TV at h2;cases h2
 ·intro j hj hu
  refine⟨(h5.pin j hj hu).1,fun b' h1=>?_⟩
  obtain⟨rfl,_⟩:=one h1
  omega
 ·have h9:C''.η i=some ⟨0,cs,q,nb⟩:=by simp[C'',lp]
  cases nb with
  |false=>
   obtain⟨a,cap,rfl,h1,h2,h3,h4⟩:=hc.sl_inv hb rfl rfl
   rcases h4 with⟨rfl,rfl⟩|⟨rfl,h4⟩
   ·exact .slz h9 rfl rfl
   ·exact .sl h9 rfl rfl h1 h2 h3 h4
  |true=>
   obtain⟨rfl,rfl,_⟩:=hc.slnil_inv hb rfl rfl
   obtain⟨rfl,rfl⟩:=hz rfl
   exact .slnil h9 rfl rfl
def Fa(P:Program)(f:FuncId)(args:List AV)(hb:List (Nat×Blk))(R:AV->List (Nat×Option Blk)->Prop):Prop:=∃ret hb',R ret hb'/\jy P f args hb hb' ret
theorem Fa.of_vc{N:Nat}{R:AV->List (Nat×Option Blk)->Prop}(hX:X.Ok P)(cu st:List Nat)(hf:P.funcs[f]? =some fn)(h0:fn.body=some c)(hN:fn.ntmps=N)(hl:Nat.ble args.length N=true)(hc:nh N c=true)
 (h:vc P X N cu st c (fun e s'=>(e=.normal\/e=.ret)/\∃ret hb',Pn P N fn s' hb' ret/\R ret hb') ⟨lz args,hLz hb,0⟩):Fa P f args hb R:=by
 obtain⟨e,s',⟨he,ret,hb',ho,hR⟩,h2⟩:=N1 hX c _ _ hc h
 refine⟨ret,hb',hR,jy.of_body hf h0 hN (azo hl) (AWP.mono h2 ?_)⟩
 rintro e1 s1 ⟨rfl,rfl⟩
 exact⟨he,ho⟩
theorem Lw:∀{cs vs:List AV},vs.length=cs.length->acz cs vs=some vs
 |[],vs,h=>by have:=az1 h;subst this;rfl
 |c::cs,[],h=>by simp at h
 |c::cs,v::vs,h=>by simp only[acz,Lw (cs:=cs) (vs:=vs) (by simpa using h)]
theorem Gd:∀{o:Nat} {cs vs:List AV},o+vs.length=cs.length->u9 o cs vs=some (cs.take o++vs)
 |0,cs,vs,h=>by have:=Lw (cs:=cs) (vs:=vs) (by omega);simp only[u9,this,List.take_zero,List.nil_append]
 |o+1,[],vs,h=>by simp at h
 |o+1,c::cs,vs,h=>by have:=Gd (o:=o) (cs:=cs) (vs:=vs) (by simp at h;omega);simp only[u9,this,List.take_succ_cons,List.cons_append]
theorem Kt(n:Nat):ov (.int .i64 0) n=(List.replicate n 0).map fun x:Int=>AV.v (.int .i64 x):=by simp only[ov,Builtin.zeroCells];apply List.ext_getElem;simp[Value.cells];intro i h1 h2;simp[Value.cells,Nat.mod_one]
section
variable{P:Program}{τ:Nat->AV}{η:bm}{d:Option Tmp}{ty:TypeId}{pos:String}{af:Array Edge}{g:Option (Nat×Bool)}
theorem D9{id v:Nat}(hb:η id=some b)(hv:b.ver=v)(hn:b.nilp=false):xb η id v=some b:=by unfold xb;rw[hb];simp[hv,hn]
theorem Py{id v i:Nat}{l:List Int}(hu:P.underlying t=some (.slice e))(hz:bp P e=some (.int .i64 0))(hx:aev τ x=.sl id v (0+i*1) n)(hb:η id=some ⟨v,rF iA l,1,false⟩)(hi:i<l.length)(hn:n=l.length-i):
 LOp P ⟨d,.call {callee:=.builtin .clear,args:=#[x],argTypes:=#[t]},ty,pos,af,g⟩ τ η [id] [(id,some ⟨v,rF iA (l.take i++List.replicate n 0),1,false⟩)] (.v (.tuple #[])):=by
 subst hn
 have hR:∀m:List Int,rF iA m=m.map fun x=>.v (.int .i64 x):=fun m=>by
  induction m with
  |nil=>rfl
  |cons a m ih=>rw[ly,ih];rfl
 have h:Nb P τ η 0 x #[t]=some ⟨[id],[(id,some ⟨v,rF iA (l.take i++List.replicate (l.length-i) 0),1,false⟩)],.v (.tuple #[]),0⟩:=by
  unfold Nb
  have e0:(#[t]:Array TypeId)[0]? =some t:=rfl
  have e1:Nat.beq (l.length-i) 0=false:=kg (by omega)
  have e2:(ov (.int .i64 0) (l.length-i)).all AV.one=true:=by rw[Kt];simp[AV.one];exact .inr rfl
  have e3:Nat.beq (ov (.int .i64 0) (l.length-i)).length ((l.length-i)*1)=true:=by rw[Kt];simp
  have e4:u9 (0+i*1) (rF iA l) (ov (.int .i64 0) (l.length-i))=some (rF iA (l.take i++List.replicate (l.length-i) 0)):=by
   rw[Gd (by rw[Kt,hR];simp;omega),Kt,hR,hR,azx,List.map_take]
   simp
  simp only[e0,hu,hz,hx,D9 hb rfl rfl,e1,e2,e3,e4,cond_false,Bool.and_true,cond_true]
  try rfl
 exact V3 h
theorem Xo{id v i:Nat}(hu:P.underlying t=some (.slice e))(hs:aj P e=some 1)(hx:aev τ x=.sl id v 0 n)(hy:aev τ y=.v (.int k w))(hw:w=((i:Nat):Int))(hb:η id=some b)(hv:b.ver=v)(hn:b.nilp=false)(hz:b.esz=1)(hi:i<=n):
 LOp P ⟨d,.slice t x (some y) none none,ty,pos,af,g⟩ τ η [id] [] (.sl id v (0+i*1) (n-i)):=by
 subst hw
 have h:s4 P τ η 0 t x (some y) none=some ⟨[id],[],.sl id v (0+i*1) (n-i),0⟩:=by have h1:Nat.ble i n=true:=Nat.ble_eq_true_of_le hi;have h2:Nat.ble n n=true:=Nat.ble_eq_true_of_le (azm _);have h3:aev τ y=.v (.int k (Int.ofNat i)):=hy;unfold s4;rw[hu];simp only[hs,hx,yj,h3,D9 hb hv hn,h1,h2,hz,Nat.beq_refl,Bool.and_true,cond_true]
 exact uz h
theorem Xj{id v i:Nat}(hu:P.underlying t=some (.slice e))(hs:aj P e=some 1)(hx:aev τ x=.sl id v 0 n)(hy:aev τ y=.v (.int k w))(hw:w=((i:Nat):Int))(hb:η id=some b)(hv:b.ver=v)(hn:b.nilp=false)(hz:b.esz=1)(hi:i<=n):
 LOp P ⟨d,.slice t x none (some y) none,ty,pos,af,g⟩ τ η [id] [] (.sl id v 0 i):=by
 subst hw
 have h:s4 P τ η 0 t x none (some y)=some ⟨[id],[],.sl id v 0 i,0⟩:=by have h0:Nat.ble 0 i=true:=Nat.ble_eq_true_of_le (azk _);have h1:Nat.ble i n=true:=Nat.ble_eq_true_of_le hi;have h3:aev τ y=.v (.int k (Int.ofNat i)):=hy;unfold s4;rw[hu];simp only[hs,hx,yj,h3,D9 hb hv hn,h0,h1,hz,Nat.beq_refl,Bool.and_true,cond_true];simp
 exact uz h
end
abbrev vI(n:Int):AV:=.v (.int .i64 n)
abbrev vB(b:Bool):AV:=.v (.bool b)
def evF(τ:Nat->AV):List (Nat×AV)->List AV
 |[]=>[]
 |p::r=>τ p.1::evF τ r
def snF:List (Nat×AV)->List AV
 |[]=>[]
 |p::r=>p.2::snF r
def lwF(u:Nat):List (Nat×AV)->Bool
 |[]=>true
 |p::r=>p.2.lowB u&&lwF u r
def evH(η:bm):List (Nat×Blk)->List (Option Blk)
 |[]=>[]
 |p::r=>η p.1::evH η r
def snH:List (Nat×Blk)->List (Option Blk)
 |[]=>[]
 |p::r=>some p.2::snH r
def lwH(u:Nat):List (Nat×Blk)->Bool
 |[]=>true
 |p::r=>qo u p.1&&(ss u p.2.cs&&lwH u r)
theorem Ek{τ:Nat->AV}{u:Nat}:∀{fl:List (Nat×AV)},evF τ fl=snF fl->lwF u fl=true->Ju τ u fl
 |[],_,_=>trivial
 |p::r,h,g=>by
  simp only[evF,snF,List.cons.injEq]at h
  simp only[lwF,az8]at g
  exact⟨h.1,g.1,Ek h.2 g.2⟩
theorem Mw{η:bm}{u:Nat}:∀{hl:List (Nat×Blk)},evH η hl=snH hl->lwH u hl=true->yl η u hl
 |[],_,_=>trivial
 |p::r,h,g=>by
  simp only[evH,snH,List.cons.injEq]at h
  simp only[lwH,az8]at g
  exact⟨h.1,g.1,g.2.1,Mw h.2 g.2.2⟩
section
variable{s:St}{fl:List (Nat×AV)}{hl:List (Nat×Blk)}{u:Nat}
theorem cnS(h:(evF s.τ fl,lwF u fl)=(snF fl,true))(h2:yl s.η u hl):Canon s ⟨fL fl,hLz hl,u⟩:=cO (Ek (Prod.mk.inj h).1 (Prod.mk.inj h).2) h2
theorem cnR(h:(evF s.τ fl,lwF u fl,evH s.η hl,lwH u hl)=(snF fl,true,snH hl,true)):Canon s ⟨fL fl,hLz hl,u⟩:=by
 simp only[Prod.mk.injEq]at h
 exact cO (Ek h.1 h.2.1) (Mw h.2.2.1 h.2.2.2)
theorem hpR{η:bm}{p:Nat×Blk}(h:(η p.1,qo u p.1,ss u p.2.cs)=(some p.2,true,true))(g:yl η u hl):yl η u (p::hl):=by
 simp only[Prod.mk.injEq]at h
 exact⟨h.1,h.2.1,h.2.2,g⟩
theorem hpS{η:bm}{p:Nat×Blk}(h1:ss u p.2.cs=true)(h:(η p.1,qo u p.1)=(some p.2,true))(g:yl η u hl):yl η u (p::hl):=by
 simp only[Prod.mk.injEq]at h
 exact⟨h.1,h.2,h1,g⟩
end
section
variable{P:Program}{N:Nat}{fn:Func}{s:St}{R:AV->Prop}{t t2 ty n id v z:Nat}{cs:List AV}{ret:AV}
abbrev atf(P:Program)(N:Nat)(fn:Func)(s:St)(R:AV->Prop):Prop:=((Exit.ret:Exit)=.normal\/(Exit.ret:Exit)=.ret)/\∃ret,P8 P N fn s ret/\R ret
theorem rtA(hr:fn.results=#[.tmp t])(hf:∃fp,FzP fp s.η (s.τ t) ret)(h:R ret):atf P N fn s R:=⟨.inr rfl,_,P8.tmp hr hf,h⟩
theorem rtB(hr:fn.results=#[.tmp t,.tmp t2])(hp:((s.τ t).pureB,(s.τ t2).pureB)=(true,true))(h:R (.tup [s.τ t,s.τ t2])):atf P N fn s R:=
 ⟨.inr rfl,_,dh hr (afe.tmp ⟨[],FzP.pure (Prod.mk.inj hp).1⟩) (afe.tmp ⟨[],FzP.pure (Prod.mk.inj hp).2⟩),h⟩
theorem rtC(hr:fn.results=#[.cell t ty,.tmp t2])(ht:ey P ty=some (some n))(hp:(s.τ t,s.η id,cs.length,(s.τ t2).pureB)=(.ptr id v 0,some ⟨v,cs,z,false⟩,n,true))(hf:∃fp,FzP fp s.η (.agg cs) ret)(h:R (.tup [ret,s.τ t2])):atf P N fn s R:=by
 simp only[Prod.mk.injEq]at hp
 exact⟨.inr rfl,_,dh hr (yb (fn:={fn with results:=#[.cell t ty]}) rfl (P8.cell rfl ht hp.1 hp.2.1 rfl rfl hp.2.2.1 hf)) (afe.tmp ⟨[],FzP.pure hp.2.2.2⟩),h⟩
theorem rtP(hr:fn.results=#[.cell t ty,.tmp t2])(ht:ey P ty=some (some n))(hp:(s.τ t,s.η id,cs.length,(s.τ t2).pureB,(AV.agg cs).pureB)=(.ptr id v 0,some ⟨v,cs,z,false⟩,n,true,true))(h:R (.tup [.agg cs,s.τ t2])):atf P N fn s R:=by
 simp only[Prod.mk.injEq]at hp
 exact rtC hr ht (by rw[hp.1,hp.2.1,hp.2.2.1,hp.2.2.2.1]) ⟨[],FzP.pure hp.2.2.2.2⟩ h
theorem rtK(hr:fn.results=#[.cell t ty])(ht:ey P ty=some (some n))(hp:(s.τ t,s.η id,cs.length)=(.ptr id v 0,some ⟨v,cs,z,false⟩,n))(hf:∃fp,FzP fp s.η (.agg cs) ret)(h:R ret):atf P N fn s R:=by
 simp only[Prod.mk.injEq]at hp
 exact⟨.inr rfl,_,P8.cell hr ht hp.1 hp.2.1 rfl rfl hp.2.2 hf,h⟩
end
theorem nsA{a k:Nat}(h:k<a):a-(k+1)<a-k:=by omega
end Go.Proofs.YtfpfdfhlljjckaaGreatDoor
