/- Texts of the claim. -/
import Derived.Lib.MinMax
import Derived.Lib.Bytealg
import Derived.Laws.Externs
import Derived.Test.YtmbmbhkemgmhfaaGreatDoorQ1
import Derived.Test.YtmbmbhkemgmhfaaGreatDoorE1
import Derived.Test.YtmbmbhkemgmhfaaGreatDoorE2
import Derived.Test.YtmbmbhkemgmhfaaGreatDoorA2
import Derived.Test.YtmbmbhkemgmhfaaGreatDoorE3
namespace Go.Proofs.YtmbmbhkemgmhfaaGreatDoor
set_option linter.unusedVariables false
set_option linter.unusedSimpArgs false
open Go.RowKit
section
variable{P:Program}{τ:Nat->AV}{η:bf}{d:Option Tmp}{ty:TypeId}{pos:String}{af:Array Edge}{g:Option (Nat×Bool)}
theorem cn{α:Type}{t e n:Nat}{x i:Operand}{f:α->List AV}{l:List α}{v:Int}{j:Nat}(he:P.underlying t=some (.slice e))(hs:ap P e=some n)(hx:aev τ x=.tree n (l.map f))(hi:aev τ i=.v (.int .i64 v))(hv:v=((j:Nat):Int))(hj:j<l.length):
 LOp P ⟨d,.indexAddr t x i,ty,pos,af,g⟩ τ η [] [] (.tp (f l[j]) 0):=by
 subst hv
 exact lI he hs hx hi hj
theorem ro{t len e n j o:Nat}{x i:Operand}{cs:List AV}{k:IntKind}(hu:P.underlying t=some (.array len e))(hs:ap P e=some n)(hx:aev τ x=.tp cs o)(hi:aev τ i=.v (.int k (Int.ofNat j)))(hj:Nat.blt j len=true):
 LOp P ⟨d,.indexAddr t x i,ty,pos,af,g⟩ τ η [] [] (.tp cs (o+j*n)):=
 n0 (u:=0) (r:=⟨[],[],.tp cs (o+j*n),0⟩) (by unfold n4;rw[hu];simp only[hs,hi,hx,hj,cond_true])
theorem Jg{t:Nat}{x:Operand}{s:ByteArray}{ats:Array TypeId}(ha:ats[0]? =some t)(hu:P.underlying t=some .string)(hx:aev τ x=.v (.string s)):
 LOp P ⟨d,.call {callee:=.builtin .len,args:=#[x],argTypes:=ats},ty,pos,af,g⟩ τ η [] [] (.v (.int .i64 ((s.size:Nat):Int))):=
 .look [] fun C a hg h0 _=>by
  have h1:=h0 x (by simp[Op.operands,Call.operands])
  rw[hx]at h1
  have e1:=h1.v_inv
  refine⟨_,?_,VR.v C _⟩
  simp[execOp,e1,resolve,invoke,builtin,Builtin.len_,ha,run_underlying hu,goInt]
def bAt(s:ByteArray)(k:Nat):UInt8:=s.data.getD k 0
theorem Hr{s:ByteArray}{k:Nat}(h:k<s.size):s[k]? =some (bAt s k):=by
 have h1:k<s.data.size:=h
 rw[getElem?_pos s k h]
 unfold bAt
 simp[Array.getD,h1]
 rw[dif_pos h]
 rfl
theorem C8{t k:Nat}{x i:Operand}{s:ByteArray}(hu:P.underlying t=some .string)(hx:aev τ x=.v (.string s))(hi:aev τ i=.v (.int .i64 ((k:Nat):Int)))(hk:k<s.size):
 LOp P ⟨d,.index t x i,ty,pos,af,g⟩ τ η [] [] (.v (.int .u8 (((bAt s k).toNat:Nat):Int))):=
 .look [] fun C a hg h3 _=>by
  have h1:=h3 x (by simp[Op.operands])
  have h2:=h3 i (by simp[Op.operands])
  rw[hx]at h1
  rw[hi]at h2
  have e1:=h1.v_inv
  have e2:=h2.v_inv
  refine⟨_,?_,VR.v C _⟩
  simp only[execOp,e1,e2,Instr.index,asIntOf,Sem.run_bind,ahd,ahc,run_underlying hu]
  have h0:(0:Int)<=((k:Nat):Int):=Int.natCast_nonneg k
  simp only[h0,if_true,Int.toNat_natCast,Hr hk,ahd,ahc]
end
theorem dt{b c:Bool}(h:b=c):AV.v (.bool b)=AV.v (.bool c):=by rw[h]
def X9(n:Nat)(p:Nat->Bool):Bool:=(List.range n).all p
theorem rb{n k:Nat}{p:Nat->Bool}(h:k<n)(hp:p k=false):X9 n p=false:=by
 unfold X9
 rw[List.all_eq_false]
 exact⟨k,List.mem_range.2 h,by simp[hp]⟩
theorem Av{n k:Nat}{p:Nat->Bool}(h:k<=n)(h':¬k<n)(hp:∀j,j<k->p j=true):X9 n p=true:=by
 unfold X9
 rw[List.all_eq_true]
 exact fun j hj=>hp j (by have:=List.mem_range.1 hj;omega)
def iA(n:Int):List AV:=[.v (.int .i64 n)]
abbrev isA(l:List Int):AV:=.tree 1 (l.map iA)
theorem En{α:Type}{l:List α}{k:Nat}{d:α}(h:k<l.length):l.getD k d=l[k]:=by simp[List.getD,h]
theorem getD_none{α:Type}{l:List α}{k:Nat}{d:α}(h:¬k<l.length):l.getD k d=d:=by simp[List.getD,List.getElem?_eq_none (Nat.le_of_not_lt h)]
inductive UK where
 |sl (e:Nat)
 |str
 |bool
 |o
def Sa(P:Program)(t:Nat):UK:=match P.underlying t with
 |some (.slice e)=>.sl e
 |some .string=>.str
 |some .bool=>.bool
 |_=>.o
theorem Dv{P:Program}{t e:Nat}(h:Sa P t=.sl e):P.underlying t=some (.slice e):=by unfold Sa at h;split at h<;>first|(cases h;assumption)|cases h
theorem Fy{P:Program}{t:Nat}(h:Sa P t=.str):P.underlying t=some .string:=by unfold Sa at h;split at h<;>first|(cases h;assumption)|cases h
theorem Bd{P:Program}{t:Nat}(h:Sa P t=.bool):P.underlying t=some .bool:=by unfold Sa at h;split at h<;>first|(cases h;assumption)|cases h
structure TI where
 ty:Nat
 und:UK
 row:Option Nat
 size:Nat
 bytes:Nat
 zero:Value
 k:Nat
 pl:List (Nat×Nat)
def fiL(P:Program)(i:TI):List (Option (Nat×Nat)):=match i.k with
 |1=>(List.range i.pl.length).map (cp P i.ty)
 |_=>[]
def plL(P:Program)(i:TI):Option (List (Nat×Nat)):=match i.k with
 |0=>none
 |_=>mi P i.ty
def TI.v1(P:Program)(i:TI):=(Sa P i.ty,c9 P i.ty,ap P i.ty,(P.info? i.ty).map (·.bytes),bi P i.ty,plL P i,fiL P i)
def TI.v2(i:TI):=(i.und,some i.row,some i.size,some i.bytes,some i.zero,(match i.k with|0=>none|_=>some i.pl),(match i.k with|1=>i.pl.map some|_=>[]))
structure TI.Ok(P:Program)(i:TI):Prop where
 und:Sa P i.ty=i.und
 row:c9 P i.ty=some i.row
 size:ap P i.ty=some i.size
 bytes:(P.info? i.ty).map (·.bytes)=some i.bytes
 zero:bi P i.ty=some i.zero
 pl:Nat.beq i.k 0=false->mi P i.ty=some i.pl
 fi:Nat.beq i.k 1=true->∀j f,i.pl[j]? =some f->cp P i.ty j=some f
theorem TI.ok_of{P:Program}{i:TI}(h:i.v1 P=i.v2):i.Ok P:=by
 unfold TI.v1 TI.v2 at h
 simp only[Prod.mk.injEq]at h
 obtain⟨h1,h2,h3,h4,h5,h6,h7⟩:=h
 refine⟨h1,h2,h3,h4,h5,fun hk=>?_,fun hk j f hj=>?_⟩
 ·cases e:i.k with
  |zero=>rw[e]at hk;cases hk
  |succ n=>unfold plL at h6;simp only[e]at h6;exact h6
 ·have e:i.k=1:=agv hk
  unfold fiL at h7
  rw[e]at h7
  obtain⟨h0,hf⟩:=ahn.1 hj
  have:=congrArg (fun l=>l[j]?) h7
  simp only[List.getElem?_map,List.getElem?_range h0,ahp,hj]at this
  exact Option.some.inj this
def pd:List TI->Nat->Option TI
 |[],_=>none
 |i::r,t=>bif Nat.beq i.ty t then some i else pd r t
structure Inf where
 I:List TI
 B:List Nat
structure Inf.Ok(P:Program)(X:Inf):Prop where
 I:∀i∈X.I,i.Ok P
 B:∀f∈X.B,bv P f=true
 m:P.follows .mixedOrders=true
theorem Inf.ok_of{P:Program}{X:Inf}(h1:X.I.map (TI.v1 P)=X.I.map TI.v2)(h2:X.B.all (bv P)=true)(h3:P.follows .mixedOrders=true):X.Ok P:=by refine⟨fun i hi=>TI.ok_of ?_,fun f hf=>List.all_eq_true.1 h2 f hf,h3⟩;obtain⟨j,hj,rfl⟩:=ahe hi;have:=congrArg (fun l=>l[j]?) h1;simpa[hj]using this
theorem ii{P:Program}{X:Inf}(h:X.Ok P){t:Nat}{i:TI}(hl:pd X.I t=some i):i.Ok P/\i.ty=t:=by
 have:∀l:List TI,pd l t=some i->i∈l/\i.ty=t:=by
  intro l
  induction l with
  |nil=>intro h;cases h
  |cons a r ih=>
   intro h
   unfold pd at h
   cases hb:Nat.beq a.ty t with
   |true=>rw[hb]at h;simp only[cond_true,agw]at h;subst h;exact⟨by simp,agv hb⟩
   |false=>rw[hb]at h;simp only[cond_false]at h;exact⟨by simp[(ih h).1],(ih h).2⟩
 exact⟨h.I _ (this _ hl).1,(this _ hl).2⟩
def frc(a:AV)(k:AV->Prop):Prop:=match a with
 |.v x=>k (.v x)
 |.ptr i v o=>k (.ptr i v o)
 |.sl i v o n=>k (.sl i v o n)
 |.tree n xs=>k (.tree n xs)
 |.tp cs o=>k (.tp cs o)
 |.agg cs=>k (.agg cs)
 |.tup cs=>k (.tup cs)
 |.clo f cs=>k (.clo f cs)
 |.unk=>k .unk
 |.mp i v=>k (.mp i v)
 |.it i v=>k (.it i v)
theorem qx{a:AV}{k:AV->Prop}(h:frc a k):k a:=by cases a<;>exact h
def Te:List AV->(List AV->Prop)->Prop
 |[],k=>k []
 |a::r,k=>frc a fun a'=>Te r fun r'=>k (a'::r')
theorem qb:∀{l:List AV} {k:List AV->Prop},Te l k->k l
 |[],_,h=>h
 |a::r,k,h=>qb (k:=fun r'=>k (a::r')) (qx (k:=fun a'=>Te r fun r'=>k (a'::r')) h)
abbrev KT:=List Nat->List (Nat×Option Blk)->AV->Nat->Prop
inductive OpG(P:Program)(o:Oper)(τ:Nat->AV)(η:bf)(u:Nat)(k:KT):Prop
 |mk (fp:List Nat) (δ:List (Nat×Option Blk)) (v:AV) (u':Nat) (hL:LOp P o τ η fp δ v) (hu:Nat.ble u u'=true) (hn:zt fp δ u u'=true) (h:k fp δ v u'):OpG P o τ η u k
inductive IdxG(xs:List (List AV))(j:Nat)(k:AV->Prop):Prop
 |mk (hj:j<xs.length) (h:k (.tp xs[j] 0)):IdxG xs j k
inductive LenG(xs:List (List AV))(k:AV->Prop):Prop
 |mk (h:k (.v (.int .i64 ((xs.length:Nat):Int)))):LenG xs k
theorem IdxG.of{α:Type}{f:α->List AV}{l:List α}{j:Nat}{k:AV->Prop}(hj:j<l.length)(h:k (.tp (f l[j]) 0)):IdxG (l.map f) j k:=by refine .mk (by rw[ag0];exact hj) ?_;rw[List.getElem_map];exact h
theorem LenG.of{α:Type}{f:α->List AV}{l:List α}{k:AV->Prop}(h:k (.v (.int .i64 ((l.length:Nat):Int)))):LenG (l.map f) k:=by refine .mk ?_;rw[ag0];exact h
section
variable{P:Program}{X:Inf}{τ:Nat->AV}{η:bf}{u:Nat}{k:KT}{d:Option Tmp}{ty:TypeId}{pos:String}{af:Array Edge}{g:Option (Nat×Bool)}
theorem OpG.lk{o:Oper}{fp:List Nat}{v:AV}(hL:LOp P o τ η fp [] v)(h:k fp [] v u):OpG P o τ η u k:=.mk fp [] v u hL (by simp[Nat.ble_eq]) rfl h
theorem OpG.nw{o:Oper}{b:Option Blk}{v:AV}(hL:LOp P o τ η [] [(u,b)] v)(ht:Nat.ble (u+1) TOP=true)(h:k [] [(u,b)] v (u+1)):OpG P o τ η u k:=.mk [] _ v (u+1) hL (by simp[Nat.ble_eq]) (By ht) h
theorem OpG.wr{o:Oper}{b:Option Blk}{v:AV}{id:Nat}(hL:LOp P o τ η [id] [(id,b)] v)(ht:si u id=true)(h:k [id] [(id,b)] v u):OpG P o τ η u k:=.mk [id] _ v u hL (by simp[Nat.ble_eq]) (Lh ht) h
theorem dl{b:Bool}{A B:Prop}(h:cond b A B):(b=true/\A)\/(b=false/\B):=by cases b with
 |true=>exact .inl ⟨rfl,h⟩
 |false=>exact .inr ⟨rfl,h⟩
def Vf(P:Program)(o:Oper)(τ:Nat->AV)(η:bf)(u:Nat)(c x y:Operand)(k:KT):Prop:=match aev τ c with
 |.v (.bool t)=>cond t (frc (aev τ x) fun v=>k [] [] v u) (frc (aev τ y) fun v=>k [] [] v u)
 |_=>OpG P o τ η u k
theorem P0{c x y:Operand}(h:Vf P ⟨d,.pick c x y,ty,pos,af,g⟩ τ η u c x y k):OpG P ⟨d,.pick c x y,ty,pos,af,g⟩ τ η u k:=by unfold Vf at h;split at h;rename_i t hc;rcases dl h with⟨e,h'⟩|⟨e,h'⟩;exact .lk (Fh hc e rfl) (qx (k:=fun v=>k [] [] v u) h');exact .lk (Fi hc e rfl) (qx (k:=fun v=>k [] [] v u) h');exact h
def Vy(P:Program)(X:Inf)(o:Oper)(τ:Nat->AV)(η:bf)(u:Nat)(t:Nat)(x:Operand)(k:KT):Prop:=match pd X.I t with
 |none=>OpG P o τ η u k
 |some i=>match aev τ x with
  |.ptr id ver p=>match fw η id ver with
   |none=>OpG P o τ η u k
   |some b=>match i.row with
    |none=>match b.cs[p]? with
     |some v=>frc v fun v=>k [id] [] v u
     |none=>OpG P o τ η u k
    |some n=>match co p n b.cs with
     |some ds=>k [id] [] (.agg ds) u
     |none=>OpG P o τ η u k
  |.tp cs p=>match i.row with
   |none=>match cs[p]? with
    |some v=>frc v fun v=>k [] [] v u
    |none=>OpG P o τ η u k
   |some n=>match co p n cs with
    |some ds=>k [] [] (.agg ds) u
    |none=>OpG P o τ η u k
  |_=>OpG P o τ η u k
theorem Qf(hX:X.Ok P){t:Nat}{x:Operand}(h:Vy P X ⟨d,.load t x,ty,pos,af,g⟩ τ η u t x k):OpG P ⟨d,.load t x,ty,pos,af,g⟩ τ η u k:=by unfold Vy at h;split at h;exact h;rename_i i hi;obtain⟨hI,rfl⟩:=ii hX hi;split at h;rename_i id ver p hx;split at h;exact h;rename_i b hb;obtain⟨h1,h2,h3⟩:=b9 hb;split at h;rename_i hr;split at h;rename_i v hv;exact .lk (lD (hI.row.trans (by rw[hr])) hx h1 h2 h3 hv) (qx h);exact h;rename_i n hr;split at h;rename_i ds hv;exact .lk (Fk (hI.row.trans (by rw[hr])) hx h1 h2 h3 hv) h;exact h;rename_i cs p hx;split at h;rename_i hr;split at h;rename_i v hv;exact .lk (lE (hI.row.trans (by rw[hr])) hx hv) (qx h);exact h;rename_i n hr;split at h;rename_i ds hv;exact .lk (A0 (hI.row.trans (by rw[hr])) hx hv) h;exact h;exact h
def Ep(P:Program)(X:Inf)(o:Oper)(τ:Nat->AV)(η:bf)(u:Nat)(t:Nat)(x:Operand)(j:Nat)(k:KT):Prop:=match pd X.I t with
 |none=>OpG P o τ η u k
 |some i=>bif Nat.beq i.k 1 then match i.pl[j]? with
  |none=>OpG P o τ η u k
  |some (off,sz)=>bif Nat.beq sz 0 then OpG P o τ η u k else match aev τ x with
   |.ptr id ver p=>match fw η id ver with
    |none=>OpG P o τ η u k
    |some b=>k [id] [] (.ptr id ver (p+off)) u
   |.tp cs p=>k [] [] (.tp cs (p+off)) u
   |_=>OpG P o τ η u k
  else OpG P o τ η u k
theorem Iq(hX:X.Ok P){t j:Nat}{x:Operand}(h:Ep P X ⟨d,.fieldAddr t x j,ty,pos,af,g⟩ τ η u t x j k):OpG P ⟨d,.fieldAddr t x j,ty,pos,af,g⟩ τ η u k:=by unfold Ep at h;split at h;exact h;rename_i i hi;obtain⟨hI,rfl⟩:=ii hX hi;rcases dl h with⟨hk,h⟩|⟨hk,h⟩;split at h;exact h;rename_i off sz hp;have hf:=hI.fi hk _ _ hp;rcases dl h with⟨hz,h⟩|⟨hz,h⟩;exact h;split at h;rename_i id ver p hx;split at h;exact h;rename_i b hb;obtain⟨h1,h2,h3⟩:=b9 hb;exact .lk (lF hf hz hx h1 h2 h3) h;rename_i cs p hx;exact .lk (lc hf hz hx) h;exact h;exact h
def Em(P:Program)(X:Inf)(o:Oper)(τ:Nat->AV)(η:bf)(u:Nat)(t:Nat)(x y:Operand)(k:KT):Prop:=match pd X.I t with
 |none=>OpG P o τ η u k
 |some i=>match i.und with
  |.sl e=>match pd X.I e with
   |none=>OpG P o τ η u k
   |some q=>match aev τ x with
    |.tree n xs=>match aev τ y with
     |.v (.int .i64 (.ofNat j))=>bif Nat.beq q.size n then IdxG xs j fun v=>k [] [] v u else OpG P o τ η u k
     |_=>OpG P o τ η u k
    |.sl id ver off len=>match aev τ y with
     |.v (.int .i64 (.ofNat j))=>match fw η id ver with
      |some b=>bif Nat.beq b.esz q.size then j<len/\k [id] [] (.ptr id ver (off+j*q.size)) u else OpG P o τ η u k
      |none=>OpG P o τ η u k
     |_=>OpG P o τ η u k
    |_=>OpG P o τ η u k
  |_=>OpG P o τ η u k
theorem Ii(hX:X.Ok P){t:Nat}{x y:Operand}(h:Em P X ⟨d,.indexAddr t x y,ty,pos,af,g⟩ τ η u t x y k):OpG P ⟨d,.indexAddr t x y,ty,pos,af,g⟩ τ η u k:=by unfold Em at h;split at h;exact h;rename_i i hi;obtain⟨hI,rfl⟩:=ii hX hi;split at h;rename_i e he;have hu:=Dv (hI.und.trans he);split at h;exact h;rename_i q hq;obtain⟨hQ,rfl⟩:=ii hX hq;split at h;rename_i n xs hx;split at h;rename_i j hj;rcases dl h with⟨hz,h'⟩|⟨hz,h⟩;obtain⟨hl,h'⟩:=h';have hn:q.size=n:=agv hz;subst hn;have:=lI (P:=P) (τ:=τ) (η:=η) (d:=d) (ty:=ty) (pos:=pos) (af:=af) (g:=g) (f:=fun r:List AV=>r) (l:=xs) hu hQ.size (by rw[hx];simp) hj hl;exact .lk this h';exact h;exact h;rename_i id ver off len hx;split at h;rename_i j hj;split at h;rename_i b hb;obtain⟨h1,h2,h3⟩:=b9 hb;rcases dl h with⟨hz,h⟩|⟨hz,h⟩;exact .lk (me hu hQ.size hx hj h.1 h1 h2 h3 (agv hz)) h.2;exact h;exact h;exact h;exact h;exact h
def wh(P:Program)(X:Inf)(o:Oper)(τ:Nat->AV)(η:bf)(u:Nat)(t:Nat)(x y:Operand)(k:KT):Prop:=match pd X.I t with
 |none=>OpG P o τ η u k
 |some i=>match i.und with
  |.str=>match aev τ x with
   |.v (.string s)=>match aev τ y with
    |.v (.int .i64 (.ofNat j))=>j<s.size/\k [] [] (.v (.int .u8 ((bAt s j).toNat:Int))) u
    |_=>OpG P o τ η u k
   |_=>OpG P o τ η u k
  |_=>OpG P o τ η u k
theorem Ca(hX:X.Ok P){t:Nat}{x y:Operand}(h:wh P X ⟨d,.index t x y,ty,pos,af,g⟩ τ η u t x y k):OpG P ⟨d,.index t x y,ty,pos,af,g⟩ τ η u k:=by unfold wh at h;split at h;exact h;rename_i i hi;obtain⟨hI,rfl⟩:=ii hX hi;split at h;rename_i he;have hu:=Fy (hI.und.trans he);split at h;rename_i s hx;split at h;rename_i j hj;exact .lk (C8 hu hx hj h.1) h.2;exact h;exact h;exact h
def J9(P:Program)(X:Inf)(o:Oper)(τ:Nat->AV)(η:bf)(u:Nat)(t:Nat)(x y:Operand)(k:KT):Prop:=match pd X.I t with
 |none=>OpG P o τ η u k
 |some i=>match aev τ x with
  |.ptr id ver p=>match η id with
   |some ⟨w,cs,z,np⟩=>bif Nat.beq w ver&&!np&&si u id then match jc (aev τ y)with
    |some vs=>Te vs fun vs=>bif Nat.beq vs.length i.size&&vs.all AV.one then match t6 p cs vs with
     |some ds=>k [id] [(id,some ⟨w,ds,z,np⟩)] (.v undef) u
     |none=>OpG P o τ η u k
     else OpG P o τ η u k
    |none=>OpG P o τ η u k
    else OpG P o τ η u k
   |none=>OpG P o τ η u k
  |_=>OpG P o τ η u k
theorem J8(hX:X.Ok P){t:Nat}{x y:Operand}(h:J9 P X ⟨d,.store t x y,ty,pos,af,g⟩ τ η u t x y k):OpG P ⟨d,.store t x y,ty,pos,af,g⟩ τ η u k:=by unfold J9 at h;split at h;exact h;rename_i i hi;obtain⟨hI,rfl⟩:=ii hX hi;split at h;rename_i id ver p hx;split at h;rename_i w cs z np hb;rcases dl h with⟨hc,h⟩|⟨hc,h⟩;simp only[ahs,Bool.not_eq_true']at hc;split at h;rename_i vs hv;rcases dl (qb h)with⟨hz,h⟩|⟨hz,h⟩;rw[ahs]at hz;split at h;rename_i ds hd;exact .wr (LOp.st hI.size hx hb (agv hc.1.1) hc.1.2 hv (agv hz.1) hz.2 hd) hc.2 h;exact h;exact h;exact h;exact h;exact h;exact h
def Z6(P:Program)(o:Oper)(τ:Nat->AV)(η:bf)(u:Nat)(cs:Option (List AV))(k:KT):Prop:=match cs with
 |some vs=>bif Nat.ble (u+1) TOP then Te vs fun vs=>k [] [(u,some ⟨0,vs,0,false⟩)] (.ptr u 0 0) (u+1)else OpG P o τ η u k
 |none=>OpG P o τ η u k
theorem W9{t:Nat}{x:Operand}(h:Z6 P ⟨d,.box t x,ty,pos,af,g⟩ τ η u (jc (aev τ x)) k):OpG P ⟨d,.box t x,ty,pos,af,g⟩ τ η u k:=by unfold Z6 at h;split at h;rename_i vs hv;rcases dl h with⟨hz,h⟩|⟨hz,h⟩;have h:=qb h;exact .nw (T8 hv) hz h;exact h;exact h
def N6(P:Program)(X:Inf)(o:Oper)(τ:Nat->AV)(η:bf)(u:Nat)(t:Nat)(k:KT):Prop:=match pd X.I t with
 |none=>OpG P o τ η u k
 |some i=>Z6 P o τ η u (jc (.v i.zero)) k
theorem N5(hX:X.Ok P){t:Nat}(h:N6 P X ⟨d,.alloc t,ty,pos,af,g⟩ τ η u t k):OpG P ⟨d,.alloc t,ty,pos,af,g⟩ τ η u k:=by unfold N6 at h;split at h;exact h;rename_i i hi;obtain⟨hI,rfl⟩:=ii hX hi;unfold Z6 at h;split at h;rename_i vs hv;rcases dl h with⟨hz,h⟩|⟨hz,h⟩;have h:=qb h;exact .nw (T9 hI.zero hv) hz h;exact h;exact h
def Nt(P:Program)(X:Inf)(o:Oper)(τ:Nat->AV)(η:bf)(u:Nat)(t:Nat)(parts:Array (Nat×Operand))(k:KT):Prop:=match pd X.I t with
 |none=>OpG P o τ η u k
 |some i=>bif Nat.beq i.k 0 then OpG P o τ η u k else match jc (.v i.zero)with
  |none=>OpG P o τ η u k
  |some cs=>match Aj i.pl cs (lw τ parts)with
   |some out=>Te out fun out=>k [] [] (.agg out) u
   |none=>OpG P o τ η u k
theorem Ns(hX:X.Ok P){t:Nat}{parts:Array (Nat×Operand)}(h:Nt P X ⟨d,.build t parts,ty,pos,af,g⟩ τ η u t parts k):OpG P ⟨d,.build t parts,ty,pos,af,g⟩ τ η u k:=by unfold Nt at h;split at h;exact h;rename_i i hi;obtain⟨hI,rfl⟩:=ii hX hi;rcases dl h with⟨hz,h⟩|⟨hz,h⟩;exact h;split at h;exact h;rename_i cs hc;split at h;rename_i out ho;have h:=qb h;exact .lk (Oq hI.zero (hI.pl hz) hc ho) h;exact h
def Ar(P:Program)(X:Inf)(o:Oper)(τ:Nat->AV)(η:bf)(u:Nat)(t len:Nat)(parts:Array (Nat×Operand))(k:KT):Prop:=match pd X.I t with
 |none=>OpG P o τ η u k
 |some i=>match i.und with
  |.sl e=>match pd X.I e with
   |none=>OpG P o τ η u k
   |some q=>bif Nat.ble (u+1) TOP&&Nat.ble (len*q.size) 16777216&&Nat.ble len 16777216&&!Nat.beq (len*q.size) 0 then match Aj (r6 len q.size) (b6 q.zero (len*q.size)) (lw τ parts)with
    |some out=>Te out fun out=>k [] [(u,some ⟨TV,out,q.size,false⟩)] (.sl u TV 0 len) (u+1)
    |none=>OpG P o τ η u k
    else OpG P o τ η u k
  |_=>OpG P o τ η u k
theorem E7(hX:X.Ok P){t len:Nat}{parts:Array (Nat×Operand)}(h:Ar P X ⟨d,.buildSlice t len parts,ty,pos,af,g⟩ τ η u t len parts k):OpG P ⟨d,.buildSlice t len parts,ty,pos,af,g⟩ τ η u k:=by unfold Ar at h;split at h;exact h;rename_i i hi;obtain⟨hI,rfl⟩:=ii hX hi;split at h;rename_i e he;have hu:=Dv (hI.und.trans he);split at h;exact h;rename_i q hq;obtain⟨hQ,rfl⟩:=ii hX hq;rcases dl h with⟨hc,h⟩|⟨hc,h⟩;simp only[ahs,Bool.not_eq_true']at hc;split at h;rename_i out ho;have h:=qb h;exact .nw (je hu hQ.size hQ.zero hc.1.1.2 hc.1.2 hc.2 ho) hc.1.1.1 h;exact h;exact h;exact h
def aet(P:Program)(o:Oper)(τ:Nat->AV)(η:bf)(u:Nat)(x:Operand)(k:KT):Prop:=match aev τ x with
 |.ptr id ver p=>match fw η id ver with
  |some b=>k [id] [] (.ptr id ver p) u
  |none=>OpG P o τ η u k
 |.tp cs p=>k [] [] (.tp cs p) u
 |_=>OpG P o τ η u k
theorem Vo{x:Operand}(h:aet P ⟨d,.nilCheck x,ty,pos,af,g⟩ τ η u x k):OpG P ⟨d,.nilCheck x,ty,pos,af,g⟩ τ η u k:=by unfold aet at h;split at h;rename_i id ver p hx;split at h;rename_i b hb;obtain⟨h1,h2,h3⟩:=b9 hb;exact .lk (lN hx h1 h2) h;exact h;rename_i cs p hx;exact .lk (rh hx) h;exact h
def Am(P:Program)(o:Oper)(τ:Nat->AV)(η:bf)(u:Nat)(x:Operand)(j:Nat)(k:KT):Prop:=match aev τ x with
 |.tup cs=>match cs[j]? with
  |some v=>frc v fun v=>k [] [] v u
  |none=>OpG P o τ η u k
 |_=>OpG P o τ η u k
theorem Eu{x:Operand}{j:Nat}(h:Am P ⟨d,.extract x j,ty,pos,af,g⟩ τ η u x j k):OpG P ⟨d,.extract x j,ty,pos,af,g⟩ τ η u k:=by unfold Am at h;split at h;rename_i cs hx;split at h;rename_i v hv;exact .lk (LOp.extract hx hv) (qx h);exact h;exact h
end
def cmpI(b:BinOp)(m n:Int):Option Bool:=match b with
 |.eql=>some (m==n)
 |.neq=>some (m !=n)
 |.lss=>some (decide (m<n))
 |.leq=>some (decide (m<=n))
 |.gtr=>some (decide (m>n))
 |.geq=>some (decide (m≥n))
 |_=>none
def cmpT(b:BinOp)(s r:ByteArray):Option Bool:=match b with
 |.eql=>some (s.toList==r.toList)
 |.neq=>some (!(s.toList==r.toList))
 |.lss=>some (Op.bytesLess s.toList r.toList)
 |.leq=>some (Op.bytesLess s.toList r.toList||s.toList==r.toList)
 |.gtr=>some (!(Op.bytesLess s.toList r.toList||s.toList==r.toList))
 |.geq=>some (!Op.bytesLess s.toList r.toList)
 |_=>none
section
variable{P:Program}{X:Inf}{τ:Nat->AV}{η:bf}{u:Nat}{k:KT}{d:Option Tmp}{ty:TypeId}{pos:String}{af:Array Edge}{g:Option (Nat×Bool)}
theorem LOp.cmpI{t t':TypeId}{b:BinOp}{x y:Operand}{m n:Int}{kk:IntKind}{v:Bool}(hx:aev τ x=.v (.int kk m))(hy:aev τ y=.v (.int kk n))(h:cmpI b m n=some v):LOp P ⟨d,.binOp b t x y t',ty,pos,af,g⟩ τ η [] [] (.v (.bool v)):=
 .look [] fun C a hg h0 _=>⟨.bool v,by
  have e1:=h0 x (by simp[Op.operands]);have e2:=h0 y (by simp[Op.operands])
  rw[hx]at e1;rw[hy]at e2;have e1':=e1.v_inv
  have e2':=e2.v_inv;have h1:∀w:World,(eqGuard b t x y (.int kk m) (.int kk n)).run P w=.ok () w:=by intro w;unfold eqGuard;split<;>rfl
  have hb:∀w:World,(Go.binOp b t (.int kk m) (.int kk n)).run P w=.ok (.bool v) w:=by
   intro w
   cases b<;>simp only[Go.Proofs.YtmbmbhkemgmhfaaGreatDoor.cmpI]at h<;>first
    |(cases h;done)
    |(obtain rfl:=Option.some.inj h;simp[Go.binOp,Op.intCmp])
  simp only[execOp,e1',e2',Sem.run_bind,h1,ahc,hb];rfl,VR.v C _⟩
theorem LOp.cmpT{t t':TypeId}{b:BinOp}{x y:Operand}{m n:ByteArray}{v:Bool}(hx:aev τ x=.v (.string m))(hy:aev τ y=.v (.string n))(h:cmpT b m n=some v):LOp P ⟨d,.binOp b t x y t',ty,pos,af,g⟩ τ η [] [] (.v (.bool v)):=
 .look [] fun C a hg h0 _=>⟨.bool v,by
  have e1:=h0 x (by simp[Op.operands]);have e2:=h0 y (by simp[Op.operands])
  rw[hx]at e1;rw[hy]at e2;have e1':=e1.v_inv
  have e2':=e2.v_inv;have h1:∀w:World,(eqGuard b t x y (.string m) (.string n)).run P w=.ok () w:=by intro w;unfold eqGuard;split<;>rfl
  have hb:∀w:World,(Go.binOp b t (.string m) (.string n)).run P w=.ok (.bool v) w:=by
   intro w
   cases b<;>simp only[Go.Proofs.YtmbmbhkemgmhfaaGreatDoor.cmpT]at h<;>first
    |(cases h;done)
    |(obtain rfl:=Option.some.inj h;rfl)
  simp only[execOp,e1',e2',Sem.run_bind,h1,ahc,hb];rfl,VR.v C _⟩
def acf(P:Program)(o:Oper)(τ:Nat->AV)(η:bf)(u:Nat)(b:BinOp)(m n:Int)(k:KT):Prop:=match cmpI b m n with
 |some v=>k [] [] (.v (.bool v)) u
 |none=>match b with
  |.add=>(-9223372036854775808<=m+n/\m+n<=9223372036854775807)/\k [] [] (.v (.int .i64 (m+n))) u
  |.sub=>(-9223372036854775808<=m-n/\m-n<=9223372036854775807)/\k [] [] (.v (.int .i64 (m-n))) u
  |_=>OpG P o τ η u k
def ace(P:Program)(o:Oper)(τ:Nat->AV)(η:bf)(u:Nat)(b:BinOp)(m n:ByteArray)(k:KT):Prop:=match cmpT b m n with
 |some v=>k [] [] (.v (.bool v)) u
 |none=>match b with
  |.add=>m.size+n.size<=9223372036854775807/\k [] [] (.v (.string (m++n))) u
  |_=>OpG P o τ η u k
def acg(P:Program)(X:Inf)(o:Oper)(τ:Nat->AV)(η:bf)(u:Nat)(b:BinOp)(t:Nat)(p q:Bool)(k:KT):Prop:=match pd X.I t with
 |none=>OpG P o τ η u k
 |some i=>match i.und with
  |.bool=>match b with
   |.eql=>k [] [] (.v (.bool (p==q))) u
   |.neq=>k [] [] (.v (.bool (!(p==q)))) u
   |_=>OpG P o τ η u k
  |_=>OpG P o τ η u k
def agk(P:Program)(X:Inf)(o:Oper)(τ:Nat->AV)(η:bf)(u:Nat)(b:BinOp)(t:Nat)(x y:Operand)(k:KT):Prop:=match aev τ x with
 |.v (.int .i64 m)=>match aev τ y with
  |.v (.int .i64 n)=>acf P o τ η u b m n k
  |_=>OpG P o τ η u k
 |.v (.int .u8 m)=>match aev τ y with
  |.v (.int .u8 n)=>match cmpI b m n with
   |some v=>k [] [] (.v (.bool v)) u
   |none=>OpG P o τ η u k
  |_=>OpG P o τ η u k
 |.v (.string m)=>match aev τ y with
  |.v (.string n)=>ace P o τ η u b m n k
  |_=>OpG P o τ η u k
 |.v (.bool p)=>match aev τ y with
  |.v (.bool q)=>acg P X o τ η u b t p q k
  |_=>OpG P o τ η u k
 |_=>OpG P o τ η u k
theorem Xc(hX:X.Ok P){t t':Nat}{b:BinOp}{x y:Operand}(h:agk P X ⟨d,.binOp b t x y t',ty,pos,af,g⟩ τ η u b t x y k):OpG P ⟨d,.binOp b t x y t',ty,pos,af,g⟩ τ η u k:=by unfold agk at h;split at h;rename_i m hx;split at h;rename_i n hy;unfold acf at h;split at h;rename_i v hv;exact .lk (LOp.cmpI hx hy hv) h;split at h;exact .lk (lJ hx hy h.1.1 h.1.2) h.2;exact .lk (ur hx hy h.1.1 h.1.2) h.2;exact h;exact h;rename_i m hx;split at h;rename_i n hy;split at h;rename_i v hv;exact .lk (LOp.cmpI hx hy hv) h;exact h;exact h;rename_i m hx;split at h;rename_i n hy;unfold ace at h;split at h;rename_i v hv;exact .lk (LOp.cmpT hx hy hv) h;split at h;exact .lk (Jk hx hy h.1) h.2;exact h;exact h;rename_i p hx;split at h;rename_i q hy;unfold acg at h;split at h;exact h;rename_i i hi;obtain⟨hI,rfl⟩:=ii hX hi;split at h;rename_i hu;split at h;exact .lk (Xy hx hy (Bd (hI.und.trans hu))) h;exact .lk (Xx hx hy (Bd (hI.und.trans hu))) h;exact h;exact h;exact h;exact h
def aer(P:Program)(o:Oper)(τ:Nat->AV)(η:bf)(u:Nat)(x:Operand)(k:KT):Prop:=match aev τ x with
 |.v (.bool b)=>k [] [] (.v (.bool (!b))) u
 |_=>OpG P o τ η u k
theorem Vm{t:Nat}{x:Operand}(h:aer P ⟨d,.unOp .not t x,ty,pos,af,g⟩ τ η u x k):OpG P ⟨d,.unOp .not t x,ty,pos,af,g⟩ τ η u k:=by unfold aer at h;split at h;rename_i b hx;exact .lk (Al (by unfold Ir;simp only[hx])) h;exact h
def ae3(P:Program)(X:Inf)(o:Oper)(τ:Nat->AV)(η:bf)(u:Nat)(t:Nat)(x:Operand)(k:KT):Prop:=match pd X.I t with
 |none=>OpG P o τ η u k
 |some i=>match i.und with
  |.sl e=>match aev τ x with
   |.tree n xs=>LenG xs fun v=>k [] [] v u
   |.sl id ver off len=>match fw η id ver with
    |some b=>k [id] [] (.v (.int .i64 ((len:Nat):Int))) u
    |none=>OpG P o τ η u k
   |.v (.slice none 0 0)=>k [] [] (.v (.int .i64 0)) u
   |_=>OpG P o τ η u k
  |.str=>match aev τ x with
   |.v (.string s)=>k [] [] (.v (.int .i64 ((s.size:Nat):Int))) u
   |_=>OpG P o τ η u k
  |_=>OpG P o τ η u k
theorem V1(hX:X.Ok P){t:Nat}{x:Operand}{ats:Array TypeId}(ha:ats[0]? =some t)(h:ae3 P X ⟨d,.call {callee:=.builtin .len,args:=#[x],argTypes:=ats},ty,pos,af,g⟩ τ η u t x k):OpG P ⟨d,.call {callee:=.builtin .len,args:=#[x],argTypes:=ats},ty,pos,af,g⟩ τ η u k:=by unfold ae3 at h;split at h;exact h;rename_i i hi;obtain⟨hI,rfl⟩:=ii hX hi;split at h;rename_i e he;have hu:=Dv (hI.und.trans he);split at h;rename_i n xs hx;obtain⟨h⟩:=h;exact .lk (lT (n:=n) (f:=fun r:List AV=>r) (l:=xs) ha hu (by rw[hx];simp)) h;rename_i id ver off len hx;split at h;rename_i b hb;obtain⟨h1,h2,h3⟩:=b9 hb;exact .lk (bo ha hu hx h1 h2) h;exact h;rename_i hx;exact .lk (Jh ha hu hx) h;exact h;rename_i he;have hu:=Fy (hI.und.trans he);split at h;rename_i s hx;exact .lk (Jg ha hu hx) h;exact h;exact h
def Vw(n:Nat):List Nat->Bool
 |[]=>false
 |a::r=>bif Nat.beq a n then true else Vw n r
theorem Lo{n:Nat}:∀{l:List Nat},Vw n l=true->n∈l
 |[],h=>by cases h
 |a::r,h=>by
  unfold Vw at h
  cases hb:Nat.beq a n with
  |true=>rw[agv hb];simp
  |false=>rw[hb]at h;exact List.mem_cons_of_mem _ (Lo h)
inductive ArgG(P:Program)(f:FuncId)(args:List AV)(k:AV->Prop):Prop
 |mk {R:AV->Prop} (h:PRet P f args R) (hp:km args=true) (hk:∀ret,R ret->k ret):ArgG P f args k
def W7(P:Program)(X:Inf)(o:Oper)(τ:Nat->AV)(η:bf)(u:Nat)(f:FuncId)(xs:List Operand)(k:KT):Prop:=
 bif Vw f X.B then Te (xs.map (aev τ)) fun ys=>ArgG P f ys fun v=>frc v fun v=>k [] [] v u else OpG P o τ η u k
theorem Rb(hX:X.Ok P){f:FuncId}{xs:Array Operand}{ats:Array TypeId}(h:W7 P X ⟨d,.call {callee:=.value (.func f),args:=xs,argTypes:=ats},ty,pos,af,g⟩ τ η u f xs.toList k):OpG P ⟨d,.call {callee:=.value (.func f),args:=xs,argTypes:=ats},ty,pos,af,g⟩ τ η u k:=by unfold W7 at h;rcases dl h with⟨hb,h⟩|⟨hb,h⟩;obtain⟨⟨ret,hR,hc⟩,hp,hk⟩:=qb h;exact .lk (LOp.call (hX.B _ (Lo hb)) hp hc) (qx (k:=fun v=>k [] [] v u) (hk ret hR));exact h
def keyO(o:Oper):Nat:=match o.dst with
 |some d=>d
 |none=>match o.op with
  |.store _ (.tmp q) _=>q+100000
  |_=>99999
def Us(P:Program)(X:Inf)(cu:List Nat)(o:Oper)(τ:Nat->AV)(η:bf)(u:Nat)(k:KT):Prop:=
 bif Vw (keyO o) cu then OpG P o τ η u k else match o.op with
 |.move x=>frc (aev τ x) fun v=>k [] [] v u
 |.assign x=>frc (aev τ x) fun v=>k [] [] v u
 |.pick c x y=>Vf P o τ η u c x y k
 |.load t x=>Vy P X o τ η u t x k
 |.store t x y=>J9 P X o τ η u t x y k
 |.fieldAddr t x j=>Ep P X o τ η u t x j k
 |.indexAddr t x y=>Em P X o τ η u t x y k
 |.index t x y=>wh P X o τ η u t x y k
 |.box t x=>Z6 P o τ η u (jc (aev τ x)) k
 |.alloc t=>N6 P X o τ η u t k
 |.build t parts=>Nt P X o τ η u t parts k
 |.buildSlice t len parts=>Ar P X o τ η u t len parts k
 |.nilCheck x=>aet P o τ η u x k
 |.extract x j=>Am P o τ η u x j k
 |.binOp b t x y _=>agk P X o τ η u b t x y k
 |.unOp .not _ x=>aer P o τ η u x k
 |.call ⟨.value (.func f),xs,_⟩=>W7 P X o τ η u f xs.toList k
 |.call ⟨.builtin .len,⟨[x]⟩,ats⟩=>match ats[0]? with
  |some t=>ae3 P X o τ η u t x k
  |none=>OpG P o τ η u k
 |_=>OpG P o τ η u k
theorem Pj(hX:X.Ok P){cu:List Nat}{o:Oper}(h:Us P X cu o τ η u k):OpG P o τ η u k:=by obtain⟨d,op,ty,pos,af,g⟩:=o;unfold Us at h;rcases dl h with⟨_,h⟩|⟨_,h⟩;exact h;simp only at h;split at h;exact .lk (LOp.move _) (qx (k:=fun v=>k [] [] v u) h);exact .lk (LOp.assign _) (qx (k:=fun v=>k [] [] v u) h);exact P0 h;exact Qf hX h;exact J8 hX h;exact Iq hX h;exact Ii hX h;exact Ca hX h;exact W9 h;exact N5 hX h;exact Ns hX h;exact E7 hX h;exact Vo h;exact Eu h;exact Xc hX h;exact Vm h;exact Rb hX h;split at h;rename_i t ht;exact V1 hX ht h;exact h;exact h
end
inductive GS where
 |no
 |on (q:Nat) (b:Bool)
 |bad
def Qn(ops:Array Oper)(o:Oper):GS:=match o.guard with
 |none=>.no
 |some (j,b)=>match(ops[j]?).bind (·.dst)with
  |some d=>.on d b
  |none=>.bad
abbrev KR:=List Rec->(Nat->AV)->bf->Nat->Prop
def eqB':Bool->Bool->Bool
 |true,b=>b
 |false,b=>!b
def Q5(d:Option Tmp)(τ:Nat->AV)(η:bf)(δ:List (Nat×Option Blk))(v:AV)(u:Nat)(K:(Nat->AV)->bf->Nat->Prop):Prop:=match d with
 |some d=>match δ with
  |[]=>K (upd τ d v) η u
  |[(i,b)]=>K (upd τ d v) (η.set i b) u
  |δ=>K (upd τ d v) (η.put δ) u
 |none=>match δ with
  |[]=>K τ η u
  |[(i,b)]=>K τ (η.set i b) u
  |δ=>K τ (η.put δ) u
theorem Hc{d:Option Tmp}{τ:Nat->AV}{η:bf}{δ:List (Nat×Option Blk)}{v:AV}{u:Nat}{K:(Nat->AV)->bf->Nat->Prop}(h:Q5 d τ η δ v u K):K (j1 τ d v) (η.put δ) u:=by
 unfold Q5 at h
 repeat' split at h
 all_goals exact h
inductive SpI(t:Bool)(A B:Prop):Prop
 |mk (ht:t=true->A) (hf:t=false->B):SpI t A B
theorem SpI.at{t:Bool}{A B:Prop}(h:SpI t A B):(t=true/\A)\/(t=false/\B):=by
 obtain⟨h1,h2⟩:=h
 cases t with
 |true=>exact .inl ⟨rfl,h1 rfl⟩
 |false=>exact .inr ⟨rfl,h2 rfl⟩
theorem cB{t:Bool}{A B:Prop}(ht:t=true->A)(hf:t=false->B):SpI t A B:=⟨ht,hf⟩
theorem cT{A B:Prop}(h:A):SpI true A B:=⟨fun _=>h,fun e=>Bool.noConfusion e⟩
theorem cF{A B:Prop}(h:B):SpI false A B:=⟨fun e=>Bool.noConfusion e,fun _=>h⟩
abbrev KV:=List Nat->KR->(Nat->AV)->bf->Nat->Prop
def goV(P:Program)(X:Inf)(cu:List Nat)(o:Oper)(ih:KV)(kn:List Nat)(K:KR)(τ:Nat->AV)(η:bf)(u:Nat):Prop:=
 Us P X cu o τ η u fun fp δ v u'=>Q5 o.dst τ η δ v u' (ih kn fun rs=>K (⟨fp,δ,v,u'⟩::rs))
def skV(o:Oper)(ih:KV)(kn:List Nat)(K:KR)(τ:Nat->AV)(η:bf)(u:Nat):Prop:=
 Q5 o.dst τ η [] (.v undef) u (ih kn fun rs=>K (⟨[],[],.v undef,u⟩::rs))
def opV(P:Program)(X:Inf)(cu:List Nat)(ops:Array Oper)(o:Oper)(ih:KV):KV:=fun kn K τ η u=>match Qn ops o with
 |.no=>goV P X cu o ih kn K τ η u
 |.on q b=>match τ q with
  |.v (.bool c)=>cond (Vw q kn) (cond (eqB' b c) (goV P X cu o ih kn K τ η u) (skV o ih kn K τ η u))
   (SpI c
    (cond b (goV P X cu o ih (q::kn) K (upd τ q (.v (.bool true))) η u) (skV o ih (q::kn) K (upd τ q (.v (.bool true))) η u))
    (cond b (skV o ih (q::kn) K (upd τ q (.v (.bool false))) η u) (goV P X cu o ih (q::kn) K (upd τ q (.v (.bool false))) η u)))
  |.v (.tuple _)=>skV o ih kn K τ η u
  |_=>False
 |.bad=>False
noncomputable def A9(P:Program)(X:Inf)(cu:List Nat)(ops:Array Oper)(l:List Oper):KV:=
 List.rec (motive:=fun _=>KV) (fun kn K τ η u=>K [] τ η u) (fun o _ ih=>opV P X cu ops o ih) l
section
variable{P:Program}{X:Inf}{cu:List Nat}{N:Nat}{ops:Array Oper}
theorem O8{o:Oper}{l:List Oper}{K:KR}{τ:Nat->AV}{η:bf}{u:Nat}(hX:X.Ok P)(hd:iv N ops o=true)(hw:m3 ops τ o=some true)
 {kn:List Nat}(ih:∀(kn:List Nat) (K:KR) τ η u,A9 P X cu ops l kn K τ η u->Xr P N ops l (fun rs s=>K rs s.τ s.η s.u) ⟨τ,η,u⟩)
 (h:goV P X cu o (A9 P X cu ops l) kn K τ η u):Xr P N ops (o::l) (fun rs s=>K rs s.τ s.η s.u) ⟨τ,η,u⟩:=by
 obtain⟨fp,δ,v,u',hL,hu,hn,h⟩:=Pj hX h
 obtain⟨rs,s',h1,h2⟩:=ih _ _ _ _ _ (Hc h)
 exact⟨_,s',Seq.op (s:=⟨τ,η,u⟩) u' hL hw hd hu hn h1,h2⟩
theorem yu{o:Oper}{l:List Oper}{K:KR}{τ:Nat->AV}{η:bf}{u:Nat}(hd:iv N ops o=true)(hw:m3 ops τ o=some false)
 {kn:List Nat}(ih:∀(kn:List Nat) (K:KR) τ η u,A9 P X cu ops l kn K τ η u->Xr P N ops l (fun rs s=>K rs s.τ s.η s.u) ⟨τ,η,u⟩)
 (h:skV o (A9 P X cu ops l) kn K τ η u):Xr P N ops (o::l) (fun rs s=>K rs s.τ s.η s.u) ⟨τ,η,u⟩:=by
 obtain⟨rs,s',h1,h2⟩:=ih _ _ _ _ _ (Hc h)
 exact⟨_,s',Seq.skip (s:=⟨τ,η,u⟩) hw hd h1,h2⟩
theorem uc(hX:X.Ok P):∀(l:List Oper) (_:l.all (iv N ops)=true) (kn:List Nat) (K:KR) (τ:Nat->AV) (η:bf) (u:Nat),A9 P X cu ops l kn K τ η u->Xr P N ops l (fun rs s=>K rs s.τ s.η s.u) ⟨τ,η,u⟩
 |[],_,kn,K,τ,η,u,h=>⟨[],_,.nil,h⟩
 |o::l,h0,kn,K,τ,η,u,h=>by
  rw[List.all_cons,ahs]at h0;have ih:=uc hX l h0.2
  have h:opV P X cu ops o (A9 P X cu ops l) kn K τ η u:=h;unfold opV at h;split at h;rename_i hg;refine O8 hX h0.1 ?_ ih h;unfold Qn at hg;unfold m3;split at hg;rename_i e;rw[e];split at hg<;>cases hg;rename_i q b hg
  have h1:∀(τ':Nat->AV) c,τ' q=.v (.bool c)->m3 ops τ' o=some (c==b):=by
   intro τ' c hc;unfold Qn at hg;unfold m3;split at hg;cases hg;rename_i j b' e;split at hg;rename_i d' e2;cases hg;rw[e];simp only[e2,hc];cases hg
  split at h;rename_i c hc;have h2:=Pb hc
  have hw:=h1 τ c hc;rcases dl h with⟨_,h⟩|⟨_,h⟩;rcases dl h with⟨e,h'⟩|⟨e,h'⟩;exact O8 hX h0.1 (by rw[hw];cases b<;>cases c<;>first|rfl|cases e) ih h';exact yu h0.1 (by rw[hw];cases b<;>cases c<;>first|rfl|cases e) ih h';rcases h.at with⟨rfl,h'⟩|⟨rfl,h'⟩;rw[h2]at h';rcases dl h' with⟨e,h''⟩|⟨e,h''⟩;exact O8 hX h0.1 (by rw[hw,e];rfl) ih h'';exact yu h0.1 (by rw[hw,e];rfl) ih h'';rw[h2]at h';rcases dl h' with⟨e,h''⟩|⟨e,h''⟩;exact yu h0.1 (by rw[hw,e];rfl) ih h'';exact O8 hX h0.1 (by rw[hw,e];rfl) ih h'';rename_i c hc;refine yu h0.1 ?_ ih h;unfold Qn at hg;unfold m3;split at hg;cases hg;rename_i j b' e;split at hg;rename_i d' e2;cases hg;rw[e];simp only[e2,hc];cases hg;exact h.elim;exact h.elim
def jb(N:Nat):Code->Bool
 |.region _ ops _=>ops.toList.all (iv N ops)
 |.seq a b=>jb N a&&jb N b
 |.cond _ a b=>jb N a&&jb N b
 |.block _ c=>jb N c
 |.loop c=>jb N c
 |_=>true
inductive LpG(P:Program)(X:Inf)(N:Nat)(cu st:List Nat)(c:Code)(Q:Exit->St->Prop)(s:St):Prop
 |mk (h:X.Ok P->jb N c=true->EWP P N (.loop c) Q s):LpG P X N cu st c Q s
inductive RegG(P:Program)(X:Inf)(N:Nat)(cu st:List Nat)(id:Nat)(ops:Array Oper)(dr:Bool)(Q:Exit->St->Prop)(s:St):Prop
 |mk (h:X.Ok P->ops.toList.all (iv N ops)=true->EWP P N (.region id ops dr) Q s):RegG P X N cu st id ops dr Q s
def Jw(P:Program)(X:Inf)(cu:List Nat)(ops:Array Oper)(dr:Bool)(Q:Exit->St->Prop)(s:St):Prop:=match s with
 |⟨τ,η,u⟩=>match ops with
  |⟨l⟩=>match dr with
   |false=>A9 P X cu l.toArray l [] (fun _ τ η u=>Q .normal ⟨τ,η,u⟩) τ η u
   |true=>A9 P X cu l.toArray l [] (fun rs τ η u=>pn l.toArray rs=true/\Q .normal ⟨τ,η,u⟩) τ η u
theorem Fw{id:Nat}{dr:Bool}{Q:Exit->St->Prop}{s:St}(hX:X.Ok P)(hd:ops.toList.all (iv N ops)=true)(h:Jw P X cu ops dr Q s):EWP P N (.region id ops dr) Q s:=by
 obtain⟨τ,η,u⟩:=s
 obtain⟨l⟩:=ops
 unfold Jw at h
 cases dr with
 |false=>exact EWP.region (uc hX l hd _ _ _ _ _ h)
 |true=>exact R6 hX.m (uc hX l hd _ _ _ _ _ h)
abbrev KC:=(Exit->St->Prop)->St->Prop
def W4(c:Operand)(a b:KC):KC:=fun Q s=>match aev s.τ c with
 |.v (.bool t)=>SpI t (a Q s) (b Q s)
 |_=>False
def ad9(P:Program)(X:Inf)(N:Nat)(cu st:List Nat)(id:Nat)(ops:Array Oper)(dr:Bool):KC:=fun Q s=>bif Vw id st then RegG P X N cu st id ops dr Q s else Jw P X cu ops dr Q s
noncomputable def vc(P:Program)(X:Inf)(N:Nat)(cu st:List Nat)(c:Code):KC:=
 Code.rec (motive:=fun _=>KC) (fun Q s=>Q .normal s) (fun id ops dr=>ad9 P X N cu st id ops dr) (fun _ _ a b Q s=>a (andThen (b Q) Q) s) (fun c _ _ a b=>W4 c a b) (fun id _ c Q s=>c (t8 id Q) s)
  (fun c _ Q s=>LpG P X N cu st c Q s) (fun _ _ _ _ _ _ _ _=>False) (fun id Q s=>Q (.exit id) s) (fun _ _ _ _=>False) (fun _ _ _=>False) (fun _ _ _=>False) (fun Q s=>Q .ret s) (fun _ _ _=>False) c
variable{st:List Nat}
theorem yw(hX:X.Ok P):∀(c:Code) (Q:Exit->St->Prop) (s:St),jb N c=true->vc P X N cu st c Q s->EWP P N c Q s:=by
 intro c
 induction c with
 |skip=>exact fun Q s _ h=>EWP.skip h
 |exit id=>exact fun Q s _ h=>EWP.exit h
 |ret=>exact fun Q s _ h=>EWP.ret h
 |seq a b iha ihb=>
  intro Q s hd h
  rw[jb,ahs]at hd
  refine EWP.seq (EWP.mono (iha _ _ hd.1 h) fun e s' h=>?_)
  cases e with
  |normal=>exact ihb _ _ hd.2 h
  |_=>exact h
 |block id c ih=>exact fun Q s hd h=>EWP.block (ih _ _ hd h)
 |cond c a b iha ihb=>
  intro Q s hd h
  rw[jb,ahs]at hd
  have h:W4 c (vc P X N cu st a) (vc P X N cu st b) Q s:=h
  unfold W4 at h
  split at h
  ·rename_i t ht
   refine EWP.cond ht (fun e=>?_) (fun e=>?_)
   ·exact iha _ _ hd.1 (h.1 e)
   ·exact ihb _ _ hd.2 (h.2 e)
  ·exact h.elim
 |loop c ih=>exact fun Q s hd h=>h.1 hX hd
 |region id ops dr=>
  intro Q s hd h
  have h:ad9 P X N cu st id ops dr Q s:=h
  unfold ad9 at h
  rcases dl h with⟨_,h⟩|⟨_,h⟩
  ·exact h.1 hX hd
  ·exact Fw hX hd h
 |_=>intro Q s hd h;exact h.elim
theorem LpG.via{c:Code}{Q:Exit->St->Prop}{s s2:St}(hv:∀Q,AWP P N (.loop c) Q s2->AWP P N (.loop c) Q s)(h:LpG P X N cu st c Q s2):LpG P X N cu st c Q s:=⟨fun hX hd=>EWP.via hv (h.1 hX hd)⟩
theorem LpG.loop{c:Code}{Q:Exit->St->Prop}{s:St}(I:Nat->St->Prop){n:Nat}{s1:St}(hc:Canon s s1)(h0:I n s1)(hI:∀n s,I n s->vc P X N cu st c (andThen (fun s'=>∃m s1,m<n/\Canon s' s1/\I m s1) Q) s):LpG P X N cu st c Q s:=
 ⟨fun hX hd=>Dd I hc h0 fun n s hi=>yw hX c _ _ hd (hI n s hi)⟩
theorem LpG.exit{c:Code}{Q:Exit->St->Prop}{s:St}(h:vc P X N cu st c (andThen (fun _=>False) Q) s):LpG P X N cu st c Q s:=⟨fun hX hd=>Dc (yw hX c _ _ hd h)⟩
inductive ULp(P:Program)(X:Inf)(N:Nat)(cu st:List Nat)(c:Code)(Q:Exit->St->Prop)(s:St):Prop
 |mk (h:X.Ok P->jb N c=true->R7 P N c Q s):ULp P X N cu st c Q s
theorem ULp.step{c:Code}{Q:Exit->St->Prop}{s:St}(h:vc P X N cu st c (andThen (ULp P X N cu st c Q) Q) s):ULp P X N cu st c Q s:=
 ⟨fun hX hd=>De (EWP.mono (yw hX c _ _ hd h) fun e s' h=>by
  cases e with
  |normal=>exact h.1 hX hd
  |_=>exact h)⟩
theorem w6{c:Code}{Q:Exit->St->Prop}{s:St}(h:ULp P X N cu st c Q s):LpG P X N cu st c Q s:=⟨fun hX hd=>Ov (h.1 hX hd)⟩
theorem RegG.via{id:Nat}{dr:Bool}{Q:Exit->St->Prop}{s s2:St}(hv:∀Q,AWP P N (.region id ops dr) Q s2->AWP P N (.region id ops dr) Q s)(h:RegG P X N cu st id ops dr Q s2):RegG P X N cu st id ops dr Q s:=⟨fun hX hd=>EWP.via hv (h.1 hX hd)⟩
theorem ba{id:Nat}{dr:Bool}{Q:Exit->St->Prop}{s:St}(h:Jw P X cu ops dr Q s):RegG P X N cu st id ops dr Q s:=⟨fun hX hd=>Fw hX hd h⟩
theorem PRet.of_vc{f:FuncId}{fn:Func}{c:Code}{args:List AV}{R:AV->Prop}(hX:X.Ok P)(cu st:List Nat)(hf:P.funcs[f]? =some fn)(hb:fn.body=some c)(hN:fn.ntmps=N)(hl:Nat.ble args.length N=true)(hc:jb N c=true)
 (h:vc P X N cu st c (fun e s'=>(e=.normal\/e=.ret)/\∃ret,Og P N fn s' ret/\R ret) ⟨b7 args,m4,0⟩):PRet P f args R:=
 PRet.of_body hf hb hN (aha hl) (yw hX c _ _ hc h)
theorem PRet.eq{f:FuncId}{args:List AV}{ret:AV}(h:PRet P f args (fun r=>r=ret)):eu P f args ret:=by obtain⟨_,rfl,h⟩:=h;exact h
theorem PRet.of_call{f:FuncId}{args:List AV}{ret:AV}(h:eu P f args ret):PRet P f args (fun r=>r=ret):=⟨_,rfl,h⟩
end
theorem FzP.unk{fp:List Nat}{η:bf}{a:AV}:FzP fp η a .unk:=fun _ _ _ x _=>.unk x
inductive FzPL(fp:List Nat)(η:bf):List AV->List AV->Prop
 |nil:FzPL fp η [] []
 |cons {a b:AV} {r s:List AV}:FzP fp η a b->FzPL fp η r s->FzPL fp η (a :: r) (b :: s)
theorem FzPL.at{fp:List Nat}{η:bf}{cs ds:List AV}(h:FzPL fp η cs ds):cs.length=ds.length/\∀i (h:i<cs.length) (h':i<ds.length),FzP fp η cs[i] ds[i]:=by
 induction h with
 |nil=>exact⟨rfl,fun i h=>by simp at h⟩
 |cons h1 h2 ih=>exact⟨by simp[ih.1],fun i h h'=>by cases i with
  |zero=>exact h1
  |succ i=>exact ih.2 i (by simpa using h) (by simpa using h')⟩
theorem ky{fp:List Nat}{η:bf}{cs ds:List AV}(h:FzPL fp η cs ds):FzP fp η (.agg cs) (.agg ds):=FzP.agg h.at.1 h.at.2
section
variable{P:Program}{X:Inf}{N:Nat}
theorem o7.of_vc{f:FuncId}{fn:Func}{c:Code}{args:List AV}{hb:List (Nat×Blk)}{hb':List (Nat×Option Blk)}{R:AV->Prop}(hX:X.Ok P)(cu st:List Nat)(hf:P.funcs[f]? =some fn)(h0:fn.body=some c)(hN:fn.ntmps=N)(hl:Nat.ble args.length N=true)(hc:jb N c=true)
 (h:vc P X N cu st c (fun e s'=>(e=.normal\/e=.ret)/\∃ret,Fg P N fn s' hb' ret/\R ret) ⟨b7 args,hLz hb,0⟩):o7 P f args hb hb' R:=
 o7.of_body hf h0 hN (aha hl) (yw hX c _ _ hc h)
end
theorem ry:∀l:List AV,Bg l.length l=some l
 |[]=>rfl
 |a::l=>by simp only[ahf,Bg,ry l]
theorem Src.rows{α:Type}{f:α->List AV}{q:Nat}(hf:RowF f q){η:bf}{id v:Nat}{l:List α}(hb:η id=some ⟨v,rF f l,q,Nat.beq l.length 0⟩):Src η [id] (.sl id v 0 l.length) l.length (rF f l):=by
 cases l with
 |nil=>
  intro C hg hη x hx
  obtain⟨e,_,_⟩:=hx.slnil_inv ((hη id (by simp)).trans hb) rfl rfl
  exact .inl ⟨rfl,rfl,none,0,e⟩
 |cons a r=>exact Src.sl hb rfl rfl rfl (by have:=ry (rF f (a::r));simpa[co]using this)
theorem FzPL.pure{fp:List Nat}{η:bf}:∀{ls:List AV},km ls=true->FzPL fp η ls ls
 |[],_=>.nil
 |a::r,h=>by rw[km,ahs]at h;exact .cons (FzP.pure h.1) (FzPL.pure h.2)
section
variable{P:Program}{τ:Nat->AV}{η:bf}{d:Option Tmp}{ty:TypeId}{pos:String}{af:Array Edge}{g:Option (Nat×Bool)}{α:Type}{f:α->List AV}{q:Nat}
theorem jo{g0:Operand}{f:FuncId}{caps:List AV}{xs:Array Operand}{ats:Array TypeId}{ys:List AV}{ret:AV}(hb:bv P f=true)(h4:aev τ g0=.clo f caps)(h5:xs.toList.map (aev τ)++caps=ys)(hp:km ys=true)(hc:eu P f ys ret):
 LOp P ⟨d,.call {callee:=.value g0,args:=xs,argTypes:=ats},ty,pos,af,g⟩ τ η [] [] ret:=by
 have hf:FzPL [] η ys ys:=FzPL.pure hp
 refine LOp.of_call hc fun C a hg h3 hη=>?_
 have h0:=h3 g0 (by simp[Op.operands,Call.operands])
 rw[h4]at h0
 obtain⟨vs,hv,hl,hi⟩:=h0.clo_inv
 refine⟨xs.map a.eval++vs,?_,?_⟩
 ·subst h5
  refine⟨by simp[hl],fun i h h'=>?_⟩
  have hF:=(hf.at.2 i h h) C hg hη ((xs.map a.eval++vs)[i]) ?_
  ·exact hF.mono (fun b hb=>hb.elim (fun h=>h) (fun⟨i,h1,_⟩=>absurd h1 (by simp))) (fun _ _=>rfl)
  ·by_cases h2:i<xs.size
   ·have e1:(xs.toList.map (aev τ)++caps)[i]=aev τ xs[i]:=by
     rw[List.getElem_append_left (by simpa using h2)];simp
    have e2:(xs.map a.eval++vs)[i]=a.eval xs[i]:=by
     rw[Array.getElem_append_left (by simpa using h2)];simp
    rw[e1,e2]
    exact h3 _ (by simp[Op.operands,Call.operands])
   ·have e1:(xs.toList.map (aev τ)++caps)[i]=caps[i-xs.size]'(by simp at h;omega):=by
     rw[List.getElem_append_right (by simpa using h2)];simp
    have e2:(xs.map a.eval++vs)[i]=vs[i-xs.size]'(by simp at h';omega):=by
     rw[Array.getElem_append_right (by simpa using h2)];simp
    rw[e1,e2]
    exact hi _ _ _
 ·have e:(execOp a.eval ⟨d,.call {callee:=.value g0,args:=xs,argTypes:=ats},ty,pos,af,g⟩).run P C.w=(callFunc f (#[]++xs.map a.eval++vs)).run P C.w:=by
   have e0:execOp a.eval ⟨d,.call {callee:=.value g0,args:=xs,argTypes:=ats},ty,pos,af,g⟩=(do let dd<-Deferred.ofValue (a.eval g0) (xs.map a.eval);invoke dd.target dd.args):=rfl
   rw[e0,hv]
   rfl
  rw[e,d9 hb]
  simp
theorem Xw{o:Oper}{fp:List Nat}{v v':AV}(h:LOp P o τ η fp [] v)(hf:∀η',FzP [] η' v v'):LOp P o τ η fp [] v':=by intro C a hg h0 h6 hn K Q hK;exact h C a hg h0 h6 hn K Q fun x C' h1 h2 h3 h4 h5=>hK x C' h1 h2 h3 h4 (.imm ((hf C'.η C' h3 (fun _ h=>absurd h (by simp)) x h5).mono (fun b hb=>hb.elim (fun h=>h) (fun⟨i,hi,_⟩=>absurd hi (by simp))) (fun _ _=>rfl)))
theorem fx{o:Oper}{u:Nat}{b:Blk}{v v':AV}(h:LOp P o τ η [] [(u,some b)] v)(hf:∀η':bf,η' u=some b->FzP [u] η' v v'):LOp P o τ η [] [(u,none)] v':=by
 intro C a hg hc hd hn K Q hK;refine h C a hg hc hd (fun p hp hq=>by rw[agy]at hp;subst hp;exact hn (u,none) (by simp) hq) K Q fun x C1 h1 h2 h3 h4 h5=>?_;have he:C1.η u=some b:=by rw[h1];exact am _ _ _
 let C':Ctx:={C1 with η:=C.η.put [(u,none)],T:=fun k=>C1.T k\/C1.mineOf [u] k}
 have h6:∀{i b'},C'.η i=some b'->C1.η i=some b'/\i≠u:=by
  intro i b' hb;have hb:(C.η.set u none) i=some b':=hb
  by_cases e:i=u;subst e;rw[am]at hb;cases hb;refine⟨?_,e⟩;rw[h1];show(C.η.set u (some b)) i=some b'
  rw[aq _ _ e]at hb ⊢;exact hb
 have h9:∀{a:AV} {x:Value},VR C1 a x->VR C' a x:=fun hv=>VR.shift (C:=C1) (C':=C') rfl rfl rfl rfl (fun b hb=>.inl hb) h3.used (fun id b' hb=>⟨b',(h6 hb).1,rfl,rfl,rfl,rfl⟩) hv;have h0:∀{i},C'.live i->C1.live i/\i≠u:=by rintro i ⟨b',h7,hk⟩;exact⟨⟨b',(h6 h7).1,hk⟩,(h6 h7).2⟩
 have hh:Good C':=by
  refine⟨fun h=>h3.used (h6 h).1,by intro i b' h7 hk;obtain⟨o,g1,g2⟩:=h3.obj (h6 h7).1 hk;exact⟨o,g1,ObjR.shift h9 g2⟩,by intro i b' h7 hl;obtain⟨c,t,g1,g2,g3,g4⟩:=h3.blk (h6 h7).1 hl;exact⟨c,t,g1,g2,g3,fun j hj hm=>h9 (g4 j hj hm)⟩,fun hi hj e=>h3.inj (h0 hi).1 (h0 hj).1 e,?_,?_,fun h hv hn=>h3.tight (h6 h).1 hv hn⟩;refine h3.tokT (fun _ h=>.inl h) ?_;rintro k (hk|hk);exact h3.tlt hk;exact cr h3 (bj hk);rintro k ⟨i,h8,hk⟩ (hT|⟨i',ha,hl'',e⟩);exact h3.apart ⟨i,(h0 h8).1,hk⟩ hT;have e2:i'=i:=h3.inj hl'' (h0 h8).1 (e.trans hk.symm)
  rw[agy]at ha;exact(h0 h8).2 (e2▸ha)
 have ho:Ev C C':=⟨⟨h4.os,h4.tape,h4.output,h4.size,h4.keep,fun k ⟨i,q1,q2⟩=>h4.mine k ⟨i,(h0 q1).1,q2⟩,fun k h=>.inl (h4.T k h),fun k h=>h.elim (fun h=>h4.Tnew k h) (fun h=>.inr (h4.mine k (bj h)))⟩,h4.U,fun id b' hU hb=>h4.old id b' hU (h6 hb).1⟩;exact hK x C' rfl (fun id=>by rw[show C'.U=C1.U from rfl,h2];simp) hh ho (.imm (hf C1.η he C1 h3 (fun _ _=>rfl) x h5))
end
section
variable{A B:Prop}
theorem cE{a b:Int}(ht:a=b->A)(hf:¬a=b->B):SpI (a==b) A B:=⟨fun h=>ht (beq_iff_eq.1 h),fun h=>hf (fun e=>by rw[e,beq_self_eq_true]at h;cases h)⟩
theorem cN{a b:Int}(ht:¬a=b->A)(hf:a=b->B):SpI (a !=b) A B:=⟨fun h=>ht (fun e=>by rw[e,bne_self_eq_false]at h;cases h),fun h=>hf (by simpa using h)⟩
theorem cD{p:Prop}[Decidable p](ht:p->A)(hf:¬p->B):SpI (decide p) A B:=⟨fun h=>ht (ag4 h),fun h=>hf (ag3 h)⟩
theorem cL{m n:Nat}(ht:m<n->A)(hf:¬m<n->B):SpI (decide (((m:Nat):Int)<((n:Nat):Int))) A B:=⟨fun h=>ht (Int.ofNat_lt.1 (ag4 h)),fun h=>hf (fun e=>ag3 h (Int.ofNat_lt.2 e))⟩
end
section
variable{P:Program}{X:Inf}{N:Nat}{cu st:List Nat}
theorem rV{fn:Func}{t:Nat}{s:St}{R:AV->Prop}(hr:fn.results=#[.tmp t])(hp:(s.τ t).pureB=true)(h:R (s.τ t)):((Exit.ret:Exit)=.normal\/(Exit.ret:Exit)=.ret)/\∃ret,Og P N fn s ret/\R ret:=⟨.inr rfl,_,oV hr rfl hp rfl,h⟩
theorem LpG.on{α:Type}{c:Code}{Q:Exit->St->Prop}{s:St}(S:α->St)(M:α->Nat)(J:α->Prop)(a:α)(hc:Canon s (S a))(h0:J a)(hI:∀k,J k->vc P X N cu st c (andThen (fun s'=>∃k',M k'<M k/\Canon s' (S k')/\J k') Q) (S k)):LpG P X N cu st c Q s:=
 ⟨fun hX hd=>Dd (fun m s1=>∃k,m=M k/\s1=S k/\J k) hc ⟨a,rfl,rfl,h0⟩ fun n s hi=>by
  obtain⟨k,rfl,rfl,hj⟩:=hi;refine EWP.mono (yw hX c _ _ hd (hI k hj)) fun e s' h=>?_;cases e with
  |normal=>
   obtain⟨k',h1,h2,h3⟩:=h
   exact⟨_,_,h1,h2,k',rfl,rfl,h3⟩
  |_=>exact h⟩
end
section
variable{P:Program}{τ:Nat->AV}{η:bf}{d:Option Tmp}{ty:TypeId}{pos:String}{af:Array Edge}{g:Option (Nat×Bool)}
theorem rl{x y:Operand}{a b:Int}{ats:Array TypeId}(hx:aev τ x=.v (.int .i64 a))(hy:aev τ y=.v (.int .i64 b)):
 LOp P ⟨d,.call {callee:=.builtin .min,args:=#[x,y],argTypes:=ats},ty,pos,af,g⟩ τ η [] [] (.v (.int .i64 (min a b))):=
 .look [] fun C a hg h0 _=>by
  have h1:=h0 x (by simp[Op.operands,Call.operands])
  have h2:=h0 y (by simp[Op.operands,Call.operands])
  rw[hx]at h1
  rw[hy]at h2
  have e1:=h1.v_inv
  have e2:=h2.v_inv
  refine⟨_,?_,VR.v C _⟩
  simp[execOp,e1,e2,resolve,invoke,builtin,Lib.run_min_ints]
theorem Ay{x y:Operand}{a b:Int}{ats:Array TypeId}(hx:aev τ x=.v (.int .i64 a))(hy:aev τ y=.v (.int .i64 b)):
 LOp P ⟨d,.call {callee:=.builtin .max,args:=#[x,y],argTypes:=ats},ty,pos,af,g⟩ τ η [] [] (.v (.int .i64 (max a b))):=
 .look [] fun C a hg h0 _=>by
  have h1:=h0 x (by simp[Op.operands,Call.operands])
  have h2:=h0 y (by simp[Op.operands,Call.operands])
  rw[hx]at h1
  rw[hy]at h2
  have e1:=h1.v_inv
  have e2:=h2.v_inv
  refine⟨_,?_,VR.v C _⟩
  simp[execOp,e1,e2,resolve,invoke,builtin,Lib.run_max_ints]
end
section
variable{P:Program}{τ:Nat->AV}{η:bf}{d:Option Tmp}{ty:TypeId}{pos:String}{af:Array Edge}{g:Option (Nat×Bool)}
theorem A1{t len e n j o id ver:Nat}{x i:Operand}{k:IntKind}{b:Blk}(hu:P.underlying t=some (.array len e))(hs:ap P e=some n)(hx:aev τ x=.ptr id ver o)(hi:aev τ i=.v (.int k (Int.ofNat j)))(hj:Nat.blt j len=true)(hb:η id=some b)(hv:b.ver=ver)(hn:b.nilp=false):
 LOp P ⟨d,.indexAddr t x i,ty,pos,af,g⟩ τ η [id] [] (.ptr id ver (o+j*n)):=
 n0 (u:=0) (r:=⟨[id],[],.ptr id ver (o+j*n),0⟩) (by unfold n4;rw[hu];simp only[hs,hi,hx,hj,cond_true,fw,hb,hv,hn,Nat.beq_refl,Bool.not_false,Bool.and_true,cond_true])
theorem Fj{t kt et id ver z clock:Nat}{x i:Operand}{n:Int}{z0:Value}{es:List (Value×AV×Nat)}(ht:P.underlying t=some (.map kt et))(hk:P.underlying kt=some (.int .i64))(hz:bi P et=some z0)(hm:aev τ x=.mp id ver)(h0:aev τ i=.v (.int .i64 n))(hb:η id=some (b5 ver z clock es))
 (h:∀e∈es,∃q,e.1=.int .i64 q/\q≠n):LOp P ⟨d,.lookup t x i false,ty,pos,af,g⟩ τ η [id] [] (.v z0):=by
 refine ow (u:=0) (r:=⟨[id],[],.v z0,0⟩) ?_
 unfold B4
 rw[ht]
 simp only[h0,hz,hm,i8 hb,yl hk h]
 rfl
end
section
variable{P:Program}{τ:Nat->AV}{η:bf}{d:Option Tmp}{ty:TypeId}{pos:String}{af:Array Edge}{g:Option (Nat×Bool)}
theorem Rt{t t':Nat}{x y:Operand}{m n:Int}(hx:aev τ x=.v (.int .u64 m))(hy:aev τ y=.v (.int .u64 n))(h1:0<=m)(h2:m<=18446744073709551615)(h3:1<=n):
 LOp P ⟨d,.binOp .quo t x y t',ty,pos,af,g⟩ τ η [] [] (.v (.int .u64 (m/n))):=
 .look [] fun C a _ h4 _=>by have e1:=h4 x (by simp[Op.operands]);have e2:=h4 y (by simp[Op.operands]);rw[hx]at e1;rw[hy]at e2;refine⟨.int .u64 (m/n),?_,VR.v C _⟩;rw[<-Go.IntWalk.u64_quo m n ⟨h1,h2,h3⟩];have h0:¬(n=0):=(by omega);simp only[execOp,e1.v_inv,e2.v_inv];simp[binOp,Op.intArith,Op.intDiv,eqGuard,h0,Sem.run_bind]
theorem j8{t t':Nat}{x:Operand}{td:TypeDesc}{m:Int}{k:IntKind}(hs:P.underlying t=some td)(hd:P.underlying t'=some (.int .u64))(hx:aev τ x=.v (.int k m))(h1:0<=m)(h2:m<=18446744073709551615):
 LOp P ⟨d,.convert t t' x,ty,pos,af,g⟩ τ η [] [] (.v (.int .u64 m)):=
 .look [] fun C a _ h0 _=>by have e1:=h0 x (by simp[Op.operands]);rw[hx]at e1;refine⟨.int .u64 m,?_,VR.v C _⟩;simp[execOp,e1.v_inv,convert,run_underlying hs,run_underlying hd,Conv.intToInt,Go.IntWalk.u64_in m ⟨h1,h2⟩]
theorem R1{t t':Nat}{x:Operand}{td:TypeDesc}{m:Int}{k:IntKind}(hs:P.underlying t=some td)(hd:P.underlying t'=some (.int .u64))(hx:aev τ x=.v (.int k m)):
 LOp P ⟨d,.convert t t' x,ty,pos,af,g⟩ τ η [] [] (.v (.int .u64 (IntKind.u64.wrap m))):=
 .look [] fun C a _ h0 _=>by have e1:=h0 x (by simp[Op.operands]);rw[hx]at e1;refine⟨.int .u64 (IntKind.u64.wrap m),?_,VR.v C _⟩;simp[execOp,e1.v_inv,convert,run_underlying hs,run_underlying hd,Conv.intToInt]
theorem Rv{t:Nat}{x:Operand}{m n:Int}(hx:aev τ x=.v (.int .u64 m))(h:IntKind.u64.wrap (-m)=n):
 LOp P ⟨d,.unOp .neg t x,ty,pos,af,g⟩ τ η [] [] (.v (.int .u64 n)):=
 .look [] fun C a _ h0 _=>by have e1:=h0 x (by simp[Op.operands]);rw[hx]at e1;refine⟨.int .u64 n,?_,VR.v C _⟩;simp only[execOp,e1.v_inv];simp[Op.unary,Op.intArith,h]
theorem Vu{m:Int}(h1:-9223372036854775808<=m)(h2:m<0):IntKind.u64.wrap (-(IntKind.u64.wrap m))=-m:=by rw[IntKind.wrap_u64,IntKind.wrap_u64];omega
end
section
variable{α:Type}{f:α->List AV}{q:Nat}{l:List α}{k o:Nat}
theorem D6(hf:RowF f q)(h:k<l.length):(rF f l).drop (k*q)=f l[k]++rF f (l.drop (k+1)):=by rw[Py (f:=f) h];have h1:(rF f (l.take k)).length=k*q:=Gb hf h;rw[List.drop_append,<-h1];simp
theorem Zi(hf:RowF f q)(h:k<l.length):((rF f l).drop (k*q)).take q=f l[k]:=by rw[D6 hf h,List.take_append_of_le_length (by rw[hf.len];exact ag8 _),ahl (by rw[hf.len];exact ag8 _)]
theorem ae0{n:Nat}(h:k<n):k*q+q<=n*q:=by rw[<-Nat.succ_mul];exact Nat.mul_le_mul_right _ h
theorem zd(hf:RowF f q)(h:k<l.length){vs:List AV}{v:α}(ho:o+vs.length<=q)(hv:bg (f l[k]) o vs=f v):bg (rF f l) (k*q+o) vs=rF f (l.set k v):=by have e:l.set k v=l.take k++(v::l.drop (k+1)):=List.set_eq_take_append_cons_drop.trans (ag2 h);have h1:(rF f (l.take k)).length=k*q:=Gb hf h;have h3:(f l[k]).length=q:=hf.len _;rw[e,x9,j0,<-hv,Py (f:=f) h];unfold bg;rw[<-h1];simp only[List.take_append,List.drop_append,List.append_assoc];have e1:(rF f (l.take k)).length+o-(rF f (l.take k)).length=o:=(by omega);have e2:(rF f (l.take k)).length+o+vs.length-(rF f (l.take k)).length=o+vs.length:=(by omega);rw[e1,e2,ahl (i:=(rF f (l.take k)).length+o) (by omega),List.drop_of_length_le (i:=(rF f (l.take k)).length+o+vs.length) (by omega),show o-(f l[k]).length=0 by omega,show o+vs.length-(f l[k]).length=0 by omega];simp
end
section
variable{P:Program}{τ:Nat->AV}{η:bf}{d:Option Tmp}{ty:TypeId}{pos:String}{af:Array Edge}{g:Option (Nat×Bool)}{α:Type}{f:α->List AV}{q:Nat}{L:List α}{k o:Nat}
theorem ak(hf:RowF f q){t e n:Nat}{x y:Operand}{id ver:Nat}{v:Int}(he:P.underlying t=some (.slice e))(hs:ap P e=some q)(hx:aev τ x=.sl id ver 0 n)(hi:aev τ y=.v (.int .i64 v))(hv:v=((k:Nat):Int))(hj:k<n)(hb:η id=some ⟨ver,rF f L,q,false⟩):
 LOp P ⟨d,.indexAddr t x y,ty,pos,af,g⟩ τ η [id] [] (.ptr id ver (k*q)):=by
 subst hv
 have:=me (P:=P) (τ:=τ) (η:=η) (d:=d) (ty:=ty) (pos:=pos) (af:=af) (g:=g) (j:=k) he hs hx hi hj hb rfl rfl rfl
 rwa [Nat.zero_add]at this
theorem jn(hf:RowF f q){t:Nat}{x:Operand}{id ver:Nat}(ht:c9 P t=some (some q))(hx:aev τ x=.ptr id ver (k*q))(hb:η id=some ⟨ver,rF f L,q,false⟩)(hk:k<L.length):
 LOp P ⟨d,.load t x,ty,pos,af,g⟩ τ η [id] [] (.agg (f L[k])):=by
 have:=w9 (P:=P) (τ:=τ) (η:=η) (d:=d) (ty:=ty) (pos:=pos) (af:=af) (g:=g) (b:=⟨ver,rF f L,q,false⟩) ht hx hb rfl rfl (by show k*q+q<=(rF f L).length;rw[ib hf];exact ae0 hk)
 rwa [show((⟨ver,rF f L,q,false⟩:Blk).cs.drop (k*q)).take q=f L[k]from Zi hf hk]at this
theorem cg{t i off sz:Nat}{x:Operand}{id ver p:Nat}(hF:cp P t i=some (off,sz))(hz:Nat.beq sz 0=false)(hx:aev τ x=.ptr id ver p)(hb:η id=some ⟨ver,rF f L,q,false⟩):
 LOp P ⟨d,.fieldAddr t x i,ty,pos,af,g⟩ τ η [id] [] (.ptr id ver (p+off)):=lF hF hz hx hb rfl rfl
theorem az(hf:RowF f q){t m:Nat}{x y:Operand}{id ver:Nat}{v:α}{vs:List AV}(hs:ap P t=some m)(hx:aev τ x=.ptr id ver (k*q+o))(hb:η id=some ⟨ver,rF f L,q,false⟩)(h0:(aev τ y).known=true)(hy:(aev τ y).cells=vs)(hm:vs.length=m)(h1:vs.all AV.one=true)(hk:k<L.length)(ho:o+m<=q)(hv:bg (f L[k]) o vs=f v):
 LOp P ⟨d,.store t x y,ty,pos,af,g⟩ τ η [id] [(id,some ⟨ver,rF f (L.set k v),q,false⟩)] (.v undef):=by
 have hl:=ib hf L
 have hS:=ae0 (q:=q) hk
 have:=LOp.store (P:=P) (τ:=τ) (η:=η) (d:=d) (ty:=ty) (pos:=pos) (af:=af) (g:=g) (b:=⟨ver,rF f L,q,false⟩) (y:=y) hs hx hb rfl rfl h0 (by rw[hy];exact hm) (by rw[hy];exact h1) (by show k*q+o+m<=(rF f L).length;omega)
 have e:bg (rF f L) (k*q+o) (aev τ y).cells=rF f (L.set k v):=by rw[hy];exact zd hf hk (by omega) hv
 simp only[e]at this
 exact this
end
def Jm(P:Program)(f:FuncId)(args:List AV)(hb:List (Nat×Blk))(R:AV->List (Nat×Option Blk)->Prop):Prop:=∃ret hb',R ret hb'/\xt P f args hb hb' ret
theorem Jm.of_vc{P:Program}{X:Inf}{N:Nat}{f:FuncId}{fn:Func}{c:Code}{args:List AV}{hb:List (Nat×Blk)}{R:AV->List (Nat×Option Blk)->Prop}(hX:X.Ok P)(cu st:List Nat)(hf:P.funcs[f]? =some fn)(h0:fn.body=some c)(hN:fn.ntmps=N)(hl:Nat.ble args.length N=true)(hc:jb N c=true)
 (h:vc P X N cu st c (fun e s'=>(e=.normal\/e=.ret)/\∃ret hb',Fg P N fn s' hb' ret/\R ret hb') ⟨b7 args,hLz hb,0⟩):Jm P f args hb R:=by
 obtain⟨e,s',⟨he,ret,hb',ho,hR⟩,h2⟩:=yw hX c _ _ hc h
 refine⟨ret,hb',hR,xt.of_body hf h0 hN (aha hl) (AWP.mono h2 ?_)⟩
 rintro e1 s1 ⟨rfl,rfl⟩
 exact⟨he,ho⟩
section
variable{P:Program}{τ:Nat->AV}{η:bf}{d:Option Tmp}{ty:TypeId}{pos:String}{af:Array Edge}{g:Option (Nat×Bool)}
theorem Oj(u:Nat){t e len by_:Nat}{z:Value}{x y:Operand}{v:Int}(he:P.underlying t=some (.slice e))(hs:ap P e=some 1)(hz:bi P e=some z)(h1:(P.info? e).map (·.bytes)=some by_)
 (hx:aev τ x=.v (.int .i64 v))(hy:aev τ y=.v (.int .i64 v))(hv:v=((len:Nat):Int))(hl:by_*len<=140737488355328)(hl2:len<=140737488355328)(h0:len≠0):
 LOp P ⟨d,.makeSlice t x y,ty,pos,af,g⟩ τ η [] [(u,some ⟨0,b6 z (len*1),1,false⟩)] (.sl u 0 0 len):=by
 subst hv
 intro C a hg h6 _ h2 K Q hK
 have hu:¬C.U u:=h2 (u,some ⟨0,b6 z (len*1),1,false⟩) (by simp) (by simp)
 have e1:=h6 x (by simp[Op.operands])
 have e2:=h6 y (by simp[Op.operands])
 rw[hx]at e1
 rw[hy]at e2
 unfold ap at hs
 unfold bi at hz
 cases hi:P.info? e with
 |none=>rw[hi]at hz;cases hz
 |some inf=>
  rw[hi]at hz hs h1
  simp only[ahq]at hz
  simp only[ahp,agw]at hs h1
  let es:Array Value:=(Array.range (len*inf.size)).map fun i=>z.cells[i%z.cells.size]!
  have z1:(b6 z (len*inf.size)).length=es.size:=by simp[b6,es]
  have z2:∀i (h:i<(b6 z (len*inf.size)).length) (h':i<es.size),VR C (b6 z (len*inf.size))[i] es[i]:=fun i h h'=>by simp only[b6,List.getElem_map,List.getElem_range,es,Array.getElem_map,Array.getElem_range];exact VR.v C _
  have gsz:es.size=len*inf.size:=by simp[es]
  have h5:(execOp a.eval ⟨d,.makeSlice t x y,ty,pos,af,g⟩).run P C.w=.ok (.value (.slice (some ⟨C.w.heap.size,0,none⟩) len len)) (C.w.alloc (.cells es e)):=by
   have h0:¬(len*inf.size=0):=by rw[hs,Nat.mul_one];exact h0
   have hw:IntKind.i64.wrap (Int.ofNat len)=Int.ofNat len:=IntWalk.i64_in _ (by constructor<;>simp<;>omega);have c1:¬(((inf.bytes:Int)*Int.ofNat len>2^48)):=by have:(inf.bytes:Int)*Int.ofNat len=((inf.bytes*len:Nat):Int):=(by simp);rw[this,h1];omega
   have c2:¬((Int.ofNat len:Int)<0):=by simp
   have e1':a.eval x=.int .i64 (Int.ofNat len):=e1.v_inv;have e2':a.eval y=.int .i64 (Int.ofNat len):=e2.v_inv
   simp only[execOp,e1',e2',Instr.makeSlice,Sem.run_bind,run_underlying he,ahc,asInt,typeInfo,run_program,hi,ahd];have a1:∀w:World,(asIntOf (Value.int IntKind.i64 (Int.ofNat len))).run P w=.ok (IntKind.i64,Int.ofNat len) w:=fun w=>rfl
   simp only[a1,ahc,hw];have cc:(decide ((Int.ofNat len:Int)<0)||decide ((inf.bytes:Int)*Int.ofNat len>2^48)||decide ((Int.ofNat len:Int)<0)||decide ((Int.ofNat len:Int)>Int.ofNat len))=false:=by simp only[Bool.or_eq_false_iff,decide_eq_false_iff_not];exact⟨⟨⟨c2,c1⟩,c2⟩,Int.lt_irrefl _⟩
   rw[ag1 (by rw[cc];exact ahr)];have tn:(Int.ofNat len).toNat=len:=rfl
   simp only[tn,Sem.run_bind];have ar:∀w:World,(askRoom (len*inf.bytes)).run P w=.ok () w:=fun w=>by unfold askRoom;split<;>rfl
   simp only[ar,ahc,sizeOf,typeInfo,Sem.run_bind,run_program,hi,ahd];rw[ag1 h0];simp only[Sem.run_bind,zeroValue,typeInfo,run_program,hi,ahd,ahc,hz];rfl
  have h7:(1:Nat)=inf.size:=hs.symm
  rw[h7]at hK
  unfold Oper.wp
  rw[h5]
  refine hK _ (C.alloc u es e ⟨0,b6 z (len*inf.size),inf.size,false⟩) rfl (fun i=>by simp[Ctx.alloc]) (cy hg hu rfl (Nat.le_of_eq z1) z2) (df hg hu rfl) ?_
  have h3:(C.alloc u es e ⟨0,b6 z (len*inf.size),inf.size,false⟩).ρ u=(C.w.heap.size,0):=by simp[Ctx.alloc]
  have h4:(C.alloc u es e ⟨0,b6 z (len*inf.size),inf.size,false⟩).sz u=es.size:=by simp[Ctx.alloc]
  have:=VR.sl (C:=C.alloc u es e ⟨0,b6 z (len*inf.size),inf.size,false⟩) (id:=u) (ver:=0) (off:=0) (len:=len) (cap:=len) (b:=⟨0,b6 z (len*inf.size),inf.size,false⟩) (am _ _ _) rfl rfl (ag8 _) (by unfold maxLen;omega) (by omega)
   (by rw[h3,h4,gsz];simp)
  rw[h3]at this
  exact this
end
section
variable{C:Ctx}{id k:Nat}{b:Blk}
def Ctx.ext(C:Ctx)(id:Nat)(b:Blk)(k:Nat):Ctx:={C with η:=C.η.set id (some {b with cs:=b.cs++List.replicate k .unk})}
theorem yt(hb:C.η id=some b)(hn:b.nilp=false):Ev C (C.ext id b k) where
 os:=rfl
 tape:=rfl
 output:=rfl
 size:=ag8 _
 keep:=fun k _ hm=>rfl
 mine:=fun k ⟨id',⟨b',hb',h0⟩,hk⟩=>by
  left
  by_cases e:id'=id
  ·subst e;exact⟨id',⟨b,hb,di hn⟩,hk⟩
  ·simp only[Ctx.ext]at hb'
   rw[aq _ _ e]at hb'
   exact⟨id',⟨b',hb',h0⟩,hk⟩
 T:=fun _ h=>h
 Tnew:=fun _ h=>.inl h
 U:=fun _ h=>h
 old:=fun id' b' hid hb'=>by
  simp only[Ctx.ext]at hb'
  by_cases e:id'=id
  ·subst e
   rw[am]at hb'
   cases hb'
   exact⟨b,hb,ag8 _,fun _=>⟨rfl,rfl,by rw[dj hn];exact dj hn,rfl⟩⟩
  ·rw[aq _ _ e]at hb'
   exact⟨b',hb',ag8 _,fun _=>⟨rfl,rfl,rfl,rfl⟩⟩
theorem Df(hg:Good C)(hb:C.η id=some b)(hn:b.nilp=false)(ht:b.ver≠TV)(hk:(C.ρ id).2+b.cs.length+k<=C.sz id):Good (C.ext id b k):=by
 have he:=yt (k:=k) hb hn
 have h0:∀{id' b'},(C.ext id b k).η id'=some b'->(id'=id/\b'={b with cs:=b.cs++List.replicate k .unk})\/(id'≠id/\C.η id'=some b'):=by
  intro id' b' hb'
  simp only[Ctx.ext]at hb'
  by_cases e:id'=id
  ·subst e;rw[am]at hb';cases hb';exact .inl ⟨rfl,rfl⟩
  ·rw[aq _ _ e]at hb';exact .inr ⟨e,hb'⟩
 have h6:∀{id' b'},(C.ext id b k).η id'=some b'->b'.kind≠1->C.live id':=by
  intro id' b' hb' h5
  rcases h0 hb' with⟨rfl,rfl⟩|⟨_,h⟩
  ·exact⟨b,hb,di hn⟩
  ·exact⟨b',h,h5⟩
 refine⟨?_,?_,?_,?_,?_,?_,?_⟩
 ·intro id' b' hb'
  rcases h0 hb' with⟨rfl,rfl⟩|⟨e,hb'⟩
  ·exact hg.used hb
  ·exact hg.used hb'
 ·intro id' b' hb' h5
  rcases h0 hb' with⟨rfl,rfl⟩|⟨e,hb'⟩
  ·rw[show Blk.kind {b with cs:=b.cs++List.replicate k .unk}=0 from dj hn]at h5;cases h5
  ·obtain⟨ob,h1,h2⟩:=hg.obj hb' h5
   exact⟨ob,h1,h2.mono hg he⟩
 ·intro id' b' hb' h5
  rcases h0 hb' with⟨rfl,rfl⟩|⟨e,hb'⟩
  ·obtain⟨c,t',h1,h2,h3,h4⟩:=hg.blk hb hn
   refine⟨c,t',h1,h2,by show(C.ρ id').2+(b.cs++List.replicate k AV.unk).length<=_;rw[agx,List.length_replicate];omega,fun j h h'=>?_⟩
   by_cases hj:j<b.cs.length
   ·have:=(h4 j hj h').mono hg he
    show VR _ ((b.cs++List.replicate k AV.unk)[j]'h) _
    rw[List.getElem_append_left hj];exact this
   ·have e1:(b.cs++List.replicate k AV.unk)[j]'h=.unk:=by rw[List.getElem_append_right (by omega)];simp
    show VR _ ((b.cs++List.replicate k AV.unk)[j]'h) _
    rw[e1];exact .imm (.unk _)
  ·obtain⟨c,t',h1,h2,h3,h4⟩:=hg.blk hb' h5
   exact⟨c,t',h1,h2,h3,fun j h h'=>(h4 j h h').mono hg he⟩
 ·intro i i' h1 h2 h3
  obtain⟨b1,g1,g2⟩:=h1
  obtain⟨b2,g3,g4⟩:=h2
  exact hg.inj (h6 g1 g2) (h6 g3 g4) h3
 ·exact hg.tok
 ·intro q hq hT
  obtain⟨i,⟨b1,g1,g2⟩,g3⟩:=hq
  exact hg.apart ⟨i,h6 g1 g2,g3⟩ hT
 ·intro id' b' hb' hv h5
  rcases h0 hb' with⟨rfl,rfl⟩|⟨e,hb'⟩
  ·exact absurd hv ht
  ·exact hg.tight hb' hv h5
end
theorem Bl{cs news:List AV}{o:Nat}(ho:o<=cs.length):bg (cs++List.replicate (o+news.length-cs.length) .unk) o news=bg cs o news:=by
 unfold bg
 rw[List.take_append_of_le_length ho]
 congr 1
 by_cases h:o+news.length<=cs.length
 ·rw[show o+news.length-cs.length=0 by omega];simp
 ·rw[List.drop_eq_nil_of_le (by simp;omega),List.drop_eq_nil_of_le (by omega)]
section
variable{P:Program}{N:Nat}{τ:Nat->AV}{η:bf}{ty:TypeId}{pos:String}{af:Array Edge}{g:Option (Nat×Bool)}{u d:Nat}
theorem Rl{t e sz by_:Nat}{s x:Operand}{z:Value}{fp:List Nat}{id ver len m:Nat}{b:Blk}{news:List AV}(ht:P.underlying t=some (.slice e))(hs:ap P e=some sz)(hz:bi P e=some z)(hc:(P.info? e).map (·.bytes)=some by_)(ge:z.cells.size=sz)
 (hx:aev τ s=.sl id ver 0 len)(hb:η id=some b)(hv:b.ver=ver)(hn:b.nilp=false)(hd:b.esz=sz)(gf:ver≠TV)(hh:len*sz<=b.cs.length)(hpos:0<len)(hl:Src η fp (aev τ x) m news)(hm:0<m)(hnl:news.length=m*sz)(h1:news.all AV.one=true)
 (ho:(len+m)*by_<=140737488355328)(h3:len+m<=140737488355328)(C:Ctx)(a:Act)(hg:Good C)(g5:∀y∈[s,x],VR C (aev τ y) (a.eval y))(g6:∀i∈id::fp,C.η i=η i)(hU:¬C.U u):
 ∃v C',(Builtin.append_ #[t,t] ty #[a.eval s,a.eval x]).run P C.w=.ok v C'.w/\Good C'/\Ev C C'/\
  ((C'.η=C.η.set id (some ⟨ver,bg b.cs (len*sz) news,sz,false⟩)/\(∀i,C'.U i↔C.U i)/\VR C' (.sl id ver 0 (len+m)) v)\/
   (C'.η=C.η.set u (some ⟨0,b.cs.take (len*sz)++news,sz,false⟩)/\(∀i,C'.U i↔C.U i\/i=u)/\VR C' (.sl u 0 0 (len+m)) v)):=by
 have hb':C.η id=some b:=(g6 id (by simp)).trans hb
 have e1:=g5 s (by simp)
 rw[hx]at e1
 obtain⟨ad,cap,e2,c1,c2,c3,c4⟩:=e1.sl_inv hb' hv hn
 unfold ap at hs
 unfold bi at hz
 cases hi:P.info? e with
 |none=>rw[hi]at hz;cases hz
 |some inf=>
  rw[hi]at hz hs hc
  simp only[ahq]at hz
  simp only[ahp,agw]at hs hc
  subst hs;subst hc
  have g7:(b.cs.take (len*inf.size)).length=len*inf.size:=by simp;omega
  have c5:ad=⟨(C.ρ id).1,(C.ρ id).2+0,none⟩/\(C.ρ id).2+0+cap*b.esz<=C.sz id:=c4.resolve_left (fun h=>by omega)
  clear c4
  rcases hl C hg (fun i hi=>g6 i (by simp[hi])) _ (g5 x (by simp))with⟨h0,_⟩|⟨ad2,c',vals,g8,v1,v2,v3⟩
  ·omega
  have h7:∀u∈vals,u.oneCell'=true:=by
   intro u hu
   obtain⟨j,hj,rfl⟩:=ahe hu
   exact(v3 j (by omega) hj).one (List.all_eq_true.1 h1 _ (agt _))
  by_cases h2:len+m<=cap
  ·obtain⟨rfl,c4⟩:=c5
   have ha:vals.length=m*inf.size:=by omega
   obtain⟨cs,t',g1,g2,g3,g4⟩:=hg.blk hb' hn
   have hp:(len+m)*inf.size<=cap*inf.size:=Nat.mul_le_mul_right _ h2
   rw[Nat.add_mul]at hp
   have hfit:(C.ρ id).2+len*inf.size+news.length<=cs.size:=by rw[hd]at c4;omega
   have hr:=pk (P:=P) (ty:=ty) ht hi C.w (C.ρ id).1 ((C.ρ id).2+0) len cap cs t' g1 ad2 m c' vals ha v2 h7 h2 (by omega)
   rw[<-e2,<-g8]at hr
   generalize hk:len*inf.size+news.length-b.cs.length=k
   have g9:=Df (k:=k) hg hb' hn (by rw[hv];exact gf) (by omega)
   have ga:=yt (C:=C) (k:=k) hb' hn
   have gb:(C.ext id b k).η id=some {b with cs:=b.cs++List.replicate k .unk}:=am _ _ _
   have gg:∀i (h:i<news.length) (h':i<vals.length),VR (C.ext id b k) news[i] vals[i]:=fun i h h'=>(v3 i h h').mono hg ga
   have gh:=ld (o:=len*inf.size) (vs:=news) (xs:=vals) g9 gb hn (by simp;omega) v1 gg
   have gi:=kz (o:=len*inf.size) (vs:=news) (xs:=vals) g9 gb hn
   have hη:((C.ext id b k).store id {b with cs:=b.cs++List.replicate k .unk} (len*inf.size) news vals).η=C.η.set id (some ⟨ver,bg b.cs (len*inf.size) news,inf.size,false⟩):=by
    have e5:({b with cs:=bg (b.cs++List.replicate k .unk) (len*inf.size) news}:Blk)=⟨ver,bg b.cs (len*inf.size) news,inf.size,false⟩:=by
     rw[<-hk,Bl hh,<-hv,<-hd,<-hn]
    show(C.η.set id _).set id _=_
    rw[e5]
    funext i
    by_cases ei:i=id
    ·subst ei;rw[am,am]
    ·rw[aq _ _ ei,aq _ _ ei,aq _ _ ei]
   refine⟨_,_,by rw[Nat.add_zero]at hr;exact hr,gh,ga.trans gi,.inl ⟨hη,fun i=>Iff.rfl,?_⟩⟩
   have:=VR.sl (C:=(C.ext id b k).store id {b with cs:=b.cs++List.replicate k .unk} (len*inf.size) news vals) (id:=id) (ver:=ver) (off:=0) (len:=len+m) (cap:=cap) (b:=⟨ver,bg b.cs (len*inf.size) news,inf.size,false⟩) (by rw[hη];exact am _ _ _) rfl rfl h2 c2 h3 (by rw[hd]at c4;exact c4)
   simpa[Ctx.store,Ctx.ext]using this
  ·-- a new row
   have ha:vals.length=m*inf.size:=by omega
   obtain⟨f,hf⟩:=d7 (n:=len*inf.size) (p:=fun j y=>C.w.cell? ⟨(C.ρ id).1,(C.ρ id).2+j,none⟩=some y/\∀h:j<b.cs.length,VR C b.cs[j] y) (fun j hj=>by
    obtain⟨y,hy,gj⟩:=hg.cell hb' hn (j:=j) (by omega)
    exact⟨y,hy,fun _=>gj⟩)
   have h8:∀(j:Nat) (u:Value),((List.range (len*inf.size)).map f)[j]? =some u->C.w.cell? (ad.add j)=some u:=by
    intro j u hj
    obtain⟨h4,he⟩:=ahn.1 hj
    simp only[List.getElem_map,List.getElem_range]at he
    subst he
    have hw:j<len*inf.size:=by simpa using h4
    rw[c5.1,Addr.add_mid,Nat.add_zero]
    exact(hf j hw).1
   have h4:cap<len+m:=by omega
   have hr:=run_append_grow (P:=P) C.w t ty e inf z ht hi hz ad len cap ((List.range (len*inf.size)).map f) (by simp) h8 ad2 m c' vals ha v2 h4 (by omega) (growslice_fits h4 ho)
   rw[<-e2,<-g8]at hr
   have gc:=grownCap_ge C.w (len+m) cap e
   have gk:len+m<=maxLen:=by unfold maxLen;omega
   have gl:grownCap C.w (len+m) cap e<=maxLen:=grownCap_le_maxLen C.w (len+m) cap e gk
   generalize h5:(((List.range (len*inf.size)).map f).toArray++vals.toArray++Builtin.zeroCells z.cells (grownCap C.w (len+m) cap e-(len+m)))=nc at hr
   have h9:nc.size=grownCap C.w (len+m) cap e*inf.size:=by
    rw[<-h5]
    simp only[Array.size_append,List.size_toArray,ag0,List.length_range,size_zeroCells,ge,ha,<-Nat.add_mul]
    congr 1
    omega
   have g0:∀j (h:j<(b.cs.take (len*inf.size)++news).length) (h':j<nc.size),VR C (b.cs.take (len*inf.size)++news)[j] nc[j]:=by
    intro j hj gm
    have hjl:j<len*inf.size+news.length:=by simpa[g7]using hj
    have h6:nc[j]? =(((List.range (len*inf.size)).map f)++vals)[j]?:=by
     rw[<-h5,Array.getElem?_append_left (by simp;omega)]
     simp
    rw[Array.getElem?_eq_getElem gm]at h6
    by_cases h4:j<len*inf.size
    ·have e4:(b.cs.take (len*inf.size)++news)[j]=b.cs[j]'(by omega):=by
      rw[List.getElem_append_left (by omega)];simp
     rw[List.getElem?_append_left (by simpa using h4)]at h6
     simp only[List.getElem?_map,List.getElem?_range h4,ahp,agw]at h6
     rw[e4,h6]
     exact(hf j h4).2 (by omega)
    ·obtain⟨q,rfl⟩:∃q,j=len*inf.size+q:=⟨j-len*inf.size,by omega⟩
     have hq:q<news.length:=by omega
     have e4:(b.cs.take (len*inf.size)++news)[len*inf.size+q]=news[q]:=by
      have:(b.cs.take (len*inf.size)++news)[len*inf.size+q]? =news[q]?:=by
       rw[List.getElem?_append_right (by omega)]
       congr 1
       omega
      rw[agu hj,agu hq]at this
      exact Option.some.inj this
     rw[List.getElem?_append_right (by simp)]at h6
     simp only[ag0,List.length_range,Nat.add_sub_cancel_left]at h6
     rw[agu (by omega)]at h6
     rw[e4,Option.some.inj h6]
     exact v3 q hq (by omega)
   have gn:(C.w.drew.alloc (.cells nc e)).heap[C.w.heap.size]? =some (.cells nc e (0,0)):=heap_alloc_new C.w.drew _
   have gd:ReplOk C u (C.w.heap.size,0) nc.size ⟨0,b.cs.take (len*inf.size)++news,inf.size,false⟩ (C.w.drew.alloc (.cells nc e)):=by
    refine⟨rfl,rfl,rfl,by simp,fun k hk _=>Below.heap_alloc C.w.drew _ k hk,.inr (ag8 _),fun h=>absurd h hU,rfl,fun e=>absurd e (by show¬((0:Nat)=TV);decide),nc,e,gn,rfl,?_,fun j h h'=>?_⟩
    ·rw[h9]
     have:(len+m)*inf.size<=grownCap C.w (len+m) cap e*inf.size:=Nat.mul_le_mul_right _ gc
     rw[Nat.add_mul]at this
     simp[g7];omega
    ·have:=g0 j h (by simpa using h')
     simpa using this
   have:=VR.sl (C:=C.repl u (C.w.heap.size,0) nc.size ⟨0,b.cs.take (len*inf.size)++news,inf.size,false⟩ (C.w.drew.alloc (.cells nc e))) (id:=u) (ver:=0) (off:=0) (len:=len+m) (cap:=grownCap C.w (len+m) cap e) (b:=⟨0,b.cs.take (len*inf.size)++news,inf.size,false⟩) (am _ _ _) rfl rfl gc gl h3
    (by simp[Ctx.repl,h9])
   exact⟨_,_,hr,mv hg gd,mw hg gd,.inr ⟨rfl,fun i=>by simp[Ctx.repl],by simpa[Ctx.repl]using this⟩⟩
theorem Di{ops:Array Oper}{K:St->Prop}{l:List Oper}{t e sz by_:Nat}{s x:Operand}{z:Value}{fp:List Nat}{id ver len m:Nat}{b:Blk}{news:List AV}(ht:P.underlying t=some (.slice e))(hs:ap P e=some sz)(hz:bi P e=some z)(hh:(P.info? e).map (·.bytes)=some by_)(hj:z.cells.size=sz)
 (hx:aev τ s=.sl id ver 0 len)(hb:η id=some b)(hv:b.ver=ver)(hn:b.nilp=false)(hl:b.esz=sz)(ho:ver≠TV)(h4:len*sz<=b.cs.length)(h5:0<len)(h6:Src η fp (aev τ x) m news)(hm:0<m)(hp:news.length=m*sz)(h1:news.all AV.one=true)
 (h7:(len+m)*by_<=140737488355328)(h0:len+m<=140737488355328)
 (hw:m3 ops τ ⟨some d,.call {callee:=.builtin .append,args:=#[s,x],argTypes:=#[t,t]},ty,pos,af,g⟩=some true)(hd:iv N ops ⟨some d,.call {callee:=.builtin .append,args:=#[s,x],argTypes:=#[t,t]},ty,pos,af,g⟩=true)(hu:Nat.ble (u+1) TOP=true)
 (hA:A7 P N ops l K ⟨j1 τ (some d) (.sl id ver 0 (len+m)),η.set id (some ⟨ver,bg b.cs (len*sz) news,sz,false⟩),u⟩)
 (hB:A7 P N ops l K ⟨j1 τ (some d) (.sl u 0 0 (len+m)),η.set u (some ⟨0,b.cs.take (len*sz)++news,sz,false⟩),u+1⟩):
 A7 P N ops (⟨some d,.call {callee:=.builtin .append,args:=#[s,x],argTypes:=#[t,t]},ty,pos,af,g⟩::l) K ⟨τ,η,u⟩:=by
 intro C a Q hr hK
 unfold wpList
 rw[ke hw hr (iv.guard hd)]
 simp only[if_true]
 left
 have hu1:=aha hu
 have hU:¬C.U u:=fun h=>by have:=hr.u _ h;simp only at this;omega
 obtain⟨v,C',h8,hg,he,h2⟩:=Rl (ty:=ty) (u:=u) ht hs hz hh hj hx hb hv hn hl ho h4 h5 h6 hm hp h1 h7 h0 C a hr.good (fun y _=>hr.eval y) (fun i _=>by rw[hr.η]) hU
 unfold Oper.wp
 rw[dv C.w h8]
 rcases h2 with⟨hη,h9,ha⟩|⟨hη,h9,ha⟩
 ·have h3:=hr.put he hg (u':=u) (fun i hi=>hr.u i ((h9 i).1 hi)) (iv.dst hd) ha
  rw[hη,hr.η]at h3
  exact hA C' _ Q h3 (fun s' C'' a' hk hc hf=>hK s' C'' a' hk hc (he.toFr.trans hf))
 ·have h3:=hr.put he hg (u':=u+1) (fun i hi=>by
   rcases(h9 i).1 hi with h|rfl
   ·have:=hr.u i h;simp only at this;omega
   ·exact .inl (Nat.lt_succ_self _)) (iv.dst hd) ha
  rw[hη,hr.η]at h3
  exact hB C' _ Q h3 (fun s' C'' a' hk hc hf=>hK s' C'' a' hk hc (he.toFr.trans hf))
end
section
variable{P:Program}{τ:Nat->AV}{η:bf}{d:Option Tmp}{ty:TypeId}{pos:String}{af:Array Edge}{g:Option (Nat×Bool)}
theorem ut{t t':Nat}{x:Operand}{td:TypeDesc}{m:Int}{k:IntKind}(hs:P.underlying t=some td)(hd:P.underlying t'=some (.int .u8))(hx:aev τ x=.v (.int k m))(h1:0<=m)(h2:m<=255):
 LOp P ⟨d,.convert t t' x,ty,pos,af,g⟩ τ η [] [] (.v (.int .u8 m)):=
 .look [] fun C a _ h0 _=>by
  have e1:=h0 x (by simp[Op.operands])
  rw[hx]at e1
  refine⟨.int .u8 m,?_,VR.v C _⟩
  simp[execOp,e1.v_inv,convert,run_underlying hs,run_underlying hd,Conv.intToInt,Go.IntWalk.u8_in m ⟨h1,h2⟩]
end
def mSs:Nat->List ByteArray->List (Value×AV×Nat)
 |_,[]=>[]
 |i,p::r=>(.string p,.v (.bool true),i)::mSs (i+1) r
theorem Lv:∀(i:Nat) (l:List ByteArray) (p:ByteArray),mSs i l++[(.string p,.v (.bool true),i+l.length)]=mSs i (l++[p])
 |i,[],p=>rfl
 |i,q::r,p=>by
  have:=Lv (i+1) r p
  simp only[mSs,List.cons_append,ahf]
  rw[show i+(r.length+1)=i+1+r.length by omega,this]
theorem Gq(D:List Nat):∀(i:Nat) (l:List ByteArray),inL D ((mSs i l).map fun e=>.agg [.v e.1,e.2.1,.v (.int .i64 (Int.ofNat e.2.2))])=true
 |_,[]=>rfl
 |i,p::r=>by
  have:=Gq D (i+1) r
  simp only[mSs,ahh,inL,AV.inB,this]
  rfl
theorem Lu(u:Nat):∀(i:Nat) (l:List ByteArray),m9 u ((mSs i l).map fun e=>.agg [.v e.1,e.2.1,.v (.int .i64 (Int.ofNat e.2.2))])=true
 |_,[]=>rfl
 |i,p::r=>by
  have:=Lu u (i+1) r
  simp only[mSs,ahh,m9,AV.lowB,this]
  rfl
theorem Lt(g:Nat->Nat):∀(i:Nat) (l:List ByteArray),((mSs i l).map fun e=>(e.1,e.2.1.ren g,e.2.2))=mSs i l
 |_,[]=>rfl
 |i,p::r=>by simp[mSs,AV.ren,Lt g (i+1) r]
abbrev jh(L:List ByteArray):Blk:=b5 0 0 L.length (mSs 0 L)
theorem de(u:Nat)(L:List ByteArray):m9 u (jh L).cs=true:=by
 show m9 u (i7 L.length (mSs 0 L))=true
 unfold i7
 simp only[m9,AV.lowB,Bool.true_and]
 exact Lu u 0 L
theorem Ei(D:List Nat)(c:Nat)(l:List ByteArray):inL D (i7 c (mSs 0 l))=true:=by
 unfold i7
 simp only[inL,AV.inB,Bool.true_and]
 exact Gq D 0 l
theorem zv{g:Nat->Nat}{L:List ByteArray}:(jh L).ren g=jh L:=by
 show(b5 _ _ _ _).ren g=_
 unfold b5 Blk.ren
 simp only[qt,Lt]
 rfl
theorem K9{K:List Nat}{L:List ByteArray}:zq K (jh L):=⟨Ei _ _ _,.inr (.inr (.inl ⟨L.length,_,rfl⟩))⟩
def hasS(L:List ByteArray)(k:ByteArray):Bool:=L.any fun x=>k==x
theorem N1{a b:ByteArray}(h:(a==b)=true):a=b:=by
 cases a;cases b
 have h1:(_==_)=true:=h
 exact congrArg _ (eq_of_beq h1)
theorem N0(a:ByteArray):(a==a)=true:=by
 obtain⟨d⟩:=a
 show(d==d)=true
 exact beq_self_eq_true d
theorem Qm{L:List ByteArray}{k:ByteArray}(h:hasS L k=true):k∈L:=by
 obtain⟨x,hx,e⟩:=List.any_eq_true.1 h
 rw[N1 e];exact hx
section
variable{P:Program}{kt:TypeId}
theorem lu{k:ByteArray}{e:Bool}(hk:P.underlying kt=some .string):da P (Instr.checkKey e 10000 kt (.string k))=some ():=by
 show da P (Instr.checkKey e (9999+1) kt (.string k))=some ()
 unfold Instr.checkKey
 have:da P (underlying kt)=some .string:=lq hk
 exact fq this rfl
theorem G3{k:ByteArray}:∀(L:List ByteArray) (i j:Nat),∃r,Instr.findNow .string (.string k) (d5 (mSs i L)) j=some r/\(match r with
 |none=>hasS L k=false
 |some (q,_)=>hasS L k=true/\∃h:q-j<L.length,j<=q/\(mSs i L)[q-j]? =some (.string L[q-j],.v (.bool true),i+(q-j))/\L[q-j]=k)
 |[],i,j=>⟨none,rfl,rfl⟩
 |x::L,i,j=>by
  obtain⟨r,h1,h2⟩:=G3 (k:=k) L (i+1) (j+1)
  cases hx:(k==x)with
  |true=>exact⟨some (j,undef),by simp[d5,mSs,Instr.findNow,Instr.sameNow,hx],⟨by simp[hasS,hx],by simp,ag8 _,by simp[mSs],by simp[N1 hx]⟩⟩
  |false=>
   refine⟨r,?_,?_⟩
   ·simp only[d5,mSs,ahh,Instr.findNow,Instr.sameNow,hx]
    exact h1
   ·cases r with
    |none=>simpa[hasS,hx]using h2
    |some p=>
     obtain⟨q,v⟩:=p
     obtain⟨g1,g2,g3,g4,g5⟩:=h2
     refine⟨by simpa[hasS,hx]using g1,by simp;omega,by omega,?_,by simp only[show q-j=q-(j+1)+1 by omega,List.getElem_cons_succ];exact g5⟩
     have e:q-j=q-(j+1)+1:=by omega
     simp only[mSs,e,List.getElem?_cons_succ,List.getElem_cons_succ]
     rw[g4,show i+1+(q-(j+1))=i+(q-(j+1)+1)by omega]
theorem Th{k:ByteArray}{L:List ByteArray}(hk:P.underlying kt=some .string):∃r,pg P kt (.string k) (mSs 0 L)=some r/\(match r with
 |none=>hasS L k=false
 |some q=>hasS L k=true/\∃h:q<L.length,(mSs 0 L)[q]? =some (.string L[q],.v (.bool true),q)/\L[q]=k):=by
 obtain⟨r,h1,h2⟩:=G3 (k:=k) L 0 0
 have h3:da P (Instr.findKey kt (.string k) (d5 (mSs 0 L)))=some r:=by
  unfold Instr.findKey
  refine fq (lq hk) ?_
  rw[h1]
  rfl
 unfold pg
 rw[lu hk]
 simp only[h3]
 cases r with
 |none=>exact⟨none,rfl,h2⟩
 |some p=>
  obtain⟨q,v⟩:=p
  obtain⟨g1,g2,g3,g4,g5⟩:=h2
  exact⟨some q,rfl,g1,by simpa using g2,by simpa using g4,by simpa using g5⟩
end
section
variable{P:Program}{τ:Nat->AV}{η:bf}{d:Option Tmp}{ty:TypeId}{pos:String}{af:Array Edge}{g:Option (Nat×Bool)}
theorem LOp.hasS{t kt et id ver z clock:Nat}{x i:Operand}{k:ByteArray}{L:List ByteArray}(ht:P.underlying t=some (.map kt et))(hk:P.underlying kt=some .string)(hz:bi P et=some (.bool false))(hm:aev τ x=.mp id ver)(h0:aev τ i=.v (.string k))(hb:η id=some (b5 ver z clock (mSs 0 L))):
 LOp P ⟨d,.lookup t x i false,ty,pos,af,g⟩ τ η [id] [] (.v (.bool (hasS L k))):=by
 obtain⟨r,h1,h2⟩:=Th (P:=P) (k:=k) (L:=L) hk
 refine ow (u:=0) (r:=⟨[id],[],.v (.bool (YtmbmbhkemgmhfaaGreatDoor.hasS L k)),0⟩) ?_
 unfold B4
 rw[ht]
 simp only[h0,hz,hm,i8 hb,h1]
 cases r with
 |none=>simp only[h2];rfl
 |some q=>
  obtain⟨g1,g2,g3⟩:=h2
  simp only[g1,g3];rfl
def Ma(L:List ByteArray)(k:ByteArray):List ByteArray:=bif hasS L k then L else L++[k]
theorem vh{α:Type}:∀(l:List α) (n:Nat) (a:α),l[n]? =some a->iw l n a=l
 |[],_,_,_=>rfl
 |x::l,0,a,h=>by simp at h;simp[iw,h]
 |x::l,n+1,a,h=>by simp only[iw];rw[vh l n a (by simpa using h)]
theorem uu{t kt et id:Nat}{m i x:Operand}{k:ByteArray}{L:List ByteArray}(ht:P.underlying t=some (.map kt et))(hk:P.underlying kt=some .string)(hm:aev τ m=.mp id 0)(h0:aev τ i=.v (.string k))(hx:aev τ x=.v (.bool true))(hb:η id=some (jh L)):
 LOp P ⟨d,.mapUpdate t m i x,ty,pos,af,g⟩ τ η [id] [(id,some (jh (Ma L k)))] (.v undef):=by
 obtain⟨r,h1,h2⟩:=Th (P:=P) (k:=k) (L:=L) hk
 cases r with
 |none=>
  have e:jh (Ma L k)=b5 0 0 (L.length+1) (mSs 0 L++[(.string k,.v (.bool true),L.length)]):=by
   have:=Lv 0 L k
   rw[Nat.zero_add]at this
   rw[this,Ma,h2];simp[jh]
  rw[e]
  refine kb (u:=0) (r:=⟨[id],[(id,some (b5 0 0 (L.length+1) (mSs 0 L++[(.string k,.v (.bool true),L.length)])))],.v undef,0⟩) (.inl rfl) ?_
  unfold ny
  rw[ht]
  simp only[h0,hm,hx,i8 hb,lu hk,h1];rfl
 |some q=>
  obtain⟨g1,g2,g3,g4⟩:=h2
  have e:jh (Ma L k)=b5 0 0 L.length (iw (mSs 0 L) q (.string k,.v (.bool true),q)):=by
   rw[vh _ _ _ (by rw[g3,g4]),Ma,g1];rfl
  rw[e]
  refine kb (u:=0) (r:=⟨[id],[(id,some (b5 0 0 L.length (iw (mSs 0 L) q (.string k,.v (.bool true),q))))],.v undef,0⟩) (.inl rfl) ?_
  unfold ny
  rw[ht]
  have sb:Instr.sameBits 10000 (.string L[q]) (.string k)=true:=by
   rw[g4]
   show(k==k)=true
   exact N0 k
  simp only[h0,hm,hx,i8 hb,lu hk,h1,g3,sb];rfl
end
def WkS(s s1:St):Prop:=∀N C a,SRel N C s a->∃C',C'.w=C.w/\SRel N C' s1 a/\Fr C C'
theorem xd{s s1:St}(h:Canon s s1):WkS s s1:=fun _ _ _ hr=>h.rel hr
theorem WkS.trans{s s1 s2:St}(h:WkS s s1)(k:WkS s1 s2):WkS s s2:=fun N C a hr=>by
 obtain⟨C1,w1,r1,f1⟩:=h N C a hr
 obtain⟨C2,w2,r2,f2⟩:=k N C1 a r1
 exact⟨C2,w2.trans w1,r2,f1.trans f2⟩
section
variable{P:Program}{N:Nat}{Q:Exit->St->Prop}{s:St}
theorem R5{c:Code}{e:Exit}{s1:St}(h:AWP P N c (fun e1 s0=>e1=e/\WkS s0 s1) s)(hq:Q e s1):EWP P N c Q s:=by
 refine⟨e,s1,hq,fun C a hr=>Code.wp_mono ?_ (h C a hr)⟩
 rintro e1 a' w' ⟨s0,C',⟨rfl,hw⟩,rfl,h0,hf⟩
 obtain⟨C2,w2,r2,f2⟩:=hw N C' a' h0
 exact⟨s1,C2,⟨rfl,rfl⟩,w2,r2,hf.trans f2⟩
variable{X:Inf}{cu st:List Nat}{ops:Array Oper}
theorem Oe{id:Nat}{dr:Bool}{Q:Exit->St->Prop}{s s1:St}(h:AWP P N (.region id ops dr) (fun e1 s0=>e1=.normal/\WkS s0 s1) s)(hq:Q .normal s1):RegG P X N cu st id ops dr Q s:=⟨fun _ _=>R5 h hq⟩
end
theorem Xp{τ:Nat->AV}{η:bf}{u id:Nat}{b:Blk}(n:Nat)(hb:η id=some b)(hn:b.nilp=false)(ht:b.ver≠TV){b':Blk}(hb':b'=⟨b.ver,b.cs.take n,b.esz,false⟩):WkS ⟨τ,η,u⟩ ⟨τ,η.set id (some b'),u⟩:=by
 subst hb'
 intro N C a hr
 have h7:C.η id=some b:=by rw[hr.η];exact hb
 let C':Ctx:={C with η:=C.η.set id (some ⟨b.ver,b.cs.take n,b.esz,false⟩)}
 have same:C'.η id=some ⟨b.ver,b.cs.take n,b.esz,false⟩:=am _ _ _
 have oth:∀{i},i≠id->C'.η i=C.η i:=fun h=>aq _ _ h
 have hk:(Blk.mk b.ver (b.cs.take n) b.esz false).kind=b.kind:=by rw[dj hn];rfl
 have cas:∀{i b1},C'.η i=some b1->(i=id/\b1=⟨b.ver,b.cs.take n,b.esz,false⟩)\/(i≠id/\C.η i=some b1):=by
  intro i b1 h
  by_cases e:i=id
  ·subst e;rw[same]at h;cases h;exact .inl ⟨rfl,rfl⟩
  ·rw[oth e]at h;exact .inr ⟨e,h⟩
 have back:∀{i b1},C.η i=some b1->∃b2,C'.η i=some b2/\b2.ver=b1.ver/\b2.kind=b1.kind/\b2.esz=b1.esz:=by
  intro i b1 h
  by_cases e:i=id
  ·subst e;rw[h7]at h;cases h;exact⟨_,same,rfl,hk,rfl⟩
  ·exact⟨b1,(oth e).trans h,rfl,rfl,rfl⟩
 have fwd:∀{i b2},C'.η i=some b2->∃b1,C.η i=some b1/\b2.ver=b1.ver/\b2.kind=b1.kind/\b2.esz=b1.esz:=by
  intro i b2 h
  rcases cas h with⟨rfl,rfl⟩|⟨e,h⟩
  ·exact⟨b,h7,rfl,hk,rfl⟩
  ·exact⟨b2,h,rfl,rfl,rfl⟩
 have h0:∀{i},C'.live i->C.live i:=by
  rintro i ⟨b2,h,h9⟩
  obtain⟨b1,h1,_,h2,_⟩:=fwd h
  exact⟨b1,h1,by rw[<-h2];exact h9⟩
 have h5:∀{k},C'.mine k->C.mine k:=fun⟨i,h1,h2⟩=>⟨i,h0 h1,h2⟩
 have h6:Ev C C':=by
  refine⟨⟨rfl,rfl,rfl,ag8 _,fun _ _ _=>rfl,fun k h=>.inl (h5 h),fun _ h=>h,fun _ h=>.inl h⟩,fun _ h=>h,fun i b2 hu h=>?_⟩
  obtain⟨b1,h1,h2,h3,h4⟩:=fwd h
  exact⟨b1,h1,by omega,fun _=>⟨rfl,rfl,h3,h4⟩⟩
 have hg:Good C':=by
  refine⟨?_,?_,?_,fun h1 h2=>hr.good.inj (h0 h1) (h0 h2),hr.good.tok,fun h=>hr.good.apart (h5 h),?_⟩
  ·intro i b2 h
   obtain⟨b1,h1,_⟩:=fwd h
   exact hr.good.used h1
  ·intro i b2 h h2
   rcases cas h with⟨rfl,rfl⟩|⟨e,h⟩
   ·rw[hk,dj hn]at h2;cases h2
   ·obtain⟨o,g1,g2⟩:=hr.good.obj h h2
    exact⟨o,g1,g2.mono hr.good h6⟩
  ·intro i b2 h h2
   rcases cas h with⟨rfl,rfl⟩|⟨e,h⟩
   ·obtain⟨c,t,g1,g2,g3,g4⟩:=hr.good.blk h7 hn
    refine⟨c,t,g1,g2,ahb (Nat.add_le_add_left (by simp;omega) _) g3,fun j hj h8=>?_⟩
    have hl:j<b.cs.length:=by simp at hj;omega
    have:=(g4 j hl h8).mono hr.good h6
    simpa using this
   ·obtain⟨c,t,g1,g2,g3,g4⟩:=hr.good.blk h h2
    exact⟨c,t,g1,g2,g3,fun j hj h8=>(g4 j hj h8).mono hr.good h6⟩
  ·intro i b2 h h1 h2
   rcases cas h with⟨rfl,rfl⟩|⟨e,h⟩
   ·exact absurd h1 ht
   ·exact hr.good.tight h h1 h2
 refine⟨C',rfl,⟨hg,?_,hr.u,hr.defers,hr.size,fun t=>(hr.τ t).mono hr.good h6⟩,h6.toFr⟩
 show C.η.set id _=η.set id _
 rw[hr.η]
theorem Bk{α:Type}{f:α->List AV}{q:Nat}(hf:RowF f q){l:List α}{k:Nat}(h:k<l.length)(v:α):bg (rF f l) (k*q) (f v)=rF f (l.set k v):=by
 have e:l.set k v=l.take k++(v::l.drop (k+1)):=List.set_eq_take_append_cons_drop.trans (ag2 h)
 have h1:(rF f (l.take k)).length=k*q:=Gb hf h
 have h2:(f v).length=q:=hf.len v
 have h3:(f l[k]).length=q:=hf.len _
 rw[e,x9,j0,Py (f:=f) h]
 unfold bg
 rw[List.take_append_of_le_length (by omega),ahl (by omega),<-h1,List.append_assoc,List.drop_append,List.drop_append]
 have e2:(rF f (l.take k)).length+(f v).length-(rF f (l.take k)).length=q:=by omega
 simp[e2,h2,h3,List.drop_of_length_le]
section
variable{P:Program}{τ:Nat->AV}{η:bf}{d:Option Tmp}{ty:TypeId}{pos:String}{af:Array Edge}{g:Option (Nat×Bool)}
theorem o6{t t':Nat}{x y:Operand}{m n:Int}(hx:aev τ x=.v (.int .i32 m))(hy:aev τ y=.v (.int .i32 n))(h1:-2147483648<=m+n)(h2:m+n<=2147483647):
 LOp P ⟨d,.binOp .add t x y t',ty,pos,af,g⟩ τ η [] [] (.v (.int .i32 (m+n))):=
 .look [] fun C a _ h0 _=>by
  have e1:=h0 x (by simp[Op.operands])
  have e2:=h0 y (by simp[Op.operands])
  rw[hx]at e1
  rw[hy]at e2
  refine⟨.int .i32 (m+n),?_,VR.v C _⟩
  rw[<-IntWalk.i32_in (m+n) ⟨h1,h2⟩]
  simp only[execOp,e1.v_inv,e2.v_inv]
  rfl
theorem iq{α:Type}{f:α->List AV}(hf:RowF f 1){t:Nat}{x y:Operand}{id ver i:Nat}{L:List α}{v:α}{w:Value}(hs:ap P t=some 1)(hx:aev τ x=.ptr id ver i)(hb:η id=some ⟨ver,rF f L,1,false⟩)(hy:aev τ y=.v w)(hw:f v=[.v w])(hc:AV.cells (.v w)=[.v w])(ho:AV.one (.v w)=true)(hi:i<L.length):
 LOp P ⟨d,.store t x y,ty,pos,af,g⟩ τ η [id] [(id,some ⟨ver,rF f (L.set i v),1,false⟩)] (.v undef):=by
 have hl:=ib hf L
 have:=LOp.store (P:=P) (τ:=τ) (η:=η) (d:=d) (ty:=ty) (pos:=pos) (af:=af) (g:=g) (b:=⟨ver,rF f L,1,false⟩) (y:=y) hs hx hb rfl rfl (by rw[hy];rfl) (by rw[hy,hc];rfl) (by rw[hy,hc];simp[ho]) (by show i+1<=(rF f L).length;rw[hl];omega)
 have e:bg (rF f L) i (aev τ y).cells=rF f (L.set i v):=by
  have:=Bk hf hi v
  rw[Nat.mul_one]at this
  rw[hy,hc,<-hw];exact this
 simp only[e]at this
 exact this
theorem fh{α:Type}{f:α->List AV}{t e:Nat}{x y:Operand}{id ver i n:Nat}{v:Int}{L:List α}(he:P.underlying t=some (.slice e))(hs:ap P e=some 1)(hx:aev τ x=.sl id ver 0 n)(hi:aev τ y=.v (.int .i64 v))(hv:v=((i:Nat):Int))(hj:i<n)(hb:η id=some ⟨ver,rF f L,1,false⟩):
 LOp P ⟨d,.indexAddr t x y,ty,pos,af,g⟩ τ η [id] [] (.ptr id ver i):=by
 subst hv
 have:=me (P:=P) (τ:=τ) (η:=η) (d:=d) (ty:=ty) (pos:=pos) (af:=af) (g:=g) (j:=i) he hs hx hi hj hb rfl rfl rfl
 rwa [Nat.zero_add,Nat.mul_one]at this
theorem Jr{f:Int->List AV}(hf:RowF f 1){z:Value}(hz:z.cells=#[z])(h0:f 0=[.v z])(n:Nat):b6 z (n*1)=rF f (List.replicate n 0):=by
 rw[Nat.mul_one]
 have e:rF f (List.replicate n 0)=List.replicate n (.v z):=by
  induction n with
  |zero=>rfl
  |succ n ih=>rw[List.replicate_succ,j0,ih,h0];rfl
 rw[e]
 refine List.ext_getElem (by simp[b6]) fun i h h'=>?_
 have e2:i%(#[z]:Array Value).size=0:=Nat.mod_one i
 simp only[b6,List.getElem_map,List.getElem_range,List.getElem_replicate,hz,e2];rfl
theorem oc{f:Int->List AV}(hf:RowF f 1)(u:Nat){t e len by_:Nat}{z:Value}{x y:Operand}{v:Int}(he:P.underlying t=some (.slice e))(hs:ap P e=some 1)(hz:bi P e=some z)(h1:(P.info? e).map (·.bytes)=some by_)(h2:z.cells=#[z])(h0f:f 0=[.v z])
 (hx:aev τ x=.v (.int .i64 v))(hy:aev τ y=.v (.int .i64 v))(hv:v=((len:Nat):Int))(hl:by_*len<=140737488355328)(h3:len<=140737488355328)(h0:len≠0):
 LOp P ⟨d,.makeSlice t x y,ty,pos,af,g⟩ τ η [] [(u,some ⟨0,rF f (List.replicate len 0),1,false⟩)] (.sl u 0 0 len):=by
 rw[<-Jr hf h2 h0f];exact Oj u he hs hz h1 hx hy hv hl h3 h0
end
section
variable{P:Program}{τ:Nat->AV}{η:bf}{d:Option Tmp}{ty:TypeId}{pos:String}{af:Array Edge}{g:Option (Nat×Bool)}{t t':Nat}{x y:Operand}{k k':IntKind}{m n r:Int}
theorem uv(hx:aev τ x=.v (.int k m))(hy:aev τ y=.v (.int k n))(h:k.wrap (m+n)=r):LOp P ⟨d,.binOp .add t x y t',ty,pos,af,g⟩ τ η [] [] (.v (.int k r)):=
 .look [] fun C a _ h0 _=>by
  have e1:=h0 x (by simp[Op.operands])
  have e2:=h0 y (by simp[Op.operands])
  rw[hx]at e1
  rw[hy]at e2
  refine⟨.int k r,?_,VR.v C _⟩
  simp only[execOp,e1.v_inv,e2.v_inv]
  simp[binOp,Op.intArith,eqGuard,Sem.run_bind,h]
theorem mu(hx:aev τ x=.v (.int k m))(hy:aev τ y=.v (.int k n))(h:k.wrap (m-n)=r):LOp P ⟨d,.binOp .sub t x y t',ty,pos,af,g⟩ τ η [] [] (.v (.int k r)):=
 .look [] fun C a _ h0 _=>by
  have e1:=h0 x (by simp[Op.operands])
  have e2:=h0 y (by simp[Op.operands])
  rw[hx]at e1
  rw[hy]at e2
  refine⟨.int k r,?_,VR.v C _⟩
  simp only[execOp,e1.v_inv,e2.v_inv]
  simp[binOp,Op.intArith,eqGuard,Sem.run_bind,h]
theorem Hy(hx:aev τ x=.v (.int k m))(hy:aev τ y=.v (.int k n))(h:k.wrap (m*n)=r):LOp P ⟨d,.binOp .mul t x y t',ty,pos,af,g⟩ τ η [] [] (.v (.int k r)):=
 .look [] fun C a _ h0 _=>by
  have e1:=h0 x (by simp[Op.operands])
  have e2:=h0 y (by simp[Op.operands])
  rw[hx]at e1
  rw[hy]at e2
  refine⟨.int k r,?_,VR.v C _⟩
  simp only[execOp,e1.v_inv,e2.v_inv]
  simp[binOp,Op.intArith,eqGuard,Sem.run_bind,h]
theorem Rs(hx:aev τ x=.v (.int k m))(hy:aev τ y=.v (.int k n))(h1:0<=m)(h2:1<=n):LOp P ⟨d,.binOp .rem t x y t',ty,pos,af,g⟩ τ η [] [] (.v (.int k (m%n))):=
 .look [] fun C a _ h4 _=>by
  have e1:=h4 x (by simp[Op.operands])
  have e2:=h4 y (by simp[Op.operands])
  rw[hx]at e1
  rw[hy]at e2
  refine⟨.int k (m%n),?_,VR.v C _⟩
  have h0:¬(n=0):=by omega
  have h3:m.tmod n=m%n:=Int.tmod_eq_emod_of_nonneg h1
  simp only[execOp,e1.v_inv,e2.v_inv]
  simp[binOp,Op.intDiv,eqGuard,Sem.run_bind,h0,h3]
theorem rf{q:Nat}(hx:aev τ x=.v (.int k m))(hy:aev τ y=.v (.int k' ((q:Nat):Int)))(hq:min q k.bits=q)(h:m.fdiv (2^q)=r):LOp P ⟨d,.binOp .shr t x y t',ty,pos,af,g⟩ τ η [] [] (.v (.int k r)):=
 .look [] fun C a _ h1 _=>by
  have e1:=h1 x (by simp[Op.operands])
  have e2:=h1 y (by simp[Op.operands])
  rw[hx]at e1
  rw[hy]at e2
  refine⟨.int k r,?_,VR.v C _⟩
  have h0:¬(((q:Nat):Int)<0):=by omega
  simp only[execOp,e1.v_inv,e2.v_inv]
  simp[binOp,Op.shift,eqGuard,Sem.run_bind,h0,hq,h]
theorem Rr{q:Nat}(hx:aev τ x=.v (.int k m))(hy:aev τ y=.v (.int k' ((q:Nat):Int)))(hq:min q k.bits=q)(h:k.wrap (m*2^q)=r):LOp P ⟨d,.binOp .shl t x y t',ty,pos,af,g⟩ τ η [] [] (.v (.int k r)):=
 .look [] fun C a _ h1 _=>by
  have e1:=h1 x (by simp[Op.operands])
  have e2:=h1 y (by simp[Op.operands])
  rw[hx]at e1
  rw[hy]at e2
  refine⟨.int k r,?_,VR.v C _⟩
  have h0:¬(((q:Nat):Int)<0):=by omega
  simp only[execOp,e1.v_inv,e2.v_inv]
  simp[binOp,Op.shift,eqGuard,Sem.run_bind,h0,hq,h]
theorem jt{td:TypeDesc}(hs:P.underlying t=some td)(hd:P.underlying t'=some (.int k'))(hx:aev τ x=.v (.int k m))(h:k'.wrap m=r):
 LOp P ⟨d,.convert t t' x,ty,pos,af,g⟩ τ η [] [] (.v (.int k' r)):=
 .look [] fun C a _ h0 _=>by
  have e1:=h0 x (by simp[Op.operands])
  rw[hx]at e1
  refine⟨.int k' r,?_,VR.v C _⟩
  simp[execOp,e1.v_inv,convert,run_underlying hs,run_underlying hd,Conv.intToInt,h]
theorem Hx{α:Type}{e q b:Nat}{v':Int}{z:Operand}{f:α->List AV}{l:List α}(hu:P.underlying t=some (.slice e))(hs:ap P e=some q)(hx:aev τ x=.tree q (l.map f))(hz:aev τ z=.v (.int k v'))(h2:v'=((b:Nat):Int))(hb:b<=l.length):
 LOp P ⟨d,.slice t x none (some z) none,ty,pos,af,g⟩ τ η [] [] (.tree q ((l.take b).map f)):=by
 subst h2
 have h:ve P τ η 0 t x none (some z)=some ⟨[],[],.tree q ((l.take b).map f),0⟩:=by
  have h1:Nat.ble b l.length=true:=Nat.ble_eq_true_of_le hb
  have h3:aev τ z=.v (.int k (Int.ofNat b)):=hz
  unfold ve
  rw[hu]
  have h0:Nat.ble 0 b=true:=Nat.ble_eq_true_of_le (ag6 b)
  simp only[hs,hx,xn,h3,ag0,h0,h1,Nat.beq_refl,Bool.and_true,cond_true]
  congr 3
  simp[List.map_take]
 exact vd h
theorem C6(u:Nat){e s:Nat}(he:P.underlying t=some (.slice e))(hs:ap P e=some s)(hx:aev τ x=.v (.int .i64 0))(hy:aev τ y=.v (.int .i64 0)):
 LOp P ⟨d,.makeSlice t x y,ty,pos,af,g⟩ τ η [] [(u,some ⟨0,[],s,false⟩)] (.sl u 0 0 0):=by
 intro C a hg h2 _ h0 K Q hK
 have hu:¬C.U u:=h0 (u,some ⟨0,[],s,false⟩) (by simp) (by simp)
 have e1:=h2 x (by simp[Op.operands])
 have e2:=h2 y (by simp[Op.operands])
 rw[hx]at e1
 rw[hy]at e2
 unfold ap at hs
 cases hi:P.info? e with
 |none=>rw[hi]at hs;cases hs
 |some inf=>
  have h1:(execOp a.eval ⟨d,.makeSlice t x y,ty,pos,af,g⟩).run P C.w=.ok (.value (.slice (some ⟨C.w.heap.size,0,none⟩) 0 0)) (C.w.alloc (.cells #[] e)):=by
   have hw:IntKind.i64.wrap 0=0:=rfl
   simp only[execOp,e1.v_inv,e2.v_inv,Instr.makeSlice,Sem.run_bind,run_underlying he,ahc,asInt,typeInfo,run_program,hi,ahd]
   have a1:∀w:World,(asIntOf (Value.int IntKind.i64 0)).run P w=.ok (IntKind.i64,0) w:=fun w=>rfl
   simp only[a1,ahc,hw]
   have cc:(decide ((0:Int)<0)||decide ((inf.bytes:Int)*0>2^48)||decide ((0:Int)<0)||decide ((0:Int)>0))=false:=by simp
   rw[ag1 (by rw[cc];exact ahr)]
   have tn:(0:Int).toNat=0:=rfl
   simp only[tn,Sem.run_bind,Nat.zero_mul]
   have ar:∀w:World,(askRoom 0).run P w=.ok () w:=fun w=>by unfold askRoom;split<;>rfl
   simp only[ar,ahc,sizeOf,typeInfo,Sem.run_bind,run_program,hi,ahd,Nat.zero_mul]
   rw[ag2 trivial]
   simp[newRow]
   try(congr 2;exact Array.eq_empty_of_size_eq_zero (by simp))
  unfold Oper.wp
  rw[h1]
  refine hK _ (C.alloc u #[] e ⟨0,[],s,false⟩) rfl (fun i=>by simp[Ctx.alloc]) (cy hg hu rfl (ag8 _) (fun j h=>by simp at h)) (df hg hu rfl) ?_
  exact VR.slz (C:=C.alloc u #[] e ⟨0,[],s,false⟩) (id:=u) (ver:=0) (off:=0) (b:=⟨0,[],s,false⟩) (am _ _ _) rfl rfl
theorem s9{f:Int->List AV}(hf:RowF f 1)(u:Nat){e len by_:Nat}{z:Value}{v:Int}(he:P.underlying t=some (.slice e))(hs:ap P e=some 1)(hz:bi P e=some z)(h1:(P.info? e).map (·.bytes)=some by_)(h2:z.cells=#[z])(h0f:f 0=[.v z])
 (hx:aev τ x=.v (.int .i64 v))(hy:aev τ y=.v (.int .i64 v))(hv:v=((len:Nat):Int))(hl:by_*len<=140737488355328)(h3:len<=140737488355328):
 LOp P ⟨d,.makeSlice t x y,ty,pos,af,g⟩ τ η [] [(u,some ⟨0,rF f (List.replicate len 0),1,false⟩)] (.sl u 0 0 len):=by
 by_cases h0:len=0
 ·subst h0;subst hv;exact C6 u he hs hx hy
 ·exact oc hf u he hs hz h1 h2 h0f hx hy hv hl h3 h0
theorem Je{α:Type}{f:α->List AV}(hf:RowF f 1){id ver i:Nat}{L:List α}{v:AV}(ht:c9 P t=some none)(hx:aev τ x=.ptr id ver i)(hb:η id=some ⟨ver,rF f L,1,false⟩)(hi:i<L.length)(hw:f L[i]=[v]):
 LOp P ⟨d,.load t x,ty,pos,af,g⟩ τ η [id] [] v:=by
 refine lD ht hx hb rfl rfl ?_
 have h1:(rF f (L.take i)).length=i*1:=Gb hf hi
 rw[Nat.mul_one]at h1
 show(rF f L)[i]? =_
 rw[Py (f:=f) hi,hw]
 simp[h1]
theorem aeg{r n:Int}(h1:0<=r)(h2:r<=4294967295)(h3:0<=n)(h4:n<=4294967295):IntKind.u64.wrap ((BitVec.ofInt 64 (r*4294967296)|||BitVec.ofInt 64 n).toNat:Int)=r*4294967296+n:=by
 obtain⟨a,rfl⟩:=Int.eq_ofNat_of_zero_le h1
 obtain⟨b,rfl⟩:=Int.eq_ofNat_of_zero_le h3
 have e1:(BitVec.ofInt 64 ((a:Int)*4294967296)).toNat=a*4294967296:=by
  rw[BitVec.toNat_ofInt];omega
 have e2:(BitVec.ofInt 64 (b:Int)).toNat=b:=by
  rw[BitVec.toNat_ofInt];omega
 have e3:a*4294967296|||b=a*4294967296+b:=by
  have:=Nat.shiftLeft_add_eq_or_of_lt (i:=32) (b:=b) (by omega) a
  rw[Nat.shiftLeft_eq]at this
  exact this.symm
 rw[BitVec.toNat_or,e1,e2,e3,IntKind.wrap_u64];omega
theorem Ru(hx:aev τ x=.v (.int .u64 (r*4294967296)))(hy:aev τ y=.v (.int .u64 n))(h1:0<=r)(h2:r<=4294967295)(h3:0<=n)(h4:n<=4294967295):LOp P ⟨d,.binOp .or t x y t',ty,pos,af,g⟩ τ η [] [] (.v (.int .u64 (r*4294967296+n))):=
 .look [] fun C a _ h0 _=>by
  have e1:=h0 x (by simp[Op.operands])
  have e2:=h0 y (by simp[Op.operands])
  rw[hx]at e1
  rw[hy]at e2
  refine⟨.int .u64 (r*4294967296+n),?_,VR.v C _⟩
  rw[<-aeg h1 h2 h3 h4]
  simp only[execOp,e1.v_inv,e2.v_inv]
  rfl
theorem Fl{o:Oper}{fp:List Nat}{u:Nat}{b:Blk}{v v':AV}(h:LOp P o τ η fp [(u,some b)] v)(hf:∀η':bf,η' u=some b->FzP [u] η' v v'):LOp P o τ η fp [(u,none)] v':=by
 intro C a hg hc hd hn K Q hK
 refine h C a hg hc hd (fun p hp hq=>by
  rw[agy]at hp;subst hp
  exact hn (u,none) (by simp) hq) K Q fun x C1 h1 h2 h3 h4 h5=>?_
 have he:C1.η u=some b:=by rw[h1];exact am _ _ _
 let C':Ctx:={C1 with η:=C.η.put [(u,none)],T:=fun k=>C1.T k\/C1.mineOf [u] k}
 have h6:∀{i b'},C'.η i=some b'->C1.η i=some b'/\i≠u:=by
  intro i b' hb
  have hb:(C.η.set u none) i=some b':=hb
  by_cases e:i=u
  ·subst e;rw[am]at hb;cases hb
  ·refine⟨?_,e⟩
   rw[h1];show(C.η.set u (some b)) i=some b'
   rw[aq _ _ e]at hb ⊢;exact hb
 have h9:∀{a:AV} {x:Value},VR C1 a x->VR C' a x:=fun hv=>VR.shift (C:=C1) (C':=C') rfl rfl rfl rfl (fun b hb=>.inl hb) h3.used (fun id b' hb=>⟨b',(h6 hb).1,rfl,rfl,rfl,rfl⟩) hv
 have h0:∀{i},C'.live i->C1.live i/\i≠u:=by
  rintro i ⟨b',h7,hk⟩
  exact⟨⟨b',(h6 h7).1,hk⟩,(h6 h7).2⟩
 have hh:Good C':=by
  refine⟨fun h=>h3.used (h6 h).1,?_,?_,fun hi hj e=>h3.inj (h0 hi).1 (h0 hj).1 e,?_,?_,fun h hv hn=>h3.tight (h6 h).1 hv hn⟩
  ·intro i b' h7 hk
   obtain⟨o,g1,g2⟩:=h3.obj (h6 h7).1 hk
   exact⟨o,g1,ObjR.shift h9 g2⟩
  ·intro i b' h7 hl
   obtain⟨c,t,g1,g2,g3,g4⟩:=h3.blk (h6 h7).1 hl
   exact⟨c,t,g1,g2,g3,fun j hj hm=>h9 (g4 j hj hm)⟩
  ·refine h3.tokT (fun _ h=>.inl h) ?_
   rintro k (hk|hk)
   ·exact h3.tlt hk
   ·exact cr h3 (bj hk)
  ·rintro k ⟨i,h8,hk⟩ (hT|⟨i',ha,hl'',e⟩)
   ·exact h3.apart ⟨i,(h0 h8).1,hk⟩ hT
   ·have e2:i'=i:=h3.inj hl'' (h0 h8).1 (e.trans hk.symm)
    rw[agy]at ha
    exact(h0 h8).2 (e2▸ha)
 have ho:Ev C C':=⟨⟨h4.os,h4.tape,h4.output,h4.size,h4.keep,fun k ⟨i,q1,q2⟩=>h4.mine k ⟨i,(h0 q1).1,q2⟩,fun k h=>.inl (h4.T k h),fun k h=>h.elim (fun h=>h4.Tnew k h) (fun h=>.inr (h4.mine k (bj h)))⟩,h4.U,fun id b' hU hb=>h4.old id b' hU (h6 hb).1⟩
 exact hK x C' rfl (fun id=>by rw[show C'.U=C1.U from rfl,h2];simp) hh ho (.imm (hf C1.η he C1 h3 (fun _ _=>rfl) x h5))
end
section
variable{P:Program}{τ:Nat->AV}{η:bf}{d:Option Tmp}{ty:TypeId}{pos:String}{af:Array Edge}{g:Option (Nat×Bool)}{t:Nat}{x y:Operand}
theorem od(u:Nat){e len by_ q:Nat}{cs:List AV}{z:Value}{v:Int}(he:P.underlying t=some (.slice e))(hs:ap P e=some q)(hz:bi P e=some z)(h1:(P.info? e).map (·.bytes)=some by_)
 (hx:aev τ x=.v (.int .i64 v))(hy:aev τ y=.v (.int .i64 v))(hv:v=((len:Nat):Int))(hl:by_*len<=140737488355328)(hl2:len<=140737488355328)(h0:len≠0)(hq:q≠0)(h7:cs.length=len*q)(h8:∀i (h:i<cs.length) (T:Nat->Prop) (w:World),TR T w cs[i] (z.cells[i%z.cells.size]!)):
 LOp P ⟨d,.makeSlice t x y,ty,pos,af,g⟩ τ η [] [(u,some ⟨0,cs,q,false⟩)] (.sl u 0 0 len):=by
 subst hv
 intro C a hg h6 _ h2 K Q hK
 have hu:¬C.U u:=h2 (u,some ⟨0,cs,q,false⟩) (by simp) (by simp)
 have e1:=h6 x (by simp[Op.operands])
 have e2:=h6 y (by simp[Op.operands])
 rw[hx]at e1
 rw[hy]at e2
 unfold ap at hs
 unfold bi at hz
 cases hi:P.info? e with
 |none=>rw[hi]at hz;cases hz
 |some inf=>
  rw[hi]at hz hs h1
  simp only[ahq]at hz
  simp only[ahp,agw]at hs h1
  let es:Array Value:=(Array.range (len*inf.size)).map fun i=>z.cells[i%z.cells.size]!
  have z1:cs.length=es.size:=by simp[es,h7,hs]
  have z2:∀i (h:i<cs.length) (h':i<es.size),VR C cs[i] es[i]:=fun i h h'=>by
   simp only[es,Array.getElem_map,Array.getElem_range];exact .imm (h8 i h _ _)
  have gsz:es.size=len*inf.size:=by simp[es]
  have h5:(execOp a.eval ⟨d,.makeSlice t x y,ty,pos,af,g⟩).run P C.w=.ok (.value (.slice (some ⟨C.w.heap.size,0,none⟩) len len)) (C.w.alloc (.cells es e)):=by
   have h0:¬(len*inf.size=0):=by rw[hs];exact Nat.mul_ne_zero h0 hq
   have hw:IntKind.i64.wrap (Int.ofNat len)=Int.ofNat len:=IntWalk.i64_in _ (by constructor<;>simp<;>omega)
   have c1:¬(((inf.bytes:Int)*Int.ofNat len>2^48)):=by
    have:(inf.bytes:Int)*Int.ofNat len=((inf.bytes*len:Nat):Int):=by simp
    rw[this,h1];omega
   have c2:¬((Int.ofNat len:Int)<0):=by simp
   have e1':a.eval x=.int .i64 (Int.ofNat len):=e1.v_inv
   have e2':a.eval y=.int .i64 (Int.ofNat len):=e2.v_inv
   simp only[execOp,e1',e2',Instr.makeSlice,Sem.run_bind,run_underlying he,ahc,asInt,typeInfo,run_program,hi,ahd]
   have a1:∀w:World,(asIntOf (Value.int IntKind.i64 (Int.ofNat len))).run P w=.ok (IntKind.i64,Int.ofNat len) w:=fun w=>rfl
   simp only[a1,ahc,hw]
   have cc:(decide ((Int.ofNat len:Int)<0)||decide ((inf.bytes:Int)*Int.ofNat len>2^48)||decide ((Int.ofNat len:Int)<0)||decide ((Int.ofNat len:Int)>Int.ofNat len))=false:=by
    simp only[Bool.or_eq_false_iff,decide_eq_false_iff_not]
    exact⟨⟨⟨c2,c1⟩,c2⟩,Int.lt_irrefl _⟩
   rw[ag1 (by rw[cc];exact ahr)]
   have tn:(Int.ofNat len).toNat=len:=rfl
   simp only[tn,Sem.run_bind]
   have ar:∀w:World,(askRoom (len*inf.bytes)).run P w=.ok () w:=fun w=>by unfold askRoom;split<;>rfl
   simp only[ar,ahc,sizeOf,typeInfo,Sem.run_bind,run_program,hi,ahd]
   rw[ag1 h0]
   simp only[Sem.run_bind,zeroValue,typeInfo,run_program,hi,ahd,ahc,hz]
   rfl
  have h9:q=inf.size:=hs.symm
  rw[h9]at hK
  unfold Oper.wp
  rw[h5]
  refine hK _ (C.alloc u es e ⟨0,cs,inf.size,false⟩) rfl (fun i=>by simp[Ctx.alloc]) (cy hg hu rfl (Nat.le_of_eq z1) z2) (df hg hu rfl) ?_
  have h3:(C.alloc u es e ⟨0,cs,inf.size,false⟩).ρ u=(C.w.heap.size,0):=by simp[Ctx.alloc]
  have h4:(C.alloc u es e ⟨0,cs,inf.size,false⟩).sz u=es.size:=by simp[Ctx.alloc]
  have:=VR.sl (C:=C.alloc u es e ⟨0,cs,inf.size,false⟩) (id:=u) (ver:=0) (off:=0) (len:=len) (cap:=len) (b:=⟨0,cs,inf.size,false⟩) (am _ _ _) rfl rfl (ag8 _) (by unfold maxLen;omega) (by omega)
   (by rw[h3,h4,gsz];simp)
  rw[h3]at this
  exact this
theorem x8{α:Type}{f:α->List AV}{q:Nat}(hf:RowF f q){a:α}:∀{n i:Nat} (h:i<(rF f (List.replicate n a)).length),∃h':i%q<(f a).length,(rF f (List.replicate n a))[i]=(f a)[i%q]
 |0,i,h=>absurd h (by simp[rF])
 |n+1,i,h=>by
  have hq:(f a).length=q:=hf.len a
  have e:rF f (List.replicate (n+1) a)=f a++rF f (List.replicate n a):=by rw[List.replicate_succ,j0]
  have h1:i<(f a++rF f (List.replicate n a)).length:=by rw[<-e];exact h
  simp only[e]
  by_cases g:i<(f a).length
  ·refine⟨by rw[Nat.mod_eq_of_lt (by omega)];exact g,?_⟩
   rw[List.getElem_append_left g]
   congr 1;rw[Nat.mod_eq_of_lt (by omega)]
  ·have h2:i-(f a).length<(rF f (List.replicate n a)).length:=by rw[agx]at h1;omega
   obtain⟨h3,e3⟩:=x8 hf h2
   have e4:(i-(f a).length)%q=i%q:=by rw[hq];exact(Nat.mod_eq_sub_mod (by omega)).symm
   refine⟨by rw[<-e4];exact h3,?_⟩
   rw[List.getElem_append_right (by omega),e3]
   congr 1
end
section
variable{P:Program}{τ:Nat->AV}{η:bf}{d:Option Tmp}{ty:TypeId}{pos:String}{af:Array Edge}{g:Option (Nat×Bool)}{α:Type}{f:α->List AV}{q:Nat}{L:List α}{k o:Nat}
theorem S2{L:List α}(h:k<L.length):Nat.beq L.length 0=false:=jv (by omega)
theorem U9(hf:RowF f q){m:Nat}(h:k<L.length)(ho:o+m<=q):((rF f L).drop (k*q+o)).take m=((f L[k]).drop o).take m:=by
 rw[<-List.drop_drop,D6 hf h,List.drop_append_of_le_length (by rw[hf.len];omega),List.take_append_of_le_length (by rw[List.length_drop,hf.len];omega)]
theorem bl(hf:RowF f q){t e n:Nat}{x y:Operand}{id ver:Nat}{v:Int}(he:P.underlying t=some (.slice e))(hs:ap P e=some q)(hx:aev τ x=.sl id ver 0 n)(hi:aev τ y=.v (.int .i64 v))(hv:v=((k:Nat):Int))(hj:k<n)(hb:η id=some ⟨ver,rF f L,q,Nat.beq L.length 0⟩)(hk:k<L.length):
 LOp P ⟨d,.indexAddr t x y,ty,pos,af,g⟩ τ η [id] [] (.ptr id ver (k*q)):=ak hf he hs hx hi hv hj (L:=L) (by rw[hb,S2 hk])
theorem fu(hf:RowF f q){t:Nat}{x:Operand}{id ver:Nat}(ht:c9 P t=some (some q))(hx:aev τ x=.ptr id ver (k*q))(hb:η id=some ⟨ver,rF f L,q,Nat.beq L.length 0⟩)(hk:k<L.length):
 LOp P ⟨d,.load t x,ty,pos,af,g⟩ τ η [id] [] (.agg (f L[k])):=jn hf ht hx (by rw[hb,S2 hk]) hk
theorem fv{t i off sz:Nat}{x:Operand}{id ver p:Nat}(hF:cp P t i=some (off,sz))(hz:Nat.beq sz 0=false)(hx:aev τ x=.ptr id ver p)(hb:η id=some ⟨ver,rF f L,q,Nat.beq L.length 0⟩)(hk:k<L.length):
 LOp P ⟨d,.fieldAddr t x i,ty,pos,af,g⟩ τ η [id] [] (.ptr id ver (p+off)):=cg (f:=f) (q:=q) (L:=L) hF hz hx (by rw[hb,S2 hk])
theorem Oh(hf:RowF f q){t m:Nat}{x:Operand}{id ver:Nat}{ds:List AV}(ht:c9 P t=some (some m))(hx:aev τ x=.ptr id ver (k*q+o))(hb:η id=some ⟨ver,rF f L,q,Nat.beq L.length 0⟩)(hk:k<L.length)(ho:o+m<=q)(hv:((f L[k]).drop o).take m=ds):
 LOp P ⟨d,.load t x,ty,pos,af,g⟩ τ η [id] [] (.agg ds):=by
 have:=w9 (P:=P) (τ:=τ) (η:=η) (d:=d) (ty:=ty) (pos:=pos) (af:=af) (g:=g) (b:=⟨ver,rF f L,q,Nat.beq L.length 0⟩) ht hx hb rfl (S2 hk) (by show k*q+o+m<=(rF f L).length;rw[ib hf];have:=ae0 (q:=q) hk;omega)
 rwa [show((⟨ver,rF f L,q,Nat.beq L.length 0⟩:Blk).cs.drop (k*q+o)).take m=ds from(U9 hf hk ho).trans hv]at this
theorem LOp.cellN(hf:RowF f q){t:Nat}{x:Operand}{id ver:Nat}{v:AV}(ht:c9 P t=some none)(hx:aev τ x=.ptr id ver (k*q+o))(hb:η id=some ⟨ver,rF f L,q,Nat.beq L.length 0⟩)(hk:k<L.length)(hv:(f L[k])[o]? =some v):
 LOp P ⟨d,.load t x,ty,pos,af,g⟩ τ η [id] [] v:=by
 have ho:o<q:=by have:=(ahn.1 hv).1;rwa [hf.len]at this
 refine lD (P:=P) (b:=⟨ver,rF f L,q,Nat.beq L.length 0⟩) ht hx hb rfl (S2 hk) ?_
 show(rF f L)[k*q+o]? =some v
 have e:(rF f L)[k*q+o]? =((rF f L).drop (k*q))[o]?:=by rw[List.getElem?_drop]
 rw[e,D6 hf hk,List.getElem?_append_left (by rw[hf.len];exact ho)];exact hv
theorem jl(hf:RowF f q){t m:Nat}{x y:Operand}{id ver:Nat}{v:α}{vs:List AV}(hs:ap P t=some m)(hx:aev τ x=.ptr id ver (k*q+o))(hb:η id=some ⟨ver,rF f L,q,Nat.beq L.length 0⟩)(h0:(aev τ y).known=true)(hy:(aev τ y).cells=vs)(hm:vs.length=m)(h1:vs.all AV.one=true)(hk:k<L.length)(ho:o+m<=q)(hv:bg (f L[k]) o vs=f v):
 LOp P ⟨d,.store t x y,ty,pos,af,g⟩ τ η [id] [(id,some ⟨ver,rF f (L.set k v),q,Nat.beq (L.set k v).length 0⟩)] (.v undef):=by
 have:=az (P:=P) (τ:=τ) (η:=η) (d:=d) (ty:=ty) (pos:=pos) (af:=af) (g:=g) hf hs hx (by rw[hb,S2 hk]) h0 hy hm h1 hk ho hv
 rwa [show(false:Bool)=Nat.beq (L.set k v).length 0 by rw[List.length_set];exact(S2 hk).symm]at this
theorem o5(hf:RowF f q){t:Nat}{x:Operand}{id ver:Nat}{v:α}(ht:c9 P t=some (some q))(hx:aev τ x=.ptr id ver (k*q))(hb:η id=some ⟨ver,rF f L,q,false⟩)(hv:L[k]? =some v):
 LOp P ⟨d,.load t x,ty,pos,af,g⟩ τ η [id] [] (.agg (f v)):=by
 obtain⟨hk,rfl⟩:=ahn.1 hv
 exact jn hf ht hx hb hk
theorem ca(hf:RowF f q){t:Nat}{x:Operand}{id ver:Nat}{v:AV}(ht:c9 P t=some none)(hx:aev τ x=.ptr id ver (k*q+o))(hb:η id=some ⟨ver,rF f L,q,false⟩)(hk:k<L.length)(hv:(f L[k])[o]? =some v):
 LOp P ⟨d,.load t x,ty,pos,af,g⟩ τ η [id] [] v:=LOp.cellN hf ht hx (by rw[hb,S2 hk]) hk hv
end
def mPs:Nat->List ByteArray->List (Value×AV×Nat)
 |_,[]=>[]
 |i,p::r=>(.string p,.v (.int .i64 (Int.ofNat i)),i)::mPs (i+1) r
theorem Lx:∀(i:Nat) (l:List ByteArray) (p:ByteArray),mPs i l++[(.string p,.v (.int .i64 (Int.ofNat (i+l.length))),i+l.length)]=mPs i (l++[p])
 |i,[],p=>rfl
 |i,q::r,p=>by
  have:=Lx (i+1) r p
  simp only[mPs,List.cons_append,ahf]
  rw[show i+(r.length+1)=i+1+r.length by omega,this]
theorem Lw(u:Nat):∀(i:Nat) (l:List ByteArray),m9 u ((mPs i l).map fun e=>.agg [.v e.1,e.2.1,.v (.int .i64 (Int.ofNat e.2.2))])=true
 |_,[]=>rfl
 |i,p::r=>by
  have:=Lw u (i+1) r
  simp only[mPs,ahh,m9,AV.lowB,this]
  rfl
abbrev Qe(L:List ByteArray):Blk:=b5 0 0 L.length (mPs 0 L)
theorem ou(u:Nat)(L:List ByteArray):m9 u (Qe L).cs=true:=by
 show m9 u (i7 L.length (mPs 0 L))=true
 unfold i7
 simp only[m9,AV.lowB,Bool.true_and]
 exact Lw u 0 L
theorem S7:∀(L:List ByteArray) (i j:Nat) (h:j<L.length),(mPs i L)[j]? =some (.string L[j],.v (.int .i64 (Int.ofNat (i+j))),i+j)
 |x::L,i,0,_=>rfl
 |x::L,i,j+1,h=>by
  have:=S7 L (i+1) j (by simpa using h)
  simp only[mPs,List.getElem?_cons_succ,List.getElem_cons_succ]
  rw[this,show i+1+j=i+(j+1)by omega]
section
variable{P:Program}{kt:TypeId}
theorem G4{k:ByteArray}:∀(L:List ByteArray) (i j:Nat),∃r,Instr.findNow .string (.string k) (d5 (mPs i L)) j=some r/\(match r with
 |none=>∀x∈L,x≠k
 |some (q,_)=>∃h:q-j<L.length,j<=q/\L[q-j]=k)
 |[],i,j=>⟨none,rfl,fun x hx=>by simp at hx⟩
 |x::L,i,j=>by
  obtain⟨r,h1,h2⟩:=G4 (k:=k) L (i+1) (j+1)
  cases hx:(k==x)with
  |true=>exact⟨some (j,undef),by simp[d5,mPs,Instr.findNow,Instr.sameNow,hx],⟨by simp,ag8 _,by simp[N1 hx]⟩⟩
  |false=>
   refine⟨r,?_,?_⟩
   ·simp only[d5,mPs,ahh,Instr.findNow,Instr.sameNow,hx]
    exact h1
   ·cases r with
    |none=>
     intro y hy
     rcases ahk.1 hy with rfl|hy
     ·intro e;subst e;rw[N0]at hx;cases hx
     ·exact h2 y hy
    |some p=>
     obtain⟨q,v⟩:=p
     obtain⟨g3,g4,g5⟩:=h2
     exact⟨by simp;omega,by omega,by simp only[show q-j=q-(j+1)+1 by omega,List.getElem_cons_succ];exact g5⟩
theorem Mu{k:ByteArray}{L:List ByteArray}(hk:P.underlying kt=some .string):∃r,pg P kt (.string k) (mPs 0 L)=some r/\(match r with
 |none=>∀x∈L,x≠k
 |some q=>∃h:q<L.length,L[q]=k):=by
 obtain⟨r,h1,h2⟩:=G4 (k:=k) L 0 0
 have h3:da P (Instr.findKey kt (.string k) (d5 (mPs 0 L)))=some r:=by
  unfold Instr.findKey
  refine fq (lq hk) ?_
  rw[h1]
  rfl
 unfold pg
 rw[lu hk]
 simp only[h3]
 cases r with
 |none=>exact⟨none,rfl,h2⟩
 |some p=>
  obtain⟨q,v⟩:=p
  obtain⟨g3,g4,g5⟩:=h2
  exact⟨some q,rfl,by simpa using g3,by simpa using g5⟩
end
section
variable{P:Program}{τ:Nat->AV}{η:bf}{d:Option Tmp}{ty:TypeId}{pos:String}{af:Array Edge}{g:Option (Nat×Bool)}{t kt et id:Nat}{m x i:Operand}{k:ByteArray}{L:List ByteArray}
theorem R2{v:Int}(ht:P.underlying t=some (.map kt et))(hk:P.underlying kt=some .string)(hm:aev τ m=.mp id 0)(h0:aev τ i=.v (.string k))(hx:aev τ x=.v (.int .i64 v))(hv:v=((L.length:Nat):Int))(hb:η id=some (Qe L))(hn:∀y∈L,y≠k):
 LOp P ⟨d,.mapUpdate t m i x,ty,pos,af,g⟩ τ η [id] [(id,some (Qe (L++[k])))] (.v undef):=by
 subst hv
 obtain⟨r,h1,h2⟩:=Mu (P:=P) (k:=k) (L:=L) hk
 have hr:r=none:=by
  cases r with
  |none=>rfl
  |some q=>obtain⟨h,e⟩:=h2;exact absurd e (hn _ (agt h))
 subst hr
 have e:Qe (L++[k])=b5 0 0 (L.length+1) (mPs 0 L++[(.string k,.v (.int .i64 ((L.length:Nat):Int)),L.length)]):=by
  have:=Lx 0 L k
  rw[Nat.zero_add]at this
  show b5 0 0 (L++[k]).length (mPs 0 (L++[k]))=_
  rw[<-this,agx];rfl
 rw[e]
 refine kb (u:=0) (r:=⟨[id],[(id,some (b5 0 0 (L.length+1) (mPs 0 L++[(.string k,.v (.int .i64 ((L.length:Nat):Int)),L.length)])))],.v undef,0⟩) (.inl rfl) ?_
 unfold ny
 rw[ht]
 simp only[h0,hm,hx,i8 hb,lu hk,h1];rfl
theorem Oi(ht:P.underlying t=some (.map kt et))(hk:P.underlying kt=some .string)(hz:bi P et=some (.int .i64 0))(hm:aev τ x=.mp id 0)(h0:aev τ i=.v (.string k))(hb:η id=some (Qe L))(hn:∀y∈L,y≠k):
 LOp P ⟨d,.lookup t x i true,ty,pos,af,g⟩ τ η [id] [] (.tup [.v (.int .i64 0),.v (.bool false)]):=by
 obtain⟨r,h1,h2⟩:=Mu (P:=P) (k:=k) (L:=L) hk
 have hr:r=none:=by
  cases r with
  |none=>rfl
  |some q=>obtain⟨h,e⟩:=h2;exact absurd e (hn _ (agt h))
 subst hr
 refine ow (u:=0) (r:=⟨[id],[],.tup [.v (.int .i64 0),.v (.bool false)],0⟩) ?_
 unfold B4
 rw[ht]
 simp only[h0,hz,hm,i8 hb,h1];rfl
theorem R0{j:Nat}(ht:P.underlying t=some (.map kt et))(hk:P.underlying kt=some .string)(hz:bi P et=some (.int .i64 0))(hm:aev τ x=.mp id 0)(h0:aev τ i=.v (.string k))(hb:η id=some (Qe L))(hj:j<L.length)(he:L[j]=k)(hd:∀a (h:a<L.length),L[a]=k->a=j):
 LOp P ⟨d,.lookup t x i true,ty,pos,af,g⟩ τ η [id] [] (.tup [.v (.int .i64 ((j:Nat):Int)),.v (.bool true)]):=by
 obtain⟨r,h1,h2⟩:=Mu (P:=P) (k:=k) (L:=L) hk
 cases r with
 |none=>exact absurd he (h2 _ (agt hj))
 |some q=>
  obtain⟨h,e⟩:=h2
  have:=hd q h e
  subst this
  refine ow (u:=0) (r:=⟨[id],[],.tup [.v (.int .i64 ((q:Nat):Int)),.v (.bool true)],0⟩) ?_
  unfold B4
  rw[ht]
  have ea:=S7 L 0 q h
  rw[Nat.zero_add]at ea
  simp only[h0,hz,hm,i8 hb,h1,ea];rfl
theorem Ol{p:Option Nat}(ht:P.underlying t=some (.map kt et))(hk:P.underlying kt=some .string)(hz:bi P et=some (.int .i64 0))(hm:aev τ x=.mp id 0)(h0:aev τ i=.v (.string k))(hb:η id=some (Qe L))(hp:match p with
 |none=>∀y∈L,y≠k
 |some j=>∃hj:j<L.length,L[j]=k/\∀a (h:a<L.length),L[a]=k->a=j):LOp P ⟨d,.lookup t x i true,ty,pos,af,g⟩ τ η [id] [] (.tup [.v (.int .i64 ((p.getD 0:Nat):Int)),.v (.bool p.isSome)]):=by
 cases p with
 |none=>exact Oi ht hk hz hm h0 hb hp
 |some j=>obtain⟨hj,he,hd⟩:=hp;exact R0 ht hk hz hm h0 hb hj he hd
end
inductive NilC(x:AV):List AV->List AV->Prop where
 |here (l:List AV):NilC x (.v (.slice none 0 0) :: l) (x :: l)
 |keep {a:AV} {l r:List AV}:NilC x l r->NilC x (a :: l) (a :: r)
theorem NilC.at{x:AV}{l r:List AV}(h:NilC x l r):l.length=r.length/\∀i (h:i<l.length) (h':i<r.length),l[i]=r[i]\/(l[i]=.v (.slice none 0 0)/\r[i]=x):=by
 induction h with
 |here l=>
  refine⟨rfl,fun i h h'=>?_⟩
  cases i with
  |zero=>exact .inr ⟨rfl,rfl⟩
  |succ i=>exact .inl rfl
 |keep h ih=>
  refine⟨by simp[ih.1],fun i h h'=>?_⟩
  cases i with
  |zero=>exact .inl rfl
  |succ i=>exact ih.2 i (by simpa using h) (by simpa using h')
section
variable{P:Program}{N:Nat}{Q:Exit->St->Prop}{τ:Nat->AV}{η:bf}{u:Nat}
theorem Ox{c:Code}(id k t ver w z q:Nat)(r:AV){b:Blk}{cs ds:List AV}(hb:η id=some b)(hbv:b.ver=ver)(hk:η k=some ⟨w,cs,z,false⟩)(ho:Nat.beq k id=false)(hf:FzP [id] η (τ t) r)(hr:NilC (.sl id (ver+1) 0 0) cs ds)
 (hc:AWP P N c Q ⟨upd τ t r,(η.set k (some ⟨w,ds,z,false⟩)).set id (some ⟨ver+1,[],q,true⟩),u⟩):AWP P N c Q ⟨τ,η,u⟩:=by
 intro C a hs
 have e0:C.η=η:=hs.η
 have hki:k≠id:=fun e=>by rw[e]at ho;simp at ho
 obtain⟨h9,ht⟩:=hr.at
 let C':Ctx:={C with η:=(C.η.set k (some ⟨w,ds,z,false⟩)).set id (some ⟨ver+1,[],q,true⟩),T:=fun b=>C.T b\/C.mineOf [id] b}
 have hw:C.η id=some b:=by rw[e0];exact hb
 have hd:C.η k=some ⟨w,cs,z,false⟩:=by rw[e0];exact hk
 have h6:∀{i b'},C'.η i=some b'->(i=id/\b'=⟨ver+1,[],q,true⟩)\/(i=k/\i≠id/\b'=⟨w,ds,z,false⟩)\/(i≠id/\i≠k/\C.η i=some b'):=by
  intro i b' h0
  have h0:((C.η.set k (some ⟨w,ds,z,false⟩)).set id (some ⟨ver+1,[],q,true⟩)) i=some b':=h0
  by_cases ei:i=id
  ·subst ei
   rw[am]at h0
   cases h0
   exact .inl ⟨rfl,rfl⟩
  ·rw[aq _ _ ei]at h0
   by_cases ek:i=k
   ·subst ek
    rw[am]at h0
    cases h0
    exact .inr (.inl ⟨rfl,ei,rfl⟩)
   ·rw[aq _ _ ek]at h0
    exact .inr (.inr ⟨ei,ek,h0⟩)
 have h7:∀i b',C'.η i=some b'->∃b,C.η i=some b/\b.ver<=b'.ver/\(b.ver=b'.ver->C'.ρ i=C.ρ i/\C'.sz i=C.sz i/\b'.kind=b.kind/\b'.esz=b.esz):=by
  intro i b' h0
  rcases h6 h0 with⟨rfl,rfl⟩|⟨rfl,_,rfl⟩|⟨_,_,h⟩
  ·exact⟨b,hw,by simp only;omega,fun e=>by simp only at e;omega⟩
  ·exact⟨_,hd,ag8 _,fun _=>⟨rfl,rfl,by rw[dj rfl,dj rfl],rfl⟩⟩
  ·exact⟨b',h,ag8 _,fun _=>⟨rfl,rfl,rfl,rfl⟩⟩
 have h5:∀{i},C'.live i->C.live i/\i≠id:=by
  rintro i ⟨b',h0,h8⟩
  rcases h6 h0 with⟨rfl,rfl⟩|⟨rfl,hi,rfl⟩|⟨hi,_,h⟩
  ·exact absurd rfl h8
  ·exact⟨⟨_,hd,di rfl⟩,hi⟩
  ·exact⟨⟨b',h,h8⟩,hi⟩
 have ha:Fr0 C C':=⟨rfl,rfl,rfl,ag8 _,fun _ _ _=>rfl,fun k ⟨i,q1,q2⟩=>.inl ⟨i,(h5 q1).1,q2⟩,fun k h=>.inl h,fun k h=>h.imp (fun h=>h) (fun h=>.inl (bj h))⟩
 have hx:Ev C C':=⟨ha,fun _ h=>h,fun i b' _ h0=>h7 i b' h0⟩
 have he:∀{a:AV} {x:Value},VR C a x->VR C' a x:=fun hv=>VR.mono hs.good hx hv
 have hh:C'.η id=some ⟨ver+1,[],q,true⟩:=am _ _ _
 have hg:Good C':=by
  refine⟨fun h=>?_,?_,?_,fun hi hj e=>hs.good.inj (h5 hi).1 (h5 hj).1 e,?_,?_,fun h hv hn=>?_⟩
  ·obtain⟨b,h1,_⟩:=h7 _ _ h
   exact hs.good.used h1
  ·intro i b' h0 h8
   rcases h6 h0 with⟨rfl,rfl⟩|⟨rfl,hi,rfl⟩|⟨hi,_,h⟩
   ·cases h8
   ·rw[dj rfl]at h8;cases h8
   ·obtain⟨o,g1,g2⟩:=hs.good.obj h h8
    exact⟨o,g1,ObjR.shift he g2⟩
  ·intro i b' h0 hp
   rcases h6 h0 with⟨rfl,rfl⟩|⟨rfl,hi,rfl⟩|⟨hi,_,h⟩
   ·cases hp
   ·obtain⟨c,t,g1,g2,g3,g4⟩:=hs.good.blk hd rfl
    refine⟨c,t,g1,g2,by show(C.ρ i).2+ds.length<=c.size;rw[<-h9];exact g3,fun j hj hl=>?_⟩
    have hy:j<ds.length:=hj
    have hq:j<cs.length:=by omega
    have h1:=g4 j hq hl
    rcases ht j hq hy with e|e
    ·show VR C' ds[j] _
     rw[<-e];exact he h1
    ·show VR C' ds[j] _
     rw[e.1]at h1
     rw[e.2,h1.v_inv]
     exact VR.slnil hh rfl rfl
   ·obtain⟨c,t,g1,g2,g3,g4⟩:=hs.good.blk h hp
    exact⟨c,t,g1,g2,g3,fun j hj hl=>he (g4 j hj hl)⟩
  ·refine hs.good.tokT (fun _ h=>.inl h) ?_
   rintro k (hk|hk)
   ·exact hs.good.tlt hk
   ·exact cr hs.good (bj hk)
  ·rintro k ⟨i,hm,h8⟩ (hT|⟨i',hz,hl'',e⟩)
   ·exact hs.good.apart ⟨i,(h5 hm).1,h8⟩ hT
   ·have:i'=i:=hs.good.inj hl'' (h5 hm).1 (e.trans h8.symm)
    subst this
    exact(h5 hm).2 (agy.1 hz)
  ·rcases h6 h with⟨rfl,rfl⟩|⟨rfl,hi,rfl⟩|⟨hi,_,h1⟩
   ·cases hn
   ·have:=hs.good.tight hd hv rfl
    show C.sz _=(C.ρ _).2+ds.length
    rw[<-h9];exact this
   ·exact hs.good.tight h1 hv hn
 have g0:Fr C C':=⟨ha,fun i _ hu=>⟨hu,fun b' h0=>h7 i b' h0⟩⟩
 have g5:SRel N C' ⟨upd τ t r,(η.set k (some ⟨w,ds,z,false⟩)).set id (some ⟨ver+1,[],q,true⟩),u⟩ a:=by
  refine⟨hg,by simp only[C',e0],hs.u,hs.defers,hs.size,fun p=>?_⟩
  by_cases e:p=t
  ·subst e
   have e1:upd τ p r p=r:=by simp[upd]
   show VR C' (upd τ p r p) _
   rw[e1];exact .imm (hf C hs.good (fun id _=>by rw[e0]) _ (hs.τ p))
  ·have e1:upd τ t r p=τ p:=by simp[upd,jv e]
   show VR C' (upd τ t r p) _
   rw[e1];exact he (hs.τ p)
 have:=hc C' a g5
 exact Code.wp_mono (fun e a' w' ⟨s',C'',h1,h2,h3,h4⟩=>⟨s',C'',h1,h2,h3,g0.trans h4⟩) this
end
def mXs:Nat->List (Int×Value)->List (Value×AV×Nat)
 |_,[]=>[]
 |i,p::r=>(.int .i64 p.1,.v p.2,i)::mXs (i+1) r
theorem sh:∀(i:Nat) (l:List (Int×Value)),(mXs i l).length=l.length
 |_,[]=>rfl
 |i,p::r=>by simp[mXs,sh (i+1) r]
theorem wf:∀(i:Nat) (l:List (Int×Value)) (j:Nat) (h:j<(mXs i l).length),(mXs i l)[j]=(.int .i64 (l[j]'(by rw[sh]at h;exact h)).1,.v (l[j]'(by rw[sh]at h;exact h)).2,i+j)
 |_,[],_,h=>absurd h (by simp[mXs])
 |i,p::r,0,_=>rfl
 |i,p::r,j+1,h=>by
  have:=wf (i+1) r j (by simpa[mXs]using h)
  simp only[mXs,List.getElem_cons_succ,this]
  rw[show i+1+j=i+(j+1)by omega]
theorem Ek{i:Nat}{l:List (Int×Value)}{e:Value×AV×Nat}(h:e∈mXs i l):∃(j:Nat) (hj:j<l.length),e=(.int .i64 l[j].1,.v l[j].2,i+j):=by
 obtain⟨j,hj,rfl⟩:=ahe h
 exact⟨j,by rw[sh]at hj;exact hj,wf i l j hj⟩
theorem Ls:∀(i:Nat) (l:List (Int×Value)) (p:Int×Value),mXs i l++[(.int .i64 p.1,.v p.2,i+l.length)]=mXs i (l++[p])
 |i,[],p=>rfl
 |i,q::r,p=>by
  have:=Ls (i+1) r p
  simp only[mXs,List.cons_append,ahf]
  rw[show i+(r.length+1)=i+1+r.length by omega,this]
theorem Gp(D:List Nat):∀(i:Nat) (l:List (Int×Value)),inL D ((mXs i l).map fun e=>.agg [.v e.1,e.2.1,.v (.int .i64 (Int.ofNat e.2.2))])=true
 |_,[]=>rfl
 |i,p::r=>by
  have:=Gp D (i+1) r
  simp only[mXs,ahh,inL,AV.inB,this]
  rfl
theorem Lr(u:Nat):∀(i:Nat) (l:List (Int×Value)),m9 u ((mXs i l).map fun e=>.agg [.v e.1,e.2.1,.v (.int .i64 (Int.ofNat e.2.2))])=true
 |_,[]=>rfl
 |i,p::r=>by
  have:=Lr u (i+1) r
  simp only[mXs,ahh,m9,AV.lowB,this]
  rfl
theorem Lq(g:Nat->Nat):∀(i:Nat) (l:List (Int×Value)),((mXs i l).map fun e=>(e.1,e.2.1.ren g,e.2.2))=mXs i l
 |_,[]=>rfl
 |i,p::r=>by simp[mXs,AV.ren,Lq g (i+1) r]
abbrev xg(L:List (Int×Value)):Blk:=b5 0 0 L.length (mXs 0 L)
theorem ee(u:Nat)(L:List (Int×Value)):m9 u (xg L).cs=true:=by
 show m9 u (i7 L.length (mXs 0 L))=true
 unfold i7
 simp only[m9,AV.lowB,Bool.true_and]
 exact Lr u 0 L
theorem Eh(D:List Nat)(L:List (Int×Value)):inL D (xg L).cs=true:=by
 show inL D (i7 L.length (mXs 0 L))=true
 unfold i7
 simp only[inL,AV.inB,Bool.true_and]
 exact Gp D 0 L
theorem Gn{g:Nat->Nat}{L:List (Int×Value)}:(xg L).ren g=xg L:=by
 show(b5 0 0 L.length (mXs 0 L)).ren g=_
 unfold b5 Blk.ren
 simp only[qt,Lq]
 rfl
theorem Ke{g:Nat->Nat}{L:List (Int×Value)}:some (xg L)=some ((xg L).ren g):=by rw[Gn]
theorem Vj{K:List Nat}{L:List (Int×Value)}:zq K (xg L):=⟨Eh _ _,.inr (.inr (.inl ⟨L.length,_,rfl⟩))⟩
theorem yn{m:List (Nat×Nat)}{i k:Nat}{L:List (Int×Value)}(h:gOf m i=k):d6 m [(i,some (xg L))]=[(k,some (xg L))]:=by
 simp only[d6,ahh,List.map_nil,h,ahp,Gn]
def asX(z0:Value):List (Int×Value)->Int->Value
 |[],_=>z0
 |p::r,k=>if p.1=k then p.2 else asX z0 r k
theorem ra{z0:Value}{k:Int}:∀(L:List (Int×Value)),(asX z0 L k=z0/\∀p∈L,p.1≠k)\/∃j,∃h:j<L.length,L[j].1=k/\(∀i (h':i<L.length),i<j->L[i].1≠k)/\L[j].2=asX z0 L k
 |[]=>.inl ⟨rfl,fun _ h=>by cases h⟩
 |p::r=>by
  by_cases e:p.1=k
  ·exact .inr ⟨0,Nat.zero_lt_succ _,e,fun i _ h=>absurd h (ag7 i),by simp[asX,e]⟩
  ·rcases ra (z0:=z0) (k:=k) r with⟨h1,h2⟩|⟨j,h,h1,h2,h3⟩
   ·refine .inl ⟨by simp[asX,e,h1],fun q hq=>?_⟩
    rcases ahk.1 hq with rfl|hq
    ·exact e
    ·exact h2 q hq
   ·refine .inr ⟨j+1,by simpa using h,h1,fun i h' hi=>?_,by simp[asX,e,h3]⟩
    cases i with
    |zero=>exact e
    |succ i=>exact h2 i (by simpa using h') (by omega)
section
variable{P:Program}{τ:Nat->AV}{η:bf}{d:Option Tmp}{ty:TypeId}{pos:String}{af:Array Edge}{g:Option (Nat×Bool)}{t kt et id:Nat}{m x i:Operand}{k:Int}{L:List (Int×Value)}
theorem H0{a:Value}(ht:P.underlying t=some (.map kt et))(hk:P.underlying kt=some (.int .i64))(hm:aev τ m=.mp id 0)(h0:aev τ i=.v (.int .i64 k))(hx:aev τ x=.v a)(hb:η id=some (xg L))(hn:∀p∈L,p.1≠k):
 LOp P ⟨d,.mapUpdate t m i x,ty,pos,af,g⟩ τ η [id] [(id,some (xg (L++[(k,a)])))] (.v undef):=by
 have:=I9 (P:=P) (τ:=τ) (η:=η) (d:=d) (ty:=ty) (pos:=pos) (af:=af) (g:=g) (x:=x) ht hk hm h0 hb (fun e he=>by
  obtain⟨j,hj,rfl⟩:=Ek he
  exact⟨_,rfl,hn _ (agt hj)⟩)
 have e:=Ls 0 L (k,a)
 rw[Nat.zero_add]at e
 rw[hx,e]at this
 have e2:xg (L++[(k,a)])=b5 0 0 (L.length+1) (mXs 0 (L++[(k,a)])):=by
  show b5 0 0 (L++[(k,a)]).length _=_
  rw[agx];rfl
 rw[e2];exact this
theorem w8{z0 v:Value}(ht:P.underlying t=some (.map kt et))(hk:P.underlying kt=some (.int .i64))(hz:bi P et=some z0)(hm:aev τ x=.mp id 0)(h0:aev τ i=.v (.int .i64 k))(hb:η id=some (xg L))(hv:asX z0 L k=v):
 LOp P ⟨d,.lookup t x i false,ty,pos,af,g⟩ τ η [id] [] (.v v):=by
 subst hv
 rcases ra (z0:=z0) (k:=k) L with⟨h1,h2⟩|⟨j,h,h1,h2,h3⟩
 ·rw[h1]
  exact Fj ht hk hz hm h0 hb (fun e he=>by
   obtain⟨j,hj,rfl⟩:=Ek he
   exact⟨_,rfl,h2 _ (agt hj)⟩)
 ·have hj:j<(mXs 0 L).length:=by rw[sh];exact h
  refine Ja ht hk hz hm h0 hb hj (fun e he=>by obtain⟨j,hj,rfl⟩:=Ek he;exact⟨_,rfl⟩) (by rw[wf,h1]) (fun i hi h4=>?_) (by rw[wf];show AV.v L[j].2=_;rw[h3])
  rw[wf]
  intro e
  exact h2 i (by rw[sh]at hi;exact hi) h4 (by simpa using e)
end
noncomputable def D3(P:Program)(ov:FuncId->Bool)(ovr:fj)(ext:cm)(rs:FuncId->Bool)(steps:Nat):Nat->Fp
 |0,_,_,_,_=>none
 |n+1,f,ys,h,u=>match P.funcs[f]? with
  |none=>none
  |some fn=>match fn.body with
   |none=>none
   |some c=>bif Nat.ble ys.length fn.ntmps then
    match kg 0 ys .nil with
    |none=>none
    |some t=>bif rs f then(match E5 P fn.ntmps steps (opF P ov ovr (D3 P ov ovr ext rs steps n) ext) c ⟨t,h,u,0,0⟩with
     |some (.normal,E)=>O0 P fn E u
     |some (.ret,E)=>O0 P fn E u
     |_=>none)
     else match jg fn.ntmps steps (opF P ov ovr (D3 P ov ovr ext rs steps n) ext) c ⟨t,h,u,0,0⟩with
     |some (.normal,E)=>O0 P fn E u
     |some (.ret,E)=>O0 P fn E u
     |_=>none
    else none
theorem Ga{P:Program}{ov:FuncId->Bool}{ovr:fj}{ext:cm}{rs:FuncId->Bool}(hm:P.follows .mixedOrders=true)(ho:∀f ys ret,ovr f ys=some ret->eu P f ys ret)(h2:ext.Ok P){steps:Nat}:∀(n:Nat),Fp.Ok P (D3 P ov ovr ext rs steps n):=by
 intro n
 induction n with
 |zero=>intro f ys h u r _ hr;simp[D3]at hr
 |succ n ih=>
  intro f ys h u r h0 hr
  simp only[D3]at hr
  split at hr
  ·cases hr
  ·rename_i fn hf
   split at hr
   ·cases hr
   ·rename_i c hb
    cases hl:Nat.ble ys.length fn.ntmps with
    |false=>rw[hl]at hr;simp at hr
    |true=>
     rw[hl]at hr
     simp only[cond_true]at hr
     split at hr
     ·cases hr
     ·rename_i t ht
      cases h3:rs f with
      |true=>
       rw[h3]at hr
       simp only[cond_true]at hr
       split at hr
       ·rename_i E h1
        exact Mw hf hb (aha hl) ht h0 (.inl rfl) (Hg (vx ho ih h2) hm _ _ _ _ h0 h1) hr
       ·rename_i E h1
        exact Mw hf hb (aha hl) ht h0 (.inr rfl) (Hg (vx ho ih h2) hm _ _ _ _ h0 h1) hr
       ·cases hr
      |false=>
       rw[h3]at hr
       simp only[cond_false]at hr
       split at hr
       ·rename_i E h1
        exact Ah hf hb (aha hl) ht h0 (.inl rfl) (mq (vx ho ih h2) hm _ _ _ _ h0 h1) hr
       ·rename_i E h1
        exact Ah hf hb (aha hl) ht h0 (.inr rfl) (mq (vx ho ih h2) hm _ _ _ _ h0 h1) hr
       ·cases hr
def fzU(η:bf)(a:AV):Option (List Nat×AV):=match a with
 |.tup (.mp i v::cs)=>(match Dm (fz η 64) cs with
  |some (fp,ds)=>some (fp,.tup (.unk::ds))
  |none=>none)
 |a=>fzT η a
theorem aa0{η:bf}{a:AV}{fp:List Nat}{r:AV}(h:fzU η a=some (fp,r)):FzP fp η a r:=by
 unfold fzU at h
 split at h
 ·rename_i i v cs
  cases h1:Dm (fz η 64) cs with
  |none=>rw[h1]at h;cases h
  |some q=>
   obtain⟨fp1,ds⟩:=q
   rw[h1]at h
   simp only[agw,Prod.mk.injEq]at h
   obtain⟨rfl,rfl⟩:=h
   obtain⟨hl,hi⟩:=sf (Mk 64) _ _ _ h1
   exact FzP.tup (by simp[hl]) (fun i h h'=>match i,h,h' with
    |0,_,_=>FzP.unk
    |i+1,h,h'=>hi i (by simpa using h) (by simpa using h'))
 ·exact aa1 h
noncomputable def Ps(P:Program)(ov:FuncId->Bool)(ovr:fj)(ext:cm)(rs:FuncId->Bool)(steps depth:Nat)(f:FuncId)(ys:List AV):Option AV:=match D3 P ov ovr ext rs steps depth f ys .nil 0 with
 |none=>none
 |some r=>match fzU (be r.h) r.v with
  |none=>none
  |some (_,ret)=>some ret
theorem F9{P:Program}{ov:FuncId->Bool}{ovr:fj}{ext:cm}{rs:FuncId->Bool}(hm:P.follows .mixedOrders=true)(ho:∀f ys ret,ovr f ys=some ret->eu P f ys ret)(h0:ext.Ok P){steps depth:Nat}{f:FuncId}{ys:List AV}{ret:AV}(h:Ps P ov ovr ext rs steps depth f ys=some ret):eu P f ys ret:=by
 unfold Ps at h
 split at h
 ·cases h
 ·rename_i r hr
  split at h
  ·cases h
  ·rename_i fp ret' hz
   simp only[agw]at h
   subst h
   have hη0:be .nil=m4:=u5
   obtain⟨h1,h2,h3⟩:=Ga hm ho h0 depth f ys .nil 0 r (fun id _=>by rw[hη0];rfl) hr
   rw[hη0]at h2 h3
   exact yq h2 (aa0 hz) h3
end Go.Proofs.YtmbmbhkemgmhfaaGreatDoor
