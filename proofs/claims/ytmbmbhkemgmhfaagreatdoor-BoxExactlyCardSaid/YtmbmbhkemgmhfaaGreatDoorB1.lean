/- Texts of the claim. -/
import Derived.Test.YtmbmbhkemgmhfaaGreatDoorTS
import Derived.Test.YtmbmbhkemgmhfaaGreatDoorQ2
import Derived.Test.YtmbmbhkemgmhfaaGreatDoorF1
namespace Go.Proofs
open Go.Shelf
def Tryz.cloV_ren:Go.Shelf.Ren:=⟨fun|41=>22|n=>n,fun|22=>22|23=>31|4=>4|n=>n,fun|n=>n⟩
theorem Tryz.cloV:Go.Proofs.SlLaysE0.n41 Tryz.prog Tryz.cloV_ren:={
 mixed:=by kernel_rfl
 f41:=⟨Tryz.f22.name,by decide,Tryz.func22.trans (congrArg some (by kernel_rfl))⟩
 t4:=Tryz.underlying4
 a4:=Tryz.isAgg4
 z4:=Tryz.sizeOf4
 v4:=Tryz.zeroValue4
 t22:=Tryz.underlying22
 a22:=Tryz.isAgg22
 z22:=Tryz.sizeOf22
 v22:=Tryz.zeroValue22}
end Go.Proofs
namespace Go.Proofs.YtmbmbhkemgmhfaaGreatDoor
set_option maxRecDepth 1000000
set_option maxHeartbeats 0
open Go.Shelf in
theorem cl_V:CloneL Tryz.prog 22 5:=⟨⟨Tryz.cloV_ren,Tryz.t31,_,_,rfl,Tryz.cloV,by kernel_rfl,rfl,rfl,rfl,rfl,Tryz.sizeOf31,by decide⟩,by decide⟩
set_option linter.unusedVariables false
set_option linter.unusedSimpArgs false
open Go.RowKit
theorem Mf{a b:Bool}{w:World}:(if a=false then Result.ok false w else Result.ok b w)=Result.ok (a&&b) w:=by cases a<;>rfl
theorem Wx(k1 i1 k2 i2:Int)(t1 t2:ByteArray)(w:World):(Op.equalIn 10000 28 (.agg #[.int .i64 k1,.int .i64 i1,.string t1]) (.agg #[.int .i64 k2,.int .i64 i2,.string t2])).run Tryz.prog w=.ok (k1==k2&&(i1==i2&&t1.toList==t2.toList)) w:=by
 rw[run_equalIn_agg w 9999 28 _ _ (show Tryz.prog.underlying 28=some (.struct (Tryz.prog.fieldsOf 28))by kernel_rfl) (by kernel_rfl)]
 simp only[Program.fieldsOf,Tryz.underlying28]
 simp[Op.eqFields,part,run_equalIn_int _ 9998 3 _ _ _ _ Tryz.underlying3,run_equalIn_int _ 9998 2 _ _ _ _ Tryz.underlying2,run_equalIn_string _ 9998 9 _ _ Tryz.underlying9,Mf]
theorem egV:Tryz.prog.eqGuardType Tryz.prog.depth 28=false:=by kernel_rfl
section
variable{τ:Nat->AV}{η:bf}{d:Option Tmp}{ty:TypeId}{pos:String}{af:Array Edge}{g:Option (Nat×Bool)}
theorem Om{t':Nat}{x y:Operand}{k1 i1 k2 i2:Int}{t1 t2:ByteArray}(hx:aev τ x=.agg [.v (.int .i64 k1),.v (.int .i64 i1),.v (.string t1)])(hy:aev τ y=.agg [.v (.int .i64 k2),.v (.int .i64 i2),.v (.string t2)]):
 LOp Tryz.prog ⟨d,.binOp .eql 28 x y t',ty,pos,af,g⟩ τ η [] [] (.v (.bool (k1==k2&&(i1==i2&&t1.toList==t2.toList)))):=
 .look [] fun C a _ hq _=>by
  have e1:=hq x (by simp[Op.operands])
  have e2:=hq y (by simp[Op.operands])
  rw[hx]at e1
  rw[hy]at e2
  have f1:=rx (y:=.agg #[.int .i64 k1,.int .i64 i1,.string t1]) e1 rfl
  have f2:=rx (y:=.agg #[.int .i64 k2,.int .i64 i2,.string t2]) e2 rfl
  refine⟨_,?_,VR.v C _⟩
  simp only[execOp,f1,f2,Sem.run_bind,run_eqGuard_agg C.w .eql 28 x y _ _ egV,ahc,run_eql_struct,Wx,ahd]
end
def Sv(s:ByteArray):Bool:=X9 s.size (Oz s)
def j3(s:ByteArray):Bool:=s.toList==(⟨#[]⟩:ByteArray).toList
def yx(v:GVal):Bool:=if v.c_=0 then(v.e_==0&&j3 v.d_)else if v.c_=1 then j3 v.d_ else if v.c_=2 then(v.e_==0&&Sv v.d_&&decide ((v.d_.size:Int)<=16))else false
theorem Ug{v:GVal}(h:yx v=true):(v.c_=0/\v.e_=0)\/v.c_=1\/(v.c_=2/\v.e_=0/\v.d_.size<=16):=by
 unfold yx at h
 split at h
 ·simp at h;exact .inl ⟨by assumption,h.1⟩
 split at h
 ·exact .inr (.inl ‹_›)
 split at h
 ·simp at h;exact .inr (.inr ⟨by assumption,h.1.1,by omega⟩)
 cases h
def CanV(v:GVal):Prop:=(v.c_=0->v.e_=0/\v.d_.toList=[])/\(v.c_=1->v.d_.toList=[])/\(v.c_=2->v.e_=0/\Sv v.d_=true/\v.d_.size<=16)
theorem Cp{s:ByteArray}(h:j3 s=true):s.toList=[]:=by
 unfold j3 at h
 have e:(⟨#[]⟩:ByteArray).toList=[]:=by rw[ByteArray.toList,ByteArray.toList.loop];rfl
 rw[e,beq_iff_eq]at h;exact h
theorem Pa{v:GVal}(h:yx v=true):CanV v:=by
 unfold yx at h
 refine⟨fun h0=>?_,fun h1=>?_,fun h2=>?_⟩
 ·rw[ag2 h0]at h;simp at h;exact⟨h.1,Cp h.2⟩
 ·rw[ag1 (by omega),ag2 h1]at h;exact Cp h
 rw[ag1 (by omega),ag1 (by omega),ag2 h2]at h;simp at h;exact⟨h.1.1,h.1.2,by omega⟩
def FitV(v:GVal)(x:PVar):Prop:=(v.c_=0/\v.e_=0)\/(v.c_=1/\x.t=1/\x.lo<=v.e_/\v.e_<=x.hi)\/(v.c_=2/\x.t=2/\v.e_=0/\v.d_.size<=16)
def ua(v:GVal)(x:PVar):Bool:=if yx v=true then(if v.c_=0 then x.nl else if v.c_=1 then(x.t==1&&decide (v.e_≥x.lo)&&decide (v.e_<=x.hi))else(x.t==2&&decide ((v.d_.size:Int)<=x.mx)))else false
theorem sq{v:GVal}{x:PVar}(h:ua v x=true):FitV v x:=by
 unfold ua at h
 split at h
 ·rename_i hv
  rcases Ug hv with g|g|g
  ·exact .inl g
  ·rw[ag1 (by omega),ag2 g]at h
   simp at h
   exact .inr (.inl ⟨g,h.1.1,by omega,by omega⟩)
  rw[ag1 (by omega),ag1 (by omega)]at h
  simp at h
  exact .inr (.inr ⟨g.1,h.1,g.2⟩)
 cases h
theorem nb{b:Bool}(h:(!b)=false):b=true:=by cases b<;>simp_all
abbrev zV:GVal:=⟨0,0,⟨#[]⟩⟩
theorem iy:RowF cnA 3:=⟨fun _=>rfl,fun _=>rfl,fun _ _=>rfl,fun _ _=>rfl,fun _ _=>rfl,fun _=>rfl⟩
theorem sd:RowF teA 4:=⟨fun _=>rfl,fun _=>rfl,fun _ _=>rfl,fun _ _=>rfl,fun _ _=>rfl,fun _=>rfl⟩
def LOk(l:List PVar):Prop:=∀x∈l,(x.t=1/\-2147483648<=x.lo/\x.lo<=x.hi/\x.hi<=2147483647/\x.mx=0)\/(x.t=2/\0<=x.mx/\x.mx<=16/\x.lo=0/\x.hi=0)
theorem aah{l:List PVar}(h:abi l=true):LOk l:=fun x hx=>by
 unfold abi at h
 simp only[ahs]at h
 obtain⟨j,hj,rfl⟩:=ahe hx
 have h1:=List.all_eq_true.1 h.1 j (List.mem_range.2 hj)
 unfold abh Jn at h1
 rw[show l.getD j default=l[j]by simp[List.getD,hj]]at h1
 split at h1
 ·simp at h1;left;omega
 simp at h1;right;omega
def Bel(l:List PVar)(w:List GVal):Prop:=w.length=l.length/\∀j (h1:j<w.length) (h2:j<l.length),ua w[j] l[j]=true
def nOf(v:GVal)(k:Int):List Int:=if v.c_=0 then[k]else[]
def mOf(v:GVal)(k:Int):List Int:=if v.c_=0 then[]else[k]
def iOf(v:GVal)(k:Int):List PCon:=if v.c_=0 then[]else if v.c_=1 then[⟨⟨-v.e_,[⟨k,1⟩]⟩,true⟩]else[]
def tOf(v:GVal)(k:Int):List PTest:=if v.c_=0 then[]else if v.c_=1 then[]else[⟨k,0,false,v.d_⟩]
def exL{β:Type}(f:GVal->Int->List β)(w:List GVal):Nat->List β
 |0=>[]
 |k+1=>exL f w k++f (w.getD k zV) ((k:Nat):Int)
def exC(w:List GVal):PCl:=⟨exL nOf w w.length,exL mOf w w.length,[],exL iOf w w.length,exL tOf w w.length,[],[]⟩
noncomputable def Cl(tb:Int)(l:List PVar)(w:List GVal):PPred:=⟨tb,((l.length:Nat):Int),l,open Classical in if Bel l w then[exC w]else[]⟩
theorem Qx{tb:Int}{l:List PVar}{w:List GVal}(h:¬Bel l w):Cl tb l w=⟨tb,((l.length:Nat):Int),l,[]⟩:=by unfold Cl;rw[ag1 h]
theorem Ck{tb:Int}{l:List PVar}{w:List GVal}(h:Bel l w):Cl tb l w=⟨tb,((l.length:Nat):Int),l,[exC w]⟩:=by unfold Cl;rw[ag2 h]
structure KX where
 k:Nat
 N:List Int
 M:List Int
 I:List PCon
 T:List PTest
structure XI(w:List GVal)(s:KX):Prop where
 n:s.N=exL nOf w s.k
 m:s.M=exL mOf w s.k
 i:s.I=exL iOf w s.k
 t:s.T=exL tOf w s.k
 b:s.N.length<=s.k/\s.M.length<=s.k/\s.I.length<=s.k/\s.T.length<=s.k
theorem Dr{w:List GVal}{s:KX}(h:XI w s)(hk:s.k<w.length){N M:List Int}{I:List PCon}{T:List PTest}(hN:N=s.N++nOf w[s.k] s.k)(hM:M=s.M++mOf w[s.k] s.k)(hI:I=s.I++iOf w[s.k] s.k)(hT:T=s.T++tOf w[s.k] s.k):XI w ⟨s.k+1,N,M,I,T⟩:=by
 have e:w.getD s.k zV=w[s.k]:=by simp[List.getD,hk]
 obtain⟨b1,b2,b3,b4⟩:=h.b
 refine⟨by show N=exL nOf w (s.k+1);rw[exL,e,<-h.n,hN],by show M=exL mOf w (s.k+1);rw[exL,e,<-h.m,hM],by show I=exL iOf w (s.k+1);rw[exL,e,<-h.i,hI],by show T=exL tOf w (s.k+1);rw[exL,e,<-h.t,hT],?_⟩
 have c1:(nOf w[s.k] s.k).length<=1:=by unfold nOf;split<;>simp
 have c2:(mOf w[s.k] s.k).length<=1:=by unfold mOf;split<;>simp
 have c3:(iOf w[s.k] s.k).length<=1:=by unfold iOf;split;simp;split<;>simp
 have c4:(tOf w[s.k] s.k).length<=1:=by unfold tOf;split;simp;split<;>simp
 show N.length<=s.k+1/\M.length<=s.k+1/\I.length<=s.k+1/\T.length<=s.k+1
 rw[hN,hM,hI,hT]
 simp only[agx]
 omega
theorem Xe{l:List PVar}{w:List GVal}{k:Nat}(h:Bel l w)(hl:LOk l)(hk:k<w.length)(h1:w[k].c_=1):-2147483648<=w[k].e_/\w[k].e_<=2147483647:=by
 have h2:k<l.length:=by have:=h.1;omega
 rcases sq (h.2 k hk h2)with g|g|g
 ·omega
 ·have:=hl _ (agt h2);omega
 omega
section
variable{P:Program}{τ:Nat->AV}{η:bf}{d:Option Tmp}{ty:TypeId}{pos:String}{af:Array Edge}{g:Option (Nat×Bool)}
theorem js{t:Nat}{x:Operand}{m:Int}(hx:aev τ x=.v (.int .i64 m))(h1:-9223372036854775807<=m)(h2:m<=9223372036854775807):
 LOp P ⟨d,.unOp .neg t x,ty,pos,af,g⟩ τ η [] [] (.v (.int .i64 (-m))):=by
 have h:LOp P ⟨d,.unOp .neg t x,ty,pos,af,g⟩ τ η [] [] (.v (.int .i64 (IntKind.i64.wrap (-m)))):=
  .look [] fun C a _ h0 _=>by
   have e1:=h0 x (by simp[Op.operands])
   rw[hx]at e1
   refine⟨_,?_,VR.v C _⟩
   simp only[execOp,e1.v_inv]
   simp[Op.unary,Op.intArith]
 rwa [Go.IntWalk.i64_in _ ⟨by omega,by omega⟩]at h
end
theorem af7:(Tryz.prog.info? 87).map (·.bytes)=some 40:=by kernel_rfl
theorem Y5:c9 Tryz.prog 43=some (some 4):=by kernel_rfl
theorem adr:ap Tryz.prog 82=some 2:=by kernel_rfl
theorem acw:ap Tryz.prog 87=some 3:=by kernel_rfl
theorem ade:bi Tryz.prog 82=some (.agg #[.int .i64 0,.int .i64 0]):=by kernel_rfl
theorem acr:bi Tryz.prog 87=some (.agg #[.int .i64 0,.slice none 0 0,.bool false]):=by kernel_rfl
theorem zn(s:ByteArray)(hs:adc s):PRet Tryz.prog 24 [.v (.string s)] (fun r=>r=.v (.bool (Sv s))):=by
 refine ovT [] [] Tryz.func24 rfl rfl (LpG.on (fun k0:Nat=>(⟨fL [(0,.v (.string s)),(3,.v (.int .i64 ((k0:Nat):Int)))],hLz [],0⟩:St)) (fun k0=>(s.size-k0)) (fun k0=>(k0<=s.size/\∀j (hl:j<s.size),j<k0->Oz s j=true)) 0 (cO (.cons rfl rfl (.cons rfl rfl .nil)) .nil) ⟨ag6 _,fun j _ h=>absurd h (ag7 j)⟩ ?_)
 rintro k0 h3
 have hgr_k0:s.size<=140737488355328:=ahb hs (by decide)
 obtain⟨h1,h0⟩:=h3
 refine cL (fun h2=>?_) (fun h4=>?_)
 ·refine⟨‹_›,cB (fun h5=>?_) (fun h5=>?_)⟩
  ·refine cT (rV rfl rfl ?_)
   (refine dt (Eq.symm (rb h2 ?_));simp only[Oz];simp_all)
  refine⟨‹_›,cB (fun h6=>?_) (fun h6=>?_)⟩
  ·refine rV rfl rfl ?_
   (refine dt (Eq.symm (rb h2 ?_));simp only[Oz];simp_all)
  refine⟨by omega,⟨(k0+1),by omega,(cO (.cons rfl rfl (.cons rfl rfl .nil)) .nil),?_⟩⟩
  refine⟨by omega,fun j hl h=>?_⟩
  rcases ag9.1 h with h|rfl
  ·exact h0 j hl h
  simp only[Oz];simp_all
 exact rV rfl rfl (dt (Eq.symm (Av h1 h4 (fun j h=>h0 j (by omega) h))))
theorem H3(v:GVal)(hv:FitVal v):PRet Tryz.prog 19 [.agg (gvA v)] (fun r=>r=.v (.bool (yx v))):=by
 refine ovT [] [] Tryz.func19 rfl rfl ?_
 refine cB (fun h4=>?_) (fun h4=>?_)
 ·have ha:(v.c_:Int)=(0:Int):=by simpa using h4
  refine cB (fun h0=>?_) (fun h0=>?_)
  ·have h5:(v.e_:Int)=(0:Int):=by simpa using h0
   refine rV rfl rfl ?_
   refine dt ?_
   unfold yx j3
   simp_all;done
  have h5:¬((v.e_:Int)=(0:Int)):=by simpa using h0
  refine rV rfl rfl ?_
  refine dt ?_
  unfold yx j3
  simp_all;done
 have ha:¬((v.c_:Int)=(0:Int)):=by simpa using h4
 refine cB (fun h1=>?_) (fun h1=>?_)
 ·have h6:(v.c_:Int)=(1:Int):=by simpa using h1
  refine rV rfl rfl ?_
  refine dt ?_
  unfold yx j3
  simp_all;done
 have h6:¬((v.c_:Int)=(1:Int)):=by simpa using h1
 refine cB (fun h2=>?_) (fun h2=>?_)
 ·have h7:(v.c_:Int)=(2:Int):=by simpa using h2
  refine cB (fun h3=>?_) (fun h3=>?_)
  ·have h8:(v.e_:Int)=(0:Int):=by simpa using h3
   refine ArgG.mk (zn v.d_ hv.d_) rfl ?_
   rintro _ rfl
   refine cB (fun h9=>?_) (fun h9=>?_)
   ·refine rV rfl rfl ?_
    refine dt ?_
    unfold yx j3
    simp_all;done
   refine rV rfl rfl ?_
   refine dt ?_
   unfold yx j3
   simp_all;done
  have h8:¬((v.e_:Int)=(0:Int)):=by simpa using h3
  refine cF (rV rfl rfl ?_)
  refine dt ?_
  unfold yx j3
  simp_all;done
 have h7:¬((v.c_:Int)=(2:Int)):=by simpa using h2
 refine rV rfl rfl ?_
 refine dt ?_
 unfold yx j3
 simp_all;done
theorem Qq(v:GVal)(hv:FitVal v)(x:PVar):PRet Tryz.prog 6 [.agg (gvA v),.agg (vA x)] (fun r=>r=.v (.bool (ua v x))):=by
 refine ovT [] [] Tryz.func6 rfl rfl ?_
 refine ArgG.mk (H3 v hv) rfl ?_
 rintro _ rfl
 refine cB (fun ha=>?_) (fun ha=>?_)
 ·refine rV rfl rfl ?_
  refine dt ?_
  unfold ua
  (simp_all;done)
 refine cB (fun h0=>?_) (fun h0=>?_)
 ·have h5:(v.c_:Int)=(0:Int):=by simpa using h0
  refine rV rfl rfl ?_
  refine dt ?_
  unfold ua
  (simp_all;done)
 have h5:¬((v.c_:Int)=(0:Int)):=by simpa using h0
 refine cB (fun h1=>?_) (fun h1=>?_)
 ·have h6:(v.c_:Int)=(1:Int):=by simpa using h1
  refine cB (fun h2=>?_) (fun h2=>?_)
  ·have h7:(x.t:Int)=(1:Int):=by simpa using h2
   refine cB (fun h3=>?_) (fun h3=>?_)
   ·have h8:(v.e_:Int)≥(x.lo:Int):=ag4 h3
    refine rV rfl rfl ?_
    refine dt ?_
    unfold ua
    (simp_all;done)
   have h8:¬((v.e_:Int)≥(x.lo:Int)):=ag3 h3
   refine rV rfl rfl ?_
   refine dt ?_
   unfold ua
   (simp_all;omega)
  have h7:¬((x.t:Int)=(1:Int)):=by simpa using h2
  refine cF (rV rfl rfl ?_)
  refine dt ?_
  unfold ua
  (simp_all;done)
 have h6:¬((v.c_:Int)=(1:Int)):=by simpa using h1
 refine cB (fun h4=>?_) (fun h4=>?_)
 ·have h9:(x.t:Int)=(2:Int):=by simpa using h4
  refine rV rfl rfl ?_
  refine dt ?_
  unfold ua
  (simp_all;done)
 have h9:¬((x.t:Int)=(2:Int)):=by simpa using h4
 refine rV rfl rfl ?_
 refine dt ?_
 unfold ua
 (simp_all;done)
theorem Bt(s:ByteArray)(hs:adc s):PRet Tryz.prog 64 [.v (.string s)] (fun r=>r=.v (.bool (Sv s&&decide ((s.size:Int)<=16)))):=by
 refine ovT [] [] Tryz.func64 rfl rfl (LpG.on (fun k0:Nat=>(⟨fL [(0,.v (.string s)),(5,.v (.int .i64 ((s.size:Nat):Int))),(6,.v (.int .i64 ((k0:Nat):Int)))],hLz [],0⟩:St)) (fun k0=>(s.size-k0)) (fun k0=>(k0<=s.size/\∀j (hl:j<s.size),j<k0->Oz s j=true)) 0 (cO (.cons rfl rfl (.cons rfl rfl (.cons rfl rfl .nil))) .nil) ⟨ag6 _,fun j _ h=>absurd h (ag7 j)⟩ ?_)
 rintro k0 h3
 have hgr_k0:s.size<=140737488355328:=ahb hs (by decide)
 obtain⟨h1,h0⟩:=h3
 refine cL (fun h2=>?_) (fun h4=>?_)
 ·refine⟨‹_›,cB (fun h5=>?_) (fun h5=>?_)⟩
  ·refine cT (rV rfl rfl ?_)
   (refine dt (Eq.symm ?_);rw[show Sv s=false from rb h2 (by simp only[Oz];simp_all)];rfl)
  refine⟨‹_›,cB (fun h6=>?_) (fun h6=>?_)⟩
  ·refine rV rfl rfl ?_
   (refine dt (Eq.symm ?_);rw[show Sv s=false from rb h2 (by simp only[Oz];simp_all)];rfl)
  refine⟨by omega,⟨(k0+1),by omega,(cO (.cons rfl rfl (.cons rfl rfl (.cons rfl rfl .nil))) .nil),?_⟩⟩
  refine⟨by omega,fun j hl h=>?_⟩
  rcases ag9.1 h with h|rfl
  ·exact h0 j hl h
  simp only[Oz];simp_all
 refine rV rfl rfl ?_
 (refine dt ?_;rw[show Sv s=true from Av h1 h4 (fun j h=>h0 j (by omega) h)];simp;done)
theorem O9(v:GVal)(hv:FitVal v):PRet Tryz.prog 42 [.agg (gvA v)] (fun r=>r=.v (.bool (yx v))):=by
 refine ovT [] [] Tryz.func42 rfl rfl ?_
 refine cB (fun h3=>?_) (fun h3=>?_)
 ·have h7:(v.c_:Int)=(0:Int):=by simpa using h3
  refine OpG.lk (Om rfl rfl) ?_
  refine rV rfl rfl ?_
  refine dt ?_
  unfold yx j3
  (simp_all;done)
 have h7:¬((v.c_:Int)=(0:Int)):=by simpa using h3
 refine cB (fun h0=>?_) (fun h0=>?_)
 ·have h4:(v.c_:Int)=(1:Int):=by simpa using h0
  refine rV rfl rfl ?_
  refine dt ?_
  unfold yx j3
  (simp_all;done)
 have h4:¬((v.c_:Int)=(1:Int)):=by simpa using h0
 refine cB (fun h1=>?_) (fun h1=>?_)
 ·have h5:(v.c_:Int)=(2:Int):=by simpa using h1
  refine cB (fun h2=>?_) (fun h2=>?_)
  ·have h6:(v.e_:Int)=(0:Int):=by simpa using h2
   refine ArgG.mk (Bt v.d_ hv.d_) rfl ?_
   rintro _ rfl
   refine rV rfl rfl ?_
   refine dt ?_
   unfold yx j3
   (simp_all;done)
  have h6:¬((v.e_:Int)=(0:Int)):=by simpa using h2
  refine rV rfl rfl ?_
  refine dt ?_
  unfold yx j3
  (simp_all;done)
 have h5:¬((v.c_:Int)=(2:Int)):=by simpa using h1
 refine rV rfl rfl ?_
 refine dt ?_
 unfold yx j3
 (simp_all;done)
theorem Wl(v:GVal)(hv:FitVal v)(x:PVar):PRet Tryz.prog 30 [.agg (gvA v),.agg (vA x)] (fun r=>r=.v (.bool (ua v x))):=by
 refine ovT [] [] Tryz.func30 rfl rfl ?_
 refine ArgG.mk (O9 v hv) rfl ?_
 rintro _ rfl
 refine cB (fun ha=>?_) (fun ha=>?_)
 ·refine rV rfl rfl ?_
  refine dt ?_
  unfold ua
  (simp_all;done)
 refine cB (fun h0=>?_) (fun h0=>?_)
 ·have h5:(v.c_:Int)=(0:Int):=by simpa using h0
  refine rV rfl rfl ?_
  refine dt ?_
  unfold ua
  (simp_all;done)
 have h5:¬((v.c_:Int)=(0:Int)):=by simpa using h0
 refine cB (fun h1=>?_) (fun h1=>?_)
 ·have h6:(v.c_:Int)=(1:Int):=by simpa using h1
  refine cB (fun h2=>?_) (fun h2=>?_)
  ·have h7:(x.t:Int)=(1:Int):=by simpa using h2
   refine cB (fun h3=>?_) (fun h3=>?_)
   ·have h8:(v.e_:Int)≥(x.lo:Int):=ag4 h3
    refine rV rfl rfl ?_
    refine dt ?_
    unfold ua
    (simp_all;done)
   have h8:¬((v.e_:Int)≥(x.lo:Int)):=ag3 h3
   refine rV rfl rfl ?_
   refine dt ?_
   unfold ua
   (simp_all;omega)
  have h7:¬((x.t:Int)=(1:Int)):=by simpa using h2
  refine cF (rV rfl rfl ?_)
  refine dt ?_
  unfold ua
  (simp_all;done)
 have h6:¬((v.c_:Int)=(1:Int)):=by simpa using h1
 refine cB (fun h4=>?_) (fun h4=>?_)
 ·have h9:(x.t:Int)=(2:Int):=by simpa using h4
  refine rV rfl rfl ?_
  refine dt ?_
  unfold ua
  (simp_all;done)
 have h9:¬((x.t:Int)=(2:Int)):=by simpa using h4
 refine rV rfl rfl ?_
 refine dt ?_
 unfold ua
 (simp_all;done)
theorem Nz(w:List GVal)(hw:fy w (fun y=>FitVal y))(l:List PVar)(hl:fy l (fun y=>True)):PRet Tryz.prog 23 [.tree 3 (w.map gvA),.tree 5 (l.map vA)] (fun r=>∃b:Bool,r=.v (.bool b)/\(b=true↔Bel l w)):=by
 refine ovT [] [] Tryz.func23 rfl rfl (LenG.of ?_)
 refine LenG.of (cB (fun h0=>?_) (fun h0=>?_))
 ·have h6:¬(((w.length:Nat):Int)=((l.length:Nat):Int)):=by simpa using h0
  have h4:¬w.length=l.length:=by have h:=h0;simp at h;omega
  exact rV rfl rfl ⟨_,rfl,fun h=>absurd h ahr,fun h=>absurd h.1 h4⟩
 have h6:((w.length:Nat):Int)=((l.length:Nat):Int):=by simpa using h0
 have h4:w.length=l.length:=by have h:=h0;simp at h;omega
 refine LenG.of (LpG.on (fun k0:Nat=>(⟨fL [(1,.tree 5 (l.map vA)),(12,.tree 3 (w.map gvA)),(13,.v (.int .i64 ((w.length:Nat):Int))),(14,.v (.int .i64 ((k0:Nat):Int)))],hLz [],0⟩:St)) (fun k0=>(w.length-k0)) (fun k0=>(k0<=w.length/\∀j (hl:j<w.length),j<k0->∀h2:j<l.length,ua w[j] l[j]=true)) 0 (cO (.cons rfl rfl (.cons rfl rfl (.cons rfl rfl (.cons rfl rfl .nil)))) .nil) ⟨ag6 _,fun j _ h=>absurd h (ag7 j)⟩ ?_)
 rintro k0 h7
 have hgr_k0:w.length<=140737488355328:=hw.1
 obtain⟨hle_k0,h3⟩:=h7
 refine cL (fun hlt15=>?_) (fun hge15=>?_)
 ·refine IdxG.of ‹_› (IdxG.of (by omega) ?_)
  refine ArgG.mk (Wl (w[k0]) (hw.2 _ (agt _)) (l[k0])) rfl ?_
  rintro _ rfl
  refine⟨by kernel_rfl,cB (fun h5=>?_) (fun h5=>?_)⟩
  ·exact rV rfl rfl ⟨_,rfl,fun h=>absurd h ahr,fun h=>by have h1:=h.2 k0 (by omega) (by omega);simp[h1]at h5⟩
  refine⟨by omega,⟨(k0+1),by omega,(cO (.cons rfl rfl (.cons rfl rfl (.cons rfl rfl (.cons rfl rfl .nil)))) .nil),?_⟩⟩
  refine⟨by omega,fun j hl h=>?_⟩
  rcases ag9.1 h with h|rfl
  ·exact h3 j hl h
  intro h2;exact nb h5
 exact rV rfl rfl ⟨_,rfl,fun _=>⟨h4,fun j h1 h2=>h3 j h1 (by omega) h2⟩,fun _=>rfl⟩
theorem M6(tb:Int)(l:List PVar)(hl:fy l (fun y=>True))(w:List GVal)(hw:fy w (fun y=>FitVal y))(h8:LOk l)(hl1:l.length<=1000):PRet Tryz.prog 10 [.v (.int .i64 tb),.tree 5 (l.map vA),.tree 3 (w.map gvA)] (fun r=>r=.agg (prA (Cl tb l w))):=by
 refine ovT [51,54] [15] Tryz.func10 rfl rfl (LenG.of ?_)
 refine ArgG.mk (PRet.of_call (CloneL.tree cl_V (fun _=>rfl) l (by omega))) rfl ?_
 rintro _ rfl
 refine ArgG.mk (Nz w hw l hl) rfl ?_
 rintro _ ⟨b1,rfl,h7⟩
 refine cB (fun h2=>?_) (fun h2=>?_)
 ·have h9:¬Bel l w:=fun h=>by rw[h7.2 h]at h2;simp at h2
  refine⟨.inr rfl,_,Og.cell rfl Y5 rfl rfl rfl rfl rfl ⟨[],ky (.cons (.pure rfl) (.cons (.pure rfl) (.cons (.pure rfl) (.cons (FzP.nil (n:=7)) .nil))))⟩,?_⟩
  rw[Qx h9];rfl
 have h3:=h7.1 (nb h2)
 have hwl:=h3.1
 refine LenG.of (LpG.via (fun _ h=>dc 2 0 1 rfl rfl rfl rfl rfl 4 rfl h) ?_)
 refine LpG.via (fun _ h=>dc 2 1 1 rfl rfl rfl rfl rfl 5 rfl h) (LpG.via (fun _ h=>dc 2 3 3 rfl rfl rfl rfl rfl 6 rfl h) ?_)
 refine LpG.via (fun _ h=>dc 2 4 4 rfl rfl rfl rfl rfl 7 rfl h) (LpG.on (fun k0:KX=>(⟨fL [(6,.ptr 0 0 0),(7,.ptr 1 0 0),(8,.ptr 2 0 0),(22,.tree 3 (w.map gvA)),(23,.v (.int .i64 ((w.length:Nat):Int))),(24,.v (.int .i64 ((k0.k:Nat):Int)))],hLz [(0,⟨0,[.v (.int .i64 0),.v (.int .i64 0),.v (.slice none 0 0),.v (.slice none 0 0)],0,false⟩),(1,⟨0,[.v (.int .i64 tb),.v (.int .i64 ((l.length:Nat):Int)),.tree 5 (l.map vA),.v (.slice none 0 0)],0,false⟩),(2,⟨0,[.sl 3 k0.N.length 0 k0.N.length,.sl 4 k0.M.length 0 k0.M.length,.v (.slice none 0 0),.sl 5 k0.I.length 0 k0.I.length,.sl 6 k0.T.length 0 k0.T.length,.v (.slice none 0 0),.v (.slice none 0 0)],0,false⟩),(3,⟨k0.N.length,rF iA k0.N,1,Nat.beq k0.N.length 0⟩),(4,⟨k0.M.length,rF iA k0.M,1,Nat.beq k0.M.length 0⟩),(5,⟨k0.I.length,rF cnA k0.I,3,Nat.beq k0.I.length 0⟩),(6,⟨k0.T.length,rF teA k0.T,4,Nat.beq k0.T.length 0⟩)],7⟩:St)) (fun k0=>(w.length-k0.k)) (fun k0=>(k0.k<=w.length/\XI w k0)) (⟨0,[],[],[],[]⟩:KX) (cO (.cons rfl rfl (.cons rfl rfl (.cons rfl rfl (.cons rfl rfl (.cons rfl rfl (.cons rfl rfl .nil)))))) (.cons rfl rfl rfl (.cons rfl rfl rfl (.cons (by rfl) rfl rfl (.cons (by rfl) rfl (aa ck _ _) (.cons (by rfl) rfl (aa ck _ _) (.cons (by rfl) rfl (aa iy _ _) (.cons (by rfl) rfl (aa sd _ _) .nil)))))))) ⟨ag6 _,⟨rfl,rfl,rfl,rfl,by simp⟩⟩ ?_)
 rintro k0 h4
 have hgr_k0:w.length<=140737488355328:=hw.1
 obtain⟨hle_k0,h0⟩:=h4
 refine cL (fun h1=>?_) (fun hge25=>?_)
 ·have hx:=h0.b
  obtain⟨hx1,hx2,hx3,hx4⟩:=hx
  refine IdxG.of ‹_› (cE (fun h5=>?_) (fun h5=>?_))
  ·refine OpG.mk _ _ _ 9 (bh ck (a:=((k0.k:Nat):Int)) Tryz.underlying58 sz3 zr3 by3 rfl rfl rfl (ce rfl rfl rfl rfl) rfl (by omega) (by omega) (by unfold TV;omega)) rfl rfl ⟨by omega,⟨(⟨k0.k+1,k0.N++[((k0.k:Nat):Int)],k0.M,k0.I,k0.T⟩:KX),(by show w.length-(k0.k+1)<w.length-k0.k;omega),(cO (.cons rfl rfl (.cons rfl rfl (.cons rfl rfl (.cons rfl rfl (.cons rfl rfl (.cons rfl rfl .nil)))))) (.cons rfl rfl rfl (.cons rfl rfl rfl (.cons (by(rw[agx];rfl)) rfl rfl (.cons (by(rw[agx];rfl)) rfl (aa ck _ _) (.cons (by rfl) rfl (aa ck _ _) (.cons (by rfl) rfl (aa iy _ _) (.cons (by rfl) rfl (aa sd _ _) .nil)))))))),?_⟩⟩
   exact⟨by show k0.k+1<=_;omega,Dr h0 h1 (by simp[nOf,mOf,iOf,tOf, *]) (by simp[nOf,mOf,iOf,tOf, *]) (by simp[nOf,mOf,iOf,tOf, *]) (by simp[nOf,mOf,iOf,tOf, *])⟩
  refine OpG.mk _ _ _ 9 (bh ck (a:=((k0.k:Nat):Int)) Tryz.underlying58 sz3 zr3 by3 rfl rfl rfl (ce rfl rfl rfl rfl) rfl (by omega) (by omega) (by unfold TV;omega)) rfl rfl (cE (fun h6=>?_) (fun h6=>?_))
  ·have hir:=Xe h3 h8 h1 ‹_›
   refine OpG.lk (js rfl (by omega) (by omega)) (OpG.nw (fx (je Tryz.underlying83 adr ade rfl rfl rfl rfl) (fun η' h=>cx (f:=cfA) (l:=[(⟨((k0.k:Nat):Int),1⟩:PCoef)]) (agy.2 rfl) h rfl rfl rfl rfl rfl (fun a _=>⟨rfl,rfl⟩))) rfl ?_)
   refine OpG.mk _ _ _ 11 (bh iy (a:=(⟨⟨-w[k0.k].e_,[(⟨((k0.k:Nat):Int),1⟩:PCoef)]⟩,true⟩:PCon)) Tryz.underlying60 acw acr af7 rfl rfl rfl (ce rfl rfl rfl rfl) rfl (by omega) (by omega) (by unfold TV;omega)) rfl rfl ⟨by omega,⟨(⟨k0.k+1,k0.N,k0.M++[((k0.k:Nat):Int)],k0.I++[(⟨⟨-w[k0.k].e_,[(⟨((k0.k:Nat):Int),1⟩:PCoef)]⟩,true⟩:PCon)],k0.T⟩:KX),(by show w.length-(k0.k+1)<w.length-k0.k;omega),(cO (.cons rfl rfl (.cons rfl rfl (.cons rfl rfl (.cons rfl rfl (.cons rfl rfl (.cons rfl rfl .nil)))))) (.cons rfl rfl rfl (.cons rfl rfl rfl (.cons (by(rw[agx,agx];rfl)) rfl rfl (.cons (by rfl) rfl (aa ck _ _) (.cons (by(rw[agx];rfl)) rfl (aa ck _ _) (.cons (by(rw[agx,agx];rfl)) rfl (aa iy _ _) (.cons (by rfl) rfl (aa sd _ _) .nil)))))))),?_⟩⟩
   exact⟨by show k0.k+1<=_;omega,Dr h0 h1 (by simp[nOf,mOf,iOf,tOf, *]) (by simp[nOf,mOf,iOf,tOf, *]) (by simp[nOf,mOf,iOf,tOf, *]) (by simp[nOf,mOf,iOf,tOf, *])⟩
  refine OpG.mk _ _ _ 10 (bh sd (a:=(⟨((k0.k:Nat):Int),0,false,w[k0.k].d_⟩:PTest)) Tryz.underlying61 acv acq af6 rfl rfl rfl (ce rfl rfl rfl rfl) rfl (by omega) (by omega) (by unfold TV;omega)) rfl rfl ⟨by omega,⟨(⟨k0.k+1,k0.N,k0.M++[((k0.k:Nat):Int)],k0.I,k0.T++[(⟨((k0.k:Nat):Int),0,false,w[k0.k].d_⟩:PTest)]⟩:KX),(by show w.length-(k0.k+1)<w.length-k0.k;omega),(cO (.cons rfl rfl (.cons rfl rfl (.cons rfl rfl (.cons rfl rfl (.cons rfl rfl (.cons rfl rfl .nil)))))) (.cons rfl rfl rfl (.cons rfl rfl rfl (.cons (by(rw[agx,agx];rfl)) rfl rfl (.cons (by rfl) rfl (aa ck _ _) (.cons (by(rw[agx];rfl)) rfl (aa ck _ _) (.cons (by rfl) rfl (aa iy _ _) (.cons (by(rw[agx,agx];rfl)) rfl (aa sd _ _) .nil)))))))),?_⟩⟩
  exact⟨by show k0.k+1<=_;omega,Dr h0 h1 (by simp[nOf,mOf,iOf,tOf, *]) (by simp[nOf,mOf,iOf,tOf, *]) (by simp[nOf,mOf,iOf,tOf, *]) (by simp[nOf,mOf,iOf,tOf, *])⟩
 refine RegG.via (fun _ h=>b8 [3,4,5,6] 2 0 0 [.sl 3 k0.N.length 0 k0.N.length,.sl 4 k0.M.length 0 k0.M.length,.v (.slice none 0 0),.sl 5 k0.I.length 0 k0.I.length,.sl 6 k0.T.length 0 k0.T.length,.v (.slice none 0 0),.v (.slice none 0 0)] [.tree 1 (k0.N.map iA),.tree 1 (k0.M.map iA),.tree 4 [],.tree 3 (k0.I.map cnA),.tree 4 (k0.T.map teA),.tree 2 [],.tree 2 []] rfl rfl (.fz (FzP.rows ck (by simp) rfl) (.fz (FzP.rows ck (by simp) rfl) (.fz FzP.nil (.fz (FzP.rows iy (by simp) rfl) (.fz (FzP.rows sd (by simp) rfl) (.fz FzP.nil (.fz FzP.nil (.same _)))))))) rfl h) (ba ?_)
 refine⟨.inr rfl,_,Og.cell rfl Y5 rfl rfl rfl rfl rfl ⟨[7],ky (.cons (.pure rfl) (.cons (.pure rfl) (.cons (.pure rfl) (.cons (cx (f:=clA) (l:=[(⟨k0.N,k0.M,[],k0.I,k0.T,[],[]⟩:PCl)]) (agy.2 rfl) rfl rfl rfl rfl rfl rfl (fun a _=>⟨rfl,rfl⟩)) .nil))))⟩,?_⟩
 have e0:k0.k=w.length:=by omega
 have e1:=h0.n
 have e2:=h0.m
 have e3:=h0.i
 have e4:=h0.t
 rw[e0]at e1 e2 e3 e4
 rw[Ck h3,e1,e2,e3,e4];rfl
abbrev isT(l:List PVar)(v:Int):Bool:=decide ((l.getD v.toNat default).t=2)
abbrev isI(l:List PVar)(v:Int):Bool:=decide ((l.getD v.toNat default).t=1)
abbrev mxO(l:List PVar)(v:Int):Int:=(l.getD v.toNat default).mx
abbrev rgO(x:PVar):Int×Int:=(0,if x.t=2 then x.mx else 0)
abbrev rgL(l:List PVar):List (Int×Int):=l.map rgO
abbrev clX(nu M:List Int)(Is:List PCon)(Ts:List GTst):List AV:=[isA nu,isA M,.tree 4 [],.tree 3 (Is.map cnA),.tree 4 (Ts.map tsA),.tree 2 [],.tree 2 []]
structure AsN(n:Nat)(M:List Int):Prop where
 nat:∀v∈M,∃j:Nat,v=((j:Nat):Int)/\j<n
 lt:M.Pairwise (· < ·)
theorem AsN.len{n:Nat}{M:List Int}(h:AsN n M):M.length<=n:=by
 have h1:(M.map Int.toNat).Nodup:=by
  rw[List.Nodup,List.pairwise_map]
  refine h.lt.imp_of_mem fun{a b} ha hb hab=>?_
  obtain⟨j,rfl,_⟩:=h.nat a ha
  obtain⟨k,rfl,_⟩:=h.nat b hb
  simp;omega
 have h2:(M.map Int.toNat) ⊆ List.range n:=fun x hx=>by
  obtain⟨a,ha,rfl⟩:=ahj.1 hx
  obtain⟨j,rfl,hj⟩:=h.nat a ha
  simpa using hj
 have h3:=List.Nodup.length_le_of_subset h1 h2
 simpa using h3
theorem AsN.fil{n:Nat}{M:List Int}(h:AsN n M)(p:Int->Bool):AsN n (M.filter p):=⟨fun v hv=>h.nat v (List.mem_filter.1 hv).1,h.lt.filter p⟩
abbrev plc(N:List Int):List (Int×Value):=(List.range N.length).map fun i=>(N.getD i 0,Value.int .i64 ((i:Nat):Int))
theorem Vc{N:List Int}{v:Int}:plc N++[(v,Value.int .i64 ((N.length:Nat):Int))]=plc (N++[v]):=by
 simp only[plc,agx,List.length_singleton,List.range_succ,ahi,ahh,List.map_nil]
 congr 1
 ·refine List.map_congr_left fun i hi=>?_
  have hi:=List.mem_range.1 hi
  simp[List.getD,List.getElem?_append_left hi]
 simp[List.getD]
theorem acj{N:List Int}(hn:N.Pairwise (·<·)){k:Nat}(h:k<N.length){z0:Value}:asX z0 (plc N) N[k]=.int .i64 ((k:Nat):Int):=by
 rcases ra (z0:=z0) (k:=N[k]) (plc N)with⟨_,h2⟩|⟨j,hj,h1,_,h3⟩
 ·exact absurd (by simp[List.getD,h]) (h2 (N.getD k 0,Value.int .i64 ((k:Nat):Int)) (ahj.2 ⟨k,List.mem_range.2 h,rfl⟩))
 rw[<-h3]
 have h0:j<N.length:=by simpa using hj
 have e:(plc N)[j]=(N.getD j 0,Value.int .i64 ((j:Nat):Int)):=by simp[plc]
 rw[e]at h1 ⊢
 have h1:N.getD j 0=N[k]:=h1
 rw[show N.getD j 0=N[j]by simp[List.getD,h0]]at h1
 have h4:=List.pairwise_iff_getElem.1 hn
 have:j=k:=by
  rcases Nat.lt_trichotomy j k with g|g|g
  ·have:=h4 j k h0 h g;omega
  ·exact g
  ·have:=h4 k j h h0 g;omega
 subst this;rfl
theorem My{l:List PVar}{M:List Int}{k:Nat}(p:Int->Bool)(h:k<M.length)(hp:p M[k]=true):(M.take (k+1)).filter p=(M.take k).filter p++[M[k]]:=by
 rw[ag5 h,List.filter_append];simp[hp]
theorem Ti{l:List PVar}{M:List Int}{k:Nat}(p:Int->Bool)(h:k<M.length)(hp:p M[k]=false):(M.take (k+1)).filter p=(M.take k).filter p:=by
 rw[ag5 h,List.filter_append];simp[hp]
structure KTx where
 k:Nat
 N:List Int
 A:List Int
 B:List Int
structure XTx(l:List PVar)(M:List Int)(s:KTx):Prop where
 n:s.N=(M.take s.k).filter (isT l)
 a:s.A=s.N.map fun _=>0
 b:s.B=s.N.map (mxO l)
 len:s.N.length<=s.k
theorem Yf{l:List PVar}{M:List Int}{s:KTx}(h:XTx l M s)(hk:s.k<M.length)(hp:isT l M[s.k]=true){z m:Int}(hz:z=0)(hm:m=mxO l M[s.k]):XTx l M ⟨s.k+1,s.N++[M[s.k]],s.A++[z],s.B++[m]⟩:=by
 refine⟨?_,?_,?_,?_⟩
 ·show s.N++_=(M.take (s.k+1)).filter _;rw[My (l:=l) _ hk hp,<-h.n]
 ·show s.A++_=(s.N++_).map _;rw[h.a,ahi,hz];rfl
 ·show s.B++_=(s.N++_).map _;rw[h.b,ahi,hm];rfl
 show(s.N++_).length<=s.k+1;have:=h.len;rw[agx];simp only[List.length_singleton];omega
theorem adh{l:List PVar}{M:List Int}{s:KTx}(h:XTx l M s)(hk:s.k<M.length)(hp:isT l M[s.k]=false):XTx l M ⟨s.k+1,s.N,s.A,s.B⟩:=
 ⟨by show s.N=(M.take (s.k+1)).filter _;rw[Ti (l:=l) _ hk hp];exact h.n,h.a,h.b,by show s.N.length<=s.k+1;have:=h.len;omega⟩
theorem gD{l:List PVar}{v:Int}{j:Nat}(hv:v=((j:Nat):Int))(hj:j<l.length):l.getD v.toNat default=l[j]:=by
 subst hv;simp[List.getD,hj]
theorem Z5{n:Nat}{M:List Int}{l:List PVar}(h:AsN n M){k:Nat}(hk:k<M.length){N:List Int}(hN:N=(M.take k).filter (isT l)):∀p∈plc N,p.1≠M[k]:=by
 intro p hp e
 obtain⟨i,hi,rfl⟩:=ahj.1 hp
 have hi:=List.mem_range.1 hi
 have e:N.getD i 0=M[k]:=e
 rw[show N.getD i 0=N[i]by simp[List.getD,hi]]at e
 have hm:M[k]∈M.take k:=by
  rw[<-e];subst hN;exact(List.mem_filter.1 (agt hi)).1
 obtain⟨j,hj,e2⟩:=ahe hm
 have h0:j<k:=by simp at hj;omega
 rw[List.getElem_take]at e2
 have:=List.pairwise_iff_getElem.1 h.lt j k (by omega) hk h0
 omega
abbrev qX(l:List PVar)(tx:Int->ByteArray)(N:List Int):List GQ:=(List.range N.length).map fun i=>⟨(mxO l (N.getD i 0)).toNat,((i:Nat):Int),tx (N.getD i 0)⟩
theorem aec{l:List PVar}{tx:Int->ByteArray}{N:List Int}:mnQ (qX l tx N)=N.map fun _=>0:=by
 apply List.ext_getElem (by simp)
 intro i h1 h2;simp
theorem aeb{l:List PVar}{tx:Int->ByteArray}{N:List Int}(h:∀v∈N,0<=mxO l v):mxQ (qX l tx N)=N.map (mxO l):=by
 apply List.ext_getElem (by simp)
 intro i h1 h2
 have hi:i<N.length:=by simpa using h1
 have:=h N[i] (agt hi)
 simp[List.getD,hi]at this ⊢
 omega
theorem Un{l:List PVar}{tx:Int->ByteArray}{N:List Int}{k:Nat}{L:List GTst}{a:GTst}(h:L=(tsQ (qX l tx N)).take k)(hk:k<N.length)(ha:a=tE ((k:Nat):Int) (tx N[k])):L++[a]=(tsQ (qX l tx N)).take (k+1):=by
 have h0:k<(tsQ (qX l tx N)).length:=by simpa using hk
 rw[ag5 h0,h,ha]
 congr 2
 simp[List.getD,hk]
theorem zi:RowF tsA 4:=⟨fun _=>rfl,fun _=>rfl,fun _ _=>rfl,fun _ _=>rfl,fun _ _=>rfl,fun _=>rfl⟩
theorem Sr:c9 Tryz.prog 104=some (some 5):=by kernel_rfl
theorem acu:ap Tryz.prog 97=some 2:=by kernel_rfl
theorem aaw(l:List PVar)(hl:fy l (fun y=>True))(rg:List (Int×Int))(v:Int)(j:Nat)(hv:v=((j:Nat):Int))(h1:j<l.length)(h2:j<rg.length):PRet Tryz.prog 46 [.tree 5 (l.map vA),.tree 2 (rg.map paA),.v (.int .i64 v)] (fun q=>q=.v (.int .i64 (min rg[j].2 l[j].mx))):=by
 refine ovT [9,14,17] [] Tryz.func46 rfl rfl (OpG.lk (cn Tryz.underlying62 acu rfl rfl hv h2) ?_)
 refine OpG.lk (ro Tryz.underlying97 sz3 rfl rfl rfl) (OpG.lk (cn Tryz.underlying22 X1 rfl rfl hv h1) ?_)
 exact OpG.lk (rl rfl rfl) ⟨by kernel_rfl,rV rfl rfl rfl⟩
theorem Up(l:List PVar)(hl:fy l (fun y=>True))(nu M:List Int)(Is:List PCon)(tx:Int->ByteArray)(hM:AsN l.length M)(hl0:l.length<=1000)(hk:LOk l):PRet Tryz.prog 43 [.tree 5 (l.map vA),.agg (clX nu M Is ((M.filter (isT l)).map fun v=>tE v (tx v))),.tree 2 (((rgL l)).map paA)] (fun q=>q=.tup [.agg (pbQ (qX l tx (M.filter (isT l)))),.tree 1 ((M.filter (isT l)).map iA)]):=by
 have hml:=hM.len
 have hNM:(M.filter (isT l)).length<=M.length:=List.length_filter_le ..
 have hm:∀v∈M.filter (isT l),0<=mxO l v:=fun v hv=>by
  obtain⟨j,e,hj⟩:=hM.nat v (List.mem_filter.1 hv).1
  have h2:=(List.mem_filter.1 hv).2
  simp only[isT,gD e hj,aht]at h2
  have:=hk _ (agt hj)
  simp only[mxO,gD e hj];omega
 refine ovT [29,36,45,71,82,104] [13,29] Tryz.func43 rfl rfl (OpG.nw (LOp.makeMap 3) rfl ?_)
 refine LenG.of (LpG.via (fun _ h=>ic 9 1 rfl 5 rfl h) ?_)
 refine LpG.via (fun _ h=>dc 2 0 1 rfl rfl rfl rfl rfl 6 rfl h) (LpG.via (fun _ h=>dc 2 1 1 rfl rfl rfl rfl rfl 7 rfl h) ?_)
 refine LpG.on (fun k0:KTx=>(⟨fL [(0,.tree 5 (l.map vA)),(2,.tree 2 (((rgL l)).map paA)),(4,.ptr 0 0 0),(6,.ptr 1 0 0),(8,.ptr 2 0 0),(9,.sl 4 k0.N.length 0 k0.N.length),(10,.mp 3 0),(21,.tree 1 (M.map iA)),(22,.v (.int .i64 ((M.length:Nat):Int))),(23,.v (.int .i64 ((k0.k:Nat):Int)))],hLz [(0,⟨0,clX nu M Is ((M.filter (isT l)).map fun v=>tE v (tx v)),0,false⟩),(1,⟨0,[.v (.slice none 0 0),.v (.slice none 0 0),.v (.slice none 0 0),.v (.slice none 0 0),.v (.slice none 0 0)],0,false⟩),(2,⟨0,[.sl 5 k0.A.length 0 k0.A.length,.sl 6 k0.B.length 0 k0.B.length,.v (.slice none 0 0),.v (.slice none 0 0),.v (.slice none 0 0)],0,false⟩),(3,(xg (plc k0.N))),(4,⟨k0.N.length,rF iA k0.N,1,Nat.beq k0.N.length 0⟩),(5,⟨k0.A.length,rF iA k0.A,1,Nat.beq k0.A.length 0⟩),(6,⟨k0.B.length,rF iA k0.B,1,Nat.beq k0.B.length 0⟩)],7⟩:St)) (fun k0=>(M.length-k0.k)) (fun k0=>(k0.k<=M.length/\XTx l M k0)) (⟨0,[],[],[]⟩:KTx) (cO (.cons rfl rfl (.cons rfl rfl (.cons rfl rfl (.cons rfl rfl (.cons rfl rfl (.cons (by rfl) rfl (.cons rfl rfl (.cons rfl rfl (.cons rfl rfl (.cons rfl rfl .nil)))))))))) (.cons rfl rfl rfl (.cons rfl rfl rfl (.cons (by rfl) rfl rfl (.cons (by rfl) rfl (ee _ _) (.cons (by rfl) rfl (aa ck _ _) (.cons (by rfl) rfl (aa ck _ _) (.cons (by rfl) rfl (aa ck _ _) .nil)))))))) ⟨ag6 _,⟨rfl,rfl,rfl,ag8 _⟩⟩ ?_
 rintro k0 h5
 obtain⟨h6,h0⟩:=h5
 refine cL (fun h1=>?_) (fun hge24=>?_)
 ·obtain⟨vN,h9,ha⟩:=hM.nat M[k0.k] (agt _)
  have hh:vN<(rgL l).length:=by simpa using ha
  have hg:=gD h9 ha
  have hln:=h0.len
  have hla:k0.A.length=k0.N.length:=by rw[h0.a];simp
  have hlb:k0.B.length=k0.N.length:=by rw[h0.b];simp
  refine IdxG.of ‹_› (OpG.lk (cn Tryz.underlying22 X1 rfl rfl h9 ha) ?_)
  refine cB (fun h3=>?_) (fun h3=>?_)
  ·have hd:(l[vN].t:Int)=(2:Int):=by simpa using h3
   have hb:l[vN].t=2:=by simpa using h3
   have he:isT l M[k0.k]=true:=by show decide ((l.getD M[k0.k].toNat default).t=2)=true;rw[hg];exact decide_eq_true hb
   refine OpG.lk (bo rfl Tryz.underlying58 rfl rfl rfl) (OpG.wr (H0 (a:=.int .i64 ((k0.N.length:Nat):Int)) Tryz.underlying159 Tryz.underlying3 rfl rfl rfl rfl (Z5 hM h1 h0.n)) rfl ?_)
   refine OpG.mk _ _ _ 8 (bh ck (a:=M[k0.k]) Tryz.underlying58 sz3 zr3 by3 rfl rfl rfl (ce rfl rfl rfl rfl) rfl (by omega) (by omega) (by unfold TV;omega)) rfl rfl (OpG.lk (cn Tryz.underlying62 acu rfl rfl h9 hh) ?_)
   refine OpG.lk (ro Tryz.underlying97 sz3 rfl rfl rfl) (OpG.mk _ _ _ 9 (bh ck (a:=((rgL l)[vN].1)) Tryz.underlying58 sz3 zr3 by3 rfl rfl rfl (ce rfl rfl rfl rfl) rfl (by omega) (by omega) (by unfold TV;omega)) rfl rfl ?_)
   refine⟨by kernel_rfl,ArgG.mk (aaw l (by omega) (rgL l) M[k0.k] vN h9 ha hh) rfl ?_⟩
   rintro _ rfl
   refine OpG.mk _ _ _ 10 (bh ck (a:=(min (rgL l)[vN].2 l[vN].mx)) Tryz.underlying58 sz3 zr3 by3 rfl rfl rfl (ce rfl rfl rfl rfl) rfl (by omega) (by omega) (by unfold TV;omega)) rfl rfl ⟨by kernel_rfl,⟨by omega,?_⟩⟩
   refine⟨(⟨k0.k+1,k0.N++[M[k0.k]],k0.A++[(rgL l)[vN].1],k0.B++[min (rgL l)[vN].2 l[vN].mx]⟩:KTx),(by show M.length-(k0.k+1)<M.length-k0.k;omega),(cO (.cons rfl rfl (.cons rfl rfl (.cons rfl rfl (.cons rfl rfl (.cons rfl rfl (.cons (by(rw[agx];rfl)) rfl (.cons rfl rfl (.cons rfl rfl (.cons rfl rfl (.cons rfl rfl .nil)))))))))) (.cons rfl rfl rfl (.cons rfl rfl rfl (.cons (by(rw[agx,agx,agx];rfl)) rfl rfl (.cons (by(rw[Vc];rfl)) rfl (ee _ _) (.cons (by(rw[agx];rfl)) rfl (aa ck _ _) (.cons (by(rw[agx,agx];rfl)) rfl (aa ck _ _) (.cons (by(rw[agx,agx,agx];rfl)) rfl (aa ck _ _) .nil)))))))),⟨by show k0.k+1<=_;omega,?_⟩⟩
   exact Yf h0 h1 he (by simp) (by rw[mxO,hg];simp[hb])
  have hd:¬((l[vN].t:Int)=(2:Int)):=by simpa using h3
  have hb:¬l[vN].t=2:=by simpa using h3
  have hn:isT l M[k0.k]=false:=by show decide ((l.getD M[k0.k].toNat default).t=2)=false;rw[hg];exact decide_eq_false hb
  refine⟨by omega,⟨(⟨k0.k+1,k0.N,k0.A,k0.B⟩:KTx),(by show M.length-(k0.k+1)<M.length-k0.k;omega),(cO (.cons rfl rfl (.cons rfl rfl (.cons rfl rfl (.cons rfl rfl (.cons rfl rfl (.cons (by rfl) rfl (.cons rfl rfl (.cons rfl rfl (.cons rfl rfl (.cons rfl rfl .nil)))))))))) (.cons rfl rfl rfl (.cons rfl rfl rfl (.cons (by rfl) rfl rfl (.cons (by rfl) rfl (ee _ _) (.cons (by rfl) rfl (aa ck _ _) (.cons (by rfl) rfl (aa ck _ _) (.cons (by rfl) rfl (aa ck _ _) .nil)))))))),?_⟩⟩
  exact⟨by show k0.k+1<=_;omega,adh h0 h1 hn⟩
 have ho:k0.k=M.length:=by have:=h6;omega
 have hc:k0.N=(M.filter (isT l)):=by rw[h0.n,ho,List.take_length]
 have hA:k0.A=mnQ (qX l tx (M.filter (isT l))):=by rw[h0.a,hc,aec]
 have hB:k0.B=mxQ (qX l tx (M.filter (isT l))):=by rw[h0.b,hc,aeb hm]
 refine RegG.via (fun _ h=>b8 [5,6] 2 0 0 [.sl 5 k0.A.length 0 k0.A.length,.sl 6 k0.B.length 0 k0.B.length,.v (.slice none 0 0),.v (.slice none 0 0),.v (.slice none 0 0)] [.tree 1 (k0.A.map iA),.tree 1 (k0.B.map iA),.v (.slice none 0 0),.v (.slice none 0 0),.v (.slice none 0 0)] rfl rfl (.fz (FzP.rows ck (by simp) rfl) (.fz (FzP.rows ck (by simp) rfl) (.same _))) rfl h) (RegG.via (fun _ h=>br [4] 9 (.tree 1 (k0.N.map iA)) (FzP.rows ck (agy.2 rfl) rfl) rfl h) ?_)
 refine RegG.via (fun _ h=>cd 3 (xg (plc (M.filter (isT l)))) rfl (by rw[hc]) h) (ba ?_)
 refine LenG.of (LpG.via (fun _ h=>dc 2 2 4 rfl rfl rfl rfl rfl 8 rfl h) ?_)
 refine LpG.on (fun k2:KL GTst=>(⟨fL [(4,.ptr 0 0 0),(6,.ptr 1 0 0),(8,.ptr 2 0 0),(9,.tree 1 (k0.N.map iA)),(10,.mp 3 0),(62,.tree 4 ((((M.filter (isT l)).map fun v=>tE v (tx v))).map tsA)),(63,.v (.int .i64 ((((M.filter (isT l)).map fun v=>tE v (tx v)).length:Nat):Int))),(64,.v (.int .i64 ((k2.k:Nat):Int)))],hLz [(0,⟨0,clX nu M Is ((M.filter (isT l)).map fun v=>tE v (tx v)),0,false⟩),(1,⟨0,[.v (.slice none 0 0),.v (.slice none 0 0),.v (.slice none 0 0),.v (.slice none 0 0),.v (.slice none 0 0)],0,false⟩),(2,⟨0,[.tree 1 (k0.A.map iA),.tree 1 (k0.B.map iA),.sl 7 k2.L.length 0 k2.L.length,.v (.slice none 0 0),.v (.slice none 0 0)],0,false⟩),(3,(xg (plc (M.filter (isT l))))),(7,⟨k2.L.length,rF tsA k2.L,4,Nat.beq k2.L.length 0⟩)],8⟩:St)) (fun k2=>(((M.filter (isT l)).map fun v=>tE v (tx v)).length-k2.k)) (fun k2=>(k2.k<=((M.filter (isT l)).map fun v=>tE v (tx v)).length/\(k2.L=(tsQ (qX l tx (M.filter (isT l)))).take k2.k))) (⟨0,[]⟩:KL GTst) (cO (.cons rfl rfl (.cons rfl rfl (.cons rfl rfl (.cons rfl rfl (.cons rfl rfl (.cons rfl rfl (.cons rfl rfl (.cons rfl rfl .nil)))))))) (.cons rfl rfl rfl (.cons rfl rfl rfl (.cons (by rfl) rfl rfl (.cons rfl rfl (ee _ _) (.cons (by rfl) rfl (aa zi _ _) .nil)))))) ⟨ag6 _,rfl⟩ ?_
 rintro k2 h5
 obtain⟨hle_k2,h4⟩:=h5
 refine cL (fun h7=>?_) (fun h8=>?_)
 ·have hi:k2.k<(M.filter (isT l)).length:=by simpa using h7
  have hl2:k2.L.length=k2.k:=by rw[h4];simp;omega
  have hf:asX (.int .i64 0) (plc (M.filter (isT l))) (((M.filter (isT l)).map fun v=>tE v (tx v))[k2.k]).h_=.int .i64 ((k2.k:Nat):Int):=by rw[show(((M.filter (isT l)).map fun v=>tE v (tx v))[k2.k]).h_=(M.filter (isT l))[k2.k]by simp];exact acj (hM.fil _).lt hi
  refine IdxG.of ‹_› (OpG.lk (w8 (v:=.int .i64 ((k2.k:Nat):Int)) Tryz.underlying159 Tryz.underlying3 zr3 rfl rfl rfl hf) ?_)
  refine OpG.mk _ _ _ 10 (bh zi (a:=(⟨((k2.k:Nat):Int),(((M.filter (isT l)).map fun v=>tE v (tx v))[k2.k]).c_,(((M.filter (isT l)).map fun v=>tE v (tx v))[k2.k]).f_,(((M.filter (isT l)).map fun v=>tE v (tx v))[k2.k]).d_⟩:GTst)) Tryz.underlying61 acv acq af6 rfl rfl rfl (ce rfl rfl rfl rfl) rfl (by omega) (by omega) (by unfold TV;omega)) rfl rfl ⟨by omega,⟨(⟨k2.k+1,k2.L++[(⟨((k2.k:Nat):Int),(((M.filter (isT l)).map fun v=>tE v (tx v))[k2.k]).c_,(((M.filter (isT l)).map fun v=>tE v (tx v))[k2.k]).f_,(((M.filter (isT l)).map fun v=>tE v (tx v))[k2.k]).d_⟩:GTst)]⟩:KL GTst),(by show((M.filter (isT l)).map fun v=>tE v (tx v)).length-(k2.k+1)<((M.filter (isT l)).map fun v=>tE v (tx v)).length-k2.k;omega),(cO (.cons rfl rfl (.cons rfl rfl (.cons rfl rfl (.cons rfl rfl (.cons rfl rfl (.cons rfl rfl (.cons rfl rfl (.cons rfl rfl .nil)))))))) (.cons rfl rfl rfl (.cons rfl rfl rfl (.cons (by(rw[agx];rfl)) rfl rfl (.cons rfl rfl (ee _ _) (.cons (by(rw[agx];rfl)) rfl (aa zi _ _) .nil)))))),?_⟩⟩
  exact⟨by show k2.k+1<=_;omega,Un h4 hi (by simp)⟩
 have hL:k2.L=tsQ (qX l tx (M.filter (isT l))):=by rw[h4];exact ahl (by simp at h8 ⊢;omega)
 refine OpG.lk (lT (f:=paA) (l:=[]) rfl Tryz.underlying62 rfl) (LpG.exit ?_)
 refine cF (OpG.lk (lT (f:=paA) (l:=[]) rfl Tryz.underlying62 rfl) ?_)
 refine LpG.exit (cF ?_)
 refine RegG.via (fun _ h=>b8 [7] 2 0 0 [.tree 1 (k0.A.map iA),.tree 1 (k0.B.map iA),.sl 7 k2.L.length 0 k2.L.length,.v (.slice none 0 0),.v (.slice none 0 0)] [.tree 1 (k0.A.map iA),.tree 1 (k0.B.map iA),.tree 4 (k2.L.map tsA),.v (.slice none 0 0),.v (.slice none 0 0)] rfl rfl (.keep (.keep (.fz (FzP.rows zi (by simp) rfl) (.same _)))) rfl h) (ba ?_)
 refine⟨.inr rfl,_,Og.two rfl (T7.cellN Tryz.f43 Sr rfl rfl rfl rfl rfl ⟨[],FzP.pure rfl⟩) (T7.tmp ⟨[],FzP.pure rfl⟩),?_⟩
 rw[hc,hA,hB,hL];rfl
end Go.Proofs.YtmbmbhkemgmhfaaGreatDoor
namespace Go.Proofs
open Go.Shelf
def Tryz.cloCf_ren:Go.Shelf.Ren:=⟨fun|41=>48|n=>n,fun|22=>83|23=>82|4=>4|n=>n,fun|n=>n⟩
theorem Tryz.cloCf:Go.Proofs.SlLaysE0.n41 Tryz.prog Tryz.cloCf_ren:={
 mixed:=by kernel_rfl
 f41:=⟨Tryz.f48.name,by decide,Tryz.func48.trans (congrArg some (by kernel_rfl))⟩
 t4:=Tryz.underlying4
 a4:=Tryz.isAgg4
 z4:=Tryz.sizeOf4
 v4:=Tryz.zeroValue4
 t22:=Tryz.underlying83
 a22:=Tryz.isAgg83
 z22:=Tryz.sizeOf83
 v22:=Tryz.zeroValue83}
end Go.Proofs
namespace Go.Proofs.YtmbmbhkemgmhfaaGreatDoor
set_option maxRecDepth 1000000
set_option maxHeartbeats 0
open Go.Shelf in
theorem af5:CloneL Tryz.prog 48 2:=⟨⟨Tryz.cloCf_ren,Tryz.t82,_,_,rfl,Tryz.cloCf,by kernel_rfl,rfl,rfl,rfl,rfl,Tryz.sizeOf82,by decide⟩,by decide⟩
set_option linter.unusedVariables false
set_option linter.unusedSimpArgs false
open Go.RowKit
theorem Az{P:Program}{τ:Nat->AV}{η:bf}{d:Option Tmp}{ty:TypeId}{pos:String}{af:Array Edge}{g:Option (Nat×Bool)}{t e n:Nat}{x:Operand}(hx:aev τ x=.tree n [])(hu:P.underlying t=some (.slice e)):LOp P ⟨d,.call {callee:=.builtin .len,args:=#[x],argTypes:=#[t]},ty,pos,af,g⟩ τ η [] [] (.v (.int .i64 0)):=
 lT (α:=Nat) (f:=fun _=>[]) (l:=[]) rfl hu hx
abbrev loO(l:List PVar)(v:Int):Int:=(l.getD v.toNat default).lo
abbrev hiO(l:List PVar)(v:Int):Int:=(l.getD v.toNat default).hi
abbrev bdV(v lo hi:Int):List PCon:=[⟨⟨lo,[⟨v,-1⟩]⟩,false⟩,⟨⟨-hi,[⟨v,1⟩]⟩,false⟩]
abbrev bdO(l:List PVar)(v:Int):List PCon:=bdV v (loO l v) (hiO l v)
structure KIx where
 k:Nat
 L:List PCon
 v:Nat
structure XIi(l:List PVar)(M:List Int)(s:KIx):Prop where
 n:s.L=((M.take s.k).filter (isI l)).flatMap (bdO l)
 len:s.L.length<=2*s.k
 v:s.v<=s.k
theorem Ud{l:List PVar}{M:List Int}{s:KIx}(h:XIi l M s)(hk:s.k<M.length)(hp:isI l M[s.k]=true){b:List PCon}(hb:b=bdO l M[s.k])(hb2:b.length=2):XIi l M ⟨s.k+1,s.L++b,vbX s.v (s.L++b).length⟩:=by
 refine⟨?_,?_,?_⟩
 ·show s.L++b=((M.take (s.k+1)).filter _).flatMap _
  rw[My (l:=l) _ hk hp,List.flatMap_append,<-h.n,hb];simp
 ·show(s.L++b).length<=2*(s.k+1);have:=h.len;rw[agx];omega
 have:=h.v
 show vbX s.v _<=s.k+1
 unfold vbX;cases Nat.beq (s.L++b).length 0<;>simp only[cond_true,cond_false]<;>omega
theorem Yg{l:List PVar}{M:List Int}{s:KIx}(h:XIi l M s)(hk:s.k<M.length)(hp:isI l M[s.k]=false):XIi l M ⟨s.k+1,s.L,s.v⟩:=
 ⟨by show s.L=((M.take (s.k+1)).filter _).flatMap _;rw[Ti (l:=l) _ hk hp];exact h.n,by show s.L.length<=2*(s.k+1);have:=h.len;omega,by show s.v<=s.k+1;have:=h.v;omega⟩
theorem ae2{l:List PVar}(h:LOk l){j:Nat}(hj:j<l.length):(-2147483648<=l[j].lo/\l[j].lo<=2147483647)/\(-2147483648<=l[j].hi/\l[j].hi<=2147483647):=by
 rcases h _ (agt hj)with g|g<;>omega
theorem Rf(v lo hi:Int)(hh:-2147483648<=hi/\hi<=2147483647):PRet Tryz.prog 45 [.v (.int .i64 v),.v (.int .i64 lo),.v (.int .i64 hi)] (fun q=>q=.tree 3 ((bdV v lo hi).map cnA)):=by
 refine ovT [10,14,17,20] [] Tryz.func45 rfl rfl (OpG.nw (fx (je Tryz.underlying83 adr ade rfl rfl rfl rfl) (fun η' h=>cx (f:=cfA) (l:=[(⟨v,-1⟩:PCoef)]) (agy.2 rfl) h rfl rfl rfl rfl rfl (fun a _=>⟨rfl,rfl⟩))) rfl ?_)
 refine OpG.lk (js rfl (by omega) (by omega)) (OpG.nw (fx (je Tryz.underlying83 adr ade rfl rfl rfl rfl) (fun η' h=>cx (f:=cfA) (l:=[(⟨v,1⟩:PCoef)]) (agy.2 rfl) h rfl rfl rfl rfl rfl (fun a _=>⟨rfl,rfl⟩))) rfl ?_)
 exact OpG.nw (fx (je Tryz.underlying60 acw acr rfl rfl rfl rfl) (fun η' h=>cx (f:=cnA) (l:=(bdV v lo hi)) (agy.2 rfl) h rfl rfl rfl rfl rfl (fun a _=>⟨rfl,rfl⟩))) rfl (rV rfl rfl rfl)
theorem aas(l:List PVar)(hl:fy l (fun y=>True))(nu M:List Int)(Is:List PCon)(Ts:List GTst)(rg:List (Int×Int))(hM:AsN l.length M)(hl0:l.length<=1000)(hc:LOk l)(hd:∀c∈Is,c.l.cs.length<=1000)(hIl:Is.length<=1000):PRet Tryz.prog 33 [.tree 5 (l.map vA),.agg (clX nu M Is Ts),.tree 2 (rg.map paA)] (fun q=>q=.tup [.v (.int .i64 ((l.length:Nat):Int)),.tree 3 (((M.filter (isI l)).flatMap (bdO l)++Is).map cnA)]):=by
 have hml:=hM.len
 refine ovT [25,33,38,42,46,105] [] Tryz.func33 rfl rfl ?_
 refine LenG.of (LpG.via (fun _ h=>ic 8 3 rfl 2 rfl h) ?_)
 refine LpG.on (fun k0:KIx=>(⟨fL [(0,.tree 5 (l.map vA)),(2,.tree 2 (rg.map paA)),(4,.ptr 0 0 0),(8,.sl 1 k0.v 0 k0.L.length),(17,.tree 1 (M.map iA)),(18,.v (.int .i64 ((M.length:Nat):Int))),(19,.v (.int .i64 ((k0.k:Nat):Int)))],hLz [(0,⟨0,clX nu M Is Ts,0,false⟩),(1,⟨k0.v,rF cnA k0.L,3,Nat.beq k0.L.length 0⟩)],2⟩:St)) (fun k0=>(M.length-k0.k)) (fun k0=>(k0.k<=M.length/\XIi l M k0)) (⟨0,[],0⟩:KIx) (cO (.cons rfl rfl (.cons rfl rfl (.cons rfl rfl (.cons (by rfl) rfl (.cons rfl rfl (.cons rfl rfl (.cons rfl rfl .nil))))))) (.cons rfl rfl rfl (.cons (by rfl) rfl (aa iy _ _) .nil))) ⟨ag6 _,⟨rfl,ag8 _,ag8 _⟩⟩ ?_
 rintro k0 h5
 obtain⟨h6,h0⟩:=h5
 refine cL (fun h3=>?_) (fun hge20=>?_)
 ·obtain⟨vN,h8,h7⟩:=hM.nat M[k0.k] (agt _)
  have hg:=gD h8 h7
  have he:=ae2 hc h7
  refine IdxG.of ‹_› (OpG.lk (cn Tryz.underlying22 X1 rfl rfl h8 h7) ?_)
  refine cB (fun h2=>?_) (fun h2=>?_)
  ·have h9:(l[vN].t:Int)=(1:Int):=by simpa using h2
   have ha:l[vN].t=1:=by simpa using h2
   have hb:isI l M[k0.k]=true:=by show decide ((l.getD M[k0.k].toNat default).t=1)=true;rw[hg];exact decide_eq_true ha
   refine OpG.lk (cn Tryz.underlying22 X1 rfl rfl h8 h7) ?_
   refine OpG.lk (cn Tryz.underlying22 X1 rfl rfl h8 h7) ?_
   refine ArgG.mk (Rf M[k0.k] l[vN].lo l[vN].hi he.2) rfl ?_
   rintro _ rfl
   refine OpG.mk _ _ _ 2 (og iy (l:=k0.L) (l':=(bdV M[k0.k] l[vN].lo l[vN].hi)) Tryz.underlying60 acw acr af7 rfl rfl rfl rfl (by have:=h0.len;simp only[ahf,ahg];omega) (by have:=h0.len;simp only[ahf,ahg];omega) (by have:=h0.v;unfold TV;omega)) rfl rfl ?_
   refine⟨by kernel_rfl,?_⟩
   refine⟨by omega,?_⟩
   refine⟨(⟨k0.k+1,k0.L++(bdV M[k0.k] l[vN].lo l[vN].hi),vbX k0.v (k0.L++(bdV M[k0.k] l[vN].lo l[vN].hi)).length⟩:KIx),(by show M.length-(k0.k+1)<M.length-k0.k;omega),(cO (.cons rfl rfl (.cons rfl rfl (.cons rfl rfl (.cons (by rfl) rfl (.cons rfl rfl (.cons rfl rfl (.cons rfl rfl .nil))))))) (.cons rfl rfl rfl (.cons (by rfl) rfl (aa iy _ _) .nil))),?_⟩
   refine⟨by show k0.k+1<=_;omega,?_⟩
   exact Ud h0 h3 hb (by simp only[bdO,loO,hiO,hg]) rfl
  have h9:¬((l[vN].t:Int)=(1:Int)):=by simpa using h2
  have ha:¬l[vN].t=1:=by simpa using h2
  have hf:isI l M[k0.k]=false:=by show decide ((l.getD M[k0.k].toNat default).t=1)=false;rw[hg];exact decide_eq_false ha
  refine⟨by omega,?_⟩
  refine⟨(⟨k0.k+1,k0.L,k0.v⟩:KIx),(by show M.length-(k0.k+1)<M.length-k0.k;omega),(cO (.cons rfl rfl (.cons rfl rfl (.cons rfl rfl (.cons (by rfl) rfl (.cons rfl rfl (.cons rfl rfl (.cons rfl rfl .nil))))))) (.cons rfl rfl rfl (.cons (by rfl) rfl (aa iy _ _) .nil))),?_⟩
  refine⟨by show k0.k+1<=_;omega,?_⟩
  exact Yg h0 h3 hf
 have hh:k0.k=M.length:=by have:=h6;omega
 have hj:k0.L=(M.filter (isI l)).flatMap (bdO l):=by rw[h0.n,hh,List.take_length]
 refine OpG.lk (Az rfl Tryz.underlying59) ?_
 refine LpG.exit ?_
 refine cF (LenG.of ?_)
 refine LpG.on (fun k4:KIx=>(⟨fL [(0,.tree 5 (l.map vA)),(4,.ptr 0 0 0),(8,.sl 1 k4.v 0 k4.L.length),(84,.tree 3 (Is.map cnA)),(85,.v (.int .i64 ((Is.length:Nat):Int))),(86,.v (.int .i64 ((k4.k:Nat):Int)))],hLz [(0,⟨0,clX nu M Is Ts,0,false⟩),(1,⟨k4.v,rF cnA k4.L,3,Nat.beq k4.L.length 0⟩)],2⟩:St)) (fun k4=>(Is.length-k4.k)) (fun k4=>(k4.k<=Is.length/\(k4.L=k0.L++Is.take k4.k/\k4.v=k0.v+k4.k))) (⟨0,k0.L,k0.v⟩:KIx) (cO (.cons rfl rfl (.cons rfl rfl (.cons (by rfl) rfl (.cons rfl rfl (.cons rfl rfl (.cons rfl rfl .nil)))))) (.cons rfl rfl rfl (.cons (by rfl) rfl (aa iy _ _) .nil))) ⟨ag6 _,⟨by simp,rfl⟩⟩ ?_
 rintro k4 h5
 obtain⟨hle_k4,h1⟩:=h5
 refine cL (fun h4=>?_) (fun hge87=>?_)
 ·have hl4:=h0.len
  have hv4:=h0.v
  have hq4:k4.L.length=k0.L.length+k4.k:=by rw[h1.1,agx,List.length_take];omega
  refine IdxG.of ‹_› (ArgG.mk (PRet.of_call (CloneL.tree af5 (fun _=>rfl) Is[k4.k].l.cs (by have:=hd _ (agt h4);omega))) rfl ?_)
  rintro _ rfl
  refine OpG.mk _ _ _ 4 (bh iy (a:=Is[k4.k]) Tryz.underlying60 acw acr af7 rfl rfl rfl (ce rfl rfl rfl rfl) rfl (by omega) (by omega) (by unfold TV;omega)) rfl rfl ?_
  refine⟨by omega,?_⟩
  refine⟨(⟨k4.k+1,k4.L++[Is[k4.k]],k4.v+1⟩:KIx),(by show Is.length-(k4.k+1)<Is.length-k4.k;omega),(cO (.cons rfl rfl (.cons rfl rfl (.cons (by rfl) rfl (.cons rfl rfl (.cons rfl rfl (.cons rfl rfl .nil)))))) (.cons rfl rfl rfl (.cons (by rfl) rfl (aa iy _ _) .nil))),?_⟩
  refine⟨by show k4.k+1<=_;omega,?_⟩
  exact⟨by show k4.L++_=k0.L++Is.take (k4.k+1);rw[h1.1,ag5 h4,List.append_assoc],by show k4.v+1=k0.v+(k4.k+1);have:=h1.2;omega⟩
 have hk:k4.L=k0.L++Is:=by rw[h1.1,ahl (by omega)]
 refine LenG.of (OpG.lk (Az rfl Tryz.underlying59) ?_)
 refine⟨by omega,?_⟩
 refine⟨.inr rfl,_,Og.two rfl (T7.tmp ⟨[],FzP.pure rfl⟩) (T7.tmp ⟨[1],FzP.rows iy (agy.2 rfl) rfl⟩),?_⟩
 show AV.tup [.v (.int .i64 (((l.length:Nat):Int)+0)),.tree 3 (k4.L.map cnA)]=_
 rw[hk,hj,Int.add_zero]
end Go.Proofs.YtmbmbhkemgmhfaaGreatDoor
