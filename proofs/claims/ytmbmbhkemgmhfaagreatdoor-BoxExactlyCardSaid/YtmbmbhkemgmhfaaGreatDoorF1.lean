/- Texts of the claim. -/
import Derived.IntWalk
import Derived.Test.YtmbmbhkemgmhfaaGreatDoorInf
import Derived.Test.YtmbmbhkemgmhfaaGreatDoorQ2
namespace Go.Proofs.YtmbmbhkemgmhfaaGreatDoor
set_option maxRecDepth 1000000
set_option maxHeartbeats 0
set_option linter.unusedVariables false
set_option linter.unusedSimpArgs false
open Go.RowKit
theorem mixed:Tryz.prog.follows .mixedOrders=true:=by kernel_rfl
structure PVar where
 (t lo hi mx:Int) (nl:Bool)
structure PCoef where
 (v n:Int)
structure PLin where
 (k:Int) (cs:List PCoef)
structure PAux where
 (of_:PLin) (by_ tx:Int)
structure PCon where
 (l:PLin) (eq:Bool)
structure PTest where
 (v kd:Int) (ng:Bool) (s:ByteArray)
structure PCl where
 (nul nn:List Int) (aux:List PAux) (ints:List PCon) (tests:List PTest) (same diff:List (Int×Int))
structure PPred where
 (tab cols:Int) (vars:List PVar) (cls:List PCl)
instance:Inhabited PVar:=⟨⟨0,0,0,0,false⟩⟩
instance:Inhabited PCoef:=⟨⟨0,0⟩⟩
instance:Inhabited PAux:=⟨⟨⟨0,[]⟩,0,0⟩⟩
instance:Inhabited PCon:=⟨⟨⟨0,[]⟩,false⟩⟩
instance:Inhabited PTest:=⟨⟨0,0,false,⟨#[]⟩⟩⟩
instance:Inhabited PCl:=⟨⟨[],[],[],[],[],[],[]⟩⟩
abbrev vA(x:PVar):List AV:=[.v (.int .i64 x.t),.v (.int .i64 x.lo),.v (.int .i64 x.hi),.v (.int .i64 x.mx),.v (.bool x.nl)]
abbrev cfA(x:PCoef):List AV:=[.v (.int .i64 x.v),.v (.int .i64 x.n)]
abbrev csA(l:List PCoef):AV:=.tree 2 (l.map cfA)
abbrev axA(x:PAux):List AV:=[.v (.int .i64 x.of_.k),csA x.of_.cs,.v (.int .i64 x.by_),.v (.int .i64 x.tx)]
abbrev cnA(x:PCon):List AV:=[.v (.int .i64 x.l.k),csA x.l.cs,.v (.bool x.eq)]
abbrev teA(x:PTest):List AV:=[.v (.int .i64 x.v),.v (.int .i64 x.kd),.v (.bool x.ng),.v (.string x.s)]
abbrev paA(x:Int×Int):List AV:=[.v (.int .i64 x.1),.v (.int .i64 x.2)]
abbrev vsA(l:List PVar):AV:=.tree 5 (l.map vA)
abbrev psA(l:List (Int×Int)):AV:=.tree 2 (l.map paA)
abbrev clA(c:PCl):List AV:=[isA c.nul,isA c.nn,.tree 4 (c.aux.map axA),.tree 3 (c.ints.map cnA),.tree 4 (c.tests.map teA),psA c.same,psA c.diff]
abbrev prA(p:PPred):List AV:=[.v (.int .i64 p.tab),.v (.int .i64 p.cols),vsA p.vars,.tree 7 (p.cls.map clA)]
def Jn(x:PVar):Bool:=if x.t=1 then decide (x.lo≥-2147483648)&&decide (x.lo<=x.hi)&&decide (x.hi<=2147483647)&&x.mx==0
 else x.t==2&&decide (x.mx≥0)&&decide (x.mx<=16)&&x.lo==0&&x.hi==0
def abh(l:List PVar)(j:Nat):Bool:=Jn (l.getD j default)
def abi(l:List PVar):Bool:=X9 l.length (abh l)&&decide ((l.length:Int)<=64)
def Oz(s:ByteArray)(j:Nat):Bool:=!(decide (((bAt s j).toNat:Int)<32)||decide (((bAt s j).toNat:Int)>126))
theorem adl(x:PVar):eu Tryz.prog 18 [.agg (vA x)] (.v (.bool (Jn x))):=by
 refine PRet.eq (ovT [] [] Tryz.func18 rfl rfl ?_)
 refine cB (fun h6=>?_) (fun h6=>?_)
 ·refine cB (fun h7=>?_) (fun h7=>?_)
  ·refine cB (fun h0=>?_) (fun h0=>?_)
   ·refine cB (fun h1=>?_) (fun h1=>?_)
    ·refine rV rfl rfl ?_
     refine dt ?_;unfold Jn;simp_all;try(intros;omega)
    refine rV rfl rfl ?_
    refine dt ?_;unfold Jn;simp_all;try(intros;omega)
   refine cF (rV rfl rfl ?_)
   refine dt ?_;unfold Jn;simp_all;try(intros;omega)
  refine cF (cF ?_)
  refine rV rfl rfl ?_
  refine dt ?_;unfold Jn;simp_all;try(intros;omega)
 refine cB (fun h2=>?_) (fun h2=>?_)
 ·refine cB (fun h3=>?_) (fun h3=>?_)
  ·refine cB (fun h4=>?_) (fun h4=>?_)
   ·refine cB (fun h5=>?_) (fun h5=>?_)
    ·refine rV rfl rfl ?_
     refine dt ?_;unfold Jn;simp_all;try(intros;omega)
    refine rV rfl rfl ?_
    refine dt ?_;unfold Jn;simp_all;try(intros;omega)
   refine cF (rV rfl rfl ?_)
   refine dt ?_;unfold Jn;simp_all;try(intros;omega)
  refine cF (cF ?_)
  refine rV rfl rfl ?_
  refine dt ?_;unfold Jn;simp_all;try(intros;omega)
 refine cF (cF ?_)
 refine cF (rV rfl rfl ?_)
 refine dt ?_;unfold Jn;simp_all;try(intros;omega)
theorem afr(l:List PVar)(hl:l.length<=1000000000):eu Tryz.prog 5 [vsA l] (.v (.bool (abi l))):=by
 refine PRet.eq (ovT [] [] Tryz.func5 rfl rfl ?_)
 refine LpG.loop (fun n s=>∃k:Nat,n=(l.length-k)/\s=⟨fL [(0,vsA l),(3,.v (.int .i64 ((k:Nat):Int)))],hLz [],0⟩/\(k<=l.length/\∀j,j<k->abh l j=true)) (n:=(l.length-0)) (s1:=⟨fL [(0,vsA l),(3,.v (.int .i64 ((0:Nat):Int)))],hLz [],0⟩) (cO (.cons rfl rfl (.cons rfl rfl .nil)) .nil) ⟨0,rfl,rfl,⟨ag6 _,fun j h=>absurd h (ag7 j)⟩⟩ ?_
 rintro n s ⟨k,rfl,rfl,h0⟩
 obtain⟨hk,hj⟩:=h0
 try refine LenG.of ?_
 refine cL (fun h1=>?_) (fun h3=>?_)
 ·refine IdxG.of (by first|assumption|omega|decide) ?_
  refine ArgG.mk (PRet.of_call ((adl l[k]))) rfl ?_
  rintro _ rfl
  refine cB (fun h2=>?_) (fun h2=>?_)
  ·refine rV rfl rfl ?_
   refine dt ?_;unfold abi;rw[rb h1 (by simp only[abh,En h1];simp_all)];rfl
  refine⟨by omega,?_⟩
  refine⟨(l.length-(k+1)),⟨fL [(0,vsA l),(3,.v (.int .i64 (((k+1):Nat):Int)))],hLz [],0⟩,by omega,(cO (.cons rfl rfl (.cons rfl rfl .nil)) .nil),(k+1),rfl,rfl,?_⟩
  refine⟨by omega,fun j h=>?_⟩
  rcases ag9.1 h with h|rfl
  ·exact hj j h
  simp only[abh,En h1];simp_all
 try refine LenG.of ?_
 refine rV rfl rfl ?_
 refine dt ?_;unfold abi;rw[Av hk h3 hj];rfl
theorem sz3:ap Tryz.prog 3=some 1:=by kernel_rfl
theorem X1:ap Tryz.prog 31=some 5:=by kernel_rfl
theorem ce{η:bf}{id ver w z len:Nat}{cs news:List AV}(hb:η id=some ⟨w,cs,z,false⟩)(hv:w=ver)(h0:Nat.beq len 0=false)(hc:co 0 news.length cs=some news):Src η [id] (.sl id ver 0 len) len news:=Src.sl hb hv rfl h0 hc
abbrev sA(s:ByteArray):List AV:=[.v (.string s)]
abbrev ct(n:Int):List AV:=[.v (.int .u32 n)]
abbrev uA(n:Int):List AV:=[.v (.int .u8 n)]
structure KL(α:Type) where
 k:Nat
 L:List α
theorem ck:RowF iA 1:=⟨fun _=>rfl,fun _=>rfl,fun _ _=>rfl,fun _ _=>rfl,fun _ _=>rfl,fun _=>rfl⟩
theorem bt:RowF sA 1:=⟨fun _=>rfl,fun _=>rfl,fun _ _=>rfl,fun _ _=>rfl,fun _ _=>rfl,fun _=>rfl⟩
theorem bz:RowF ct 1:=⟨fun _=>rfl,fun _=>rfl,fun _ _=>rfl,fun _ _=>rfl,fun _ _=>rfl,fun _=>rfl⟩
theorem kp:RowF uA 1:=⟨fun _=>rfl,fun _=>rfl,fun _ _=>rfl,fun _ _=>rfl,fun _ _=>rfl,fun _=>rfl⟩
abbrev adc(s:ByteArray):Prop:=s.size<=140737488351232
abbrev fy{α:Type}(l:List α)(F:α->Prop):Prop:=l.length<=140737488355328/\∀x∈l,F x
structure GVal where
 c_:Int
 e_:Int
 d_:ByteArray
abbrev gvA(x:GVal):List AV:=[.v (.int .i64 x.c_),.v (.int .i64 x.e_),.v (.string x.d_)]
structure FitVal(x:GVal):Prop where
 d_:adc x.d_
instance:Inhabited GVal:=⟨⟨0,0,⟨#[]⟩⟩⟩
structure GTst where
 h_:Int
 c_:Int
 f_:Bool
 d_:ByteArray
abbrev tsA(x:GTst):List AV:=[.v (.int .i64 x.h_),.v (.int .i64 x.c_),.v (.bool x.f_),.v (.string x.d_)]
structure FitTst(x:GTst):Prop where
 d_:adc x.d_
instance:Inhabited GTst:=⟨⟨0,0,false,⟨#[]⟩⟩⟩
end Go.Proofs.YtmbmbhkemgmhfaaGreatDoor
