/- Texts of the claim. -/
import Derived.IntWalk
import Derived.Test.YtbhhmbchdponjaaGreatDoorInf
import Derived.Test.YtbhhmbchdponjaaGreatDoorQ2
namespace Go.Proofs.YtbhhmbchdponjaaGreatDoor
set_option linter.unusedVariables false
set_option linter.unusedSimpArgs false
open Go.RowKit
theorem mixed:Tryz.prog.follows .mixedOrders=true:=by kernel_rfl
structure PVar where
 (t lo hi mx:Int) (nl:Bool)
structure PCoef where
 (v n:Int)
structure PLin where
 (k:Int) (cs:List PCoef)
structure PAux where
 (of_:PLin) (by_ tx:Int)
structure PCon where
 (l:PLin) (eq:Bool)
structure PTest where
 (v kd:Int) (ng:Bool) (s:ByteArray)
structure PCl where
 (nul nn:List Int) (aux:List PAux) (ints:List PCon) (tests:List PTest) (same diff:List (Int×Int))
instance:Inhabited PVar:=⟨⟨0,0,0,0,false⟩⟩
instance:Inhabited PCoef:=⟨⟨0,0⟩⟩
instance:Inhabited PAux:=⟨⟨⟨0,[]⟩,0,0⟩⟩
instance:Inhabited PCon:=⟨⟨⟨0,[]⟩,false⟩⟩
instance:Inhabited PTest:=⟨⟨0,0,false,⟨#[]⟩⟩⟩
instance:Inhabited PCl:=⟨⟨[],[],[],[],[],[],[]⟩⟩
abbrev cfA(x:PCoef):List AV:=[.v (.int .i64 x.v),.v (.int .i64 x.n)]
abbrev csA(l:List PCoef):AV:=.tree 2 (l.map cfA)
abbrev cnA(x:PCon):List AV:=[.v (.int .i64 x.l.k),csA x.l.cs,.v (.bool x.eq)]
abbrev paA(x:Int×Int):List AV:=[.v (.int .i64 x.1),.v (.int .i64 x.2)]
theorem sz3:ao Tryz.prog 3=some 1:=by kernel_rfl
theorem ac0:ao Tryz.prog 25=some 5:=by kernel_rfl
theorem dv{η:bi}{id ver w z len:Nat}{cs news:List AV}(hb:η id=some ⟨w,cs,z,false⟩)(hv:w=ver)(ha:Nat.beq len 0=false)(hc:cy 0 news.length cs=some news):Src η [id] (.sl id ver 0 len) len news:=Src.sl hb hv rfl ha hc
abbrev sA(s:ByteArray):List AV:=[.v (.string s)]
abbrev cx(n:Int):List AV:=[.v (.int .u32 n)]
abbrev uA(n:Int):List AV:=[.v (.int .u8 n)]
structure KL(α:Type) where
 k:Nat
 L:List α
theorem cz:RowF iA 1:=⟨fun _=>rfl,fun _=>rfl,fun _ _=>rfl,fun _ _=>rfl,fun _ _=>rfl,fun _=>rfl⟩
theorem cr:RowF sA 1:=⟨fun _=>rfl,fun _=>rfl,fun _ _=>rfl,fun _ _=>rfl,fun _ _=>rfl,fun _=>rfl⟩
theorem bz:RowF cx 1:=⟨fun _=>rfl,fun _=>rfl,fun _ _=>rfl,fun _ _=>rfl,fun _ _=>rfl,fun _=>rfl⟩
theorem la:RowF uA 1:=⟨fun _=>rfl,fun _=>rfl,fun _ _=>rfl,fun _ _=>rfl,fun _ _=>rfl,fun _=>rfl⟩
abbrev aci(s:ByteArray):Prop:=s.size<=140737488351232
abbrev ip{α:Type}(l:List α)(F:α->Prop):Prop:=l.length<=140737488355328/\∀x∈l,F x
structure GVal where
 f_:Int
 h_:Int
 d_:ByteArray
instance:Inhabited GVal:=⟨⟨0,0,⟨#[]⟩⟩⟩
structure GTst where
 g_:Int
 f_:Int
 c_:Bool
 d_:ByteArray
abbrev tsA(x:GTst):List AV:=[.v (.int .i64 x.g_),.v (.int .i64 x.f_),.v (.bool x.c_),.v (.string x.d_)]
structure FitTst(x:GTst):Prop where
 d_:aci x.d_
instance:Inhabited GTst:=⟨⟨0,0,false,⟨#[]⟩⟩⟩
end Go.Proofs.YtbhhmbchdponjaaGreatDoor
