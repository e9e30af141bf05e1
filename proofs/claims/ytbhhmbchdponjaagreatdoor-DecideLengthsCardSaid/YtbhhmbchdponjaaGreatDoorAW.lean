/- Texts of the claim. -/
import Derived.KernelRfl
import Derived.Test.YtbhhmbchdponjaaGreatDoorT6
import Derived.Test.YtbhhmbchdponjaaGreatDoorF3
namespace Go.Proofs.YtbhhmbchdponjaaGreatDoor
set_option linter.unusedVariables false
set_option linter.unusedSimpArgs false
open Go.RowKit
set_option maxHeartbeats 0
set_option maxRecDepth 1000000
def ovA(f:Nat):Bool:=ariO f||inN [37,145,46] f
noncomputable def RA(L:Tab)(f:FuncId)(a:List AV):Option AV:=J2 Tryz.prog ovA (orR ach (Im L)) (ka Tryz.prog) isK 100000 60 f a
theorem acb(L:Tab){f:FuncId}{a:List AV}{r:AV}(hL:PCs L)(h:RA L f a=some r):b8 Tryz.prog f a r:=ze aee (Sr M2 (Ac hL.all)) ux h
def Ya0:En:=(37,[i6 2,.tree 3 [[i6 0,.tree 2 [[i6 0,i6 (-1)]],.v (.bool false)],[i6 (-9),.tree 2 [[i6 0,i6 1]],.v (.bool false)],[i6 0,.tree 2 [[i6 0,i6 (-1)],[i6 1,i6 3]],.v (.bool false)],[i6 (-2),.tree 2 [[i6 0,i6 1],[i6 1,i6 (-3)]],.v (.bool false)],[i6 (-2),.tree 2 [[i6 0,i6 1],[i6 1,i6 (-3)]],.v (.bool true)],[i6 6,.tree 2 [[i6 0,i6 (-1)]],.v (.bool false)]]],(.tup [.tree 2 [[.v (.bool false),.tree 1 [[.v (.int .u32 (8))]]],[.v (.bool false),.tree 1 [[.v (.int .u32 (2))]]]],.agg [ba,ba,.v (.bool false),ba,ba],.v (.bool true)]))
def Ya1:En:=(37,[i6 2,.tree 3 [[i6 0,.tree 2 [[i6 1,i6 (-1)]],.v (.bool false)],[i6 (-2),.tree 2 [[i6 1,i6 1]],.v (.bool false)],[i6 (-2),.tree 2 [[i6 1,i6 1]],.v (.bool true)]]],(.tup [.tree 2 [[.v (.bool false),.tree 1 []],[.v (.bool false),.tree 1 [[.v (.int .u32 (2))]]]],.agg [ba,ba,.v (.bool false),ba,ba],.v (.bool true)]))
def Ya2:En:=(37,[i6 2,.tree 3 [[i6 0,.tree 2 [[i6 1,i6 (-1)]],.v (.bool false)],[i6 (-1),.tree 2 [[i6 1,i6 1]],.v (.bool false)],[i6 (-2),.tree 2 [[i6 1,i6 1]],.v (.bool true)]]],(.tup [ba,.agg [.tree 3 [[.tree 3 [[i6 3,.v (.bool false),.tree 1 [[.v (.int .u32 (1))]]],[i6 1,.v (.bool false),.tree 1 [[.v (.int .u32 (1))]]]],.v (.bool false),.tree 1 [[.v (.int .u32 (1))]]]],ba,.v (.bool false),ba,ba],.v (.bool false)]))
def Yb0:En:=(145,[.tree 4 [[i6 0,i6 1,.v (.bool false),.v (.string ⟨#[97,37]⟩)]],i6 0,i6 1],.tree 1 [])
def Yb1:En:=(145,[.tree 4 [[i6 0,i6 1,.v (.bool false),.v (.string ⟨#[97,37]⟩)]],i6 1,i6 1],.tree 1 [[.v (.string ⟨#[97]⟩)]])
def Yb2:En:=(145,[.tree 4 [[i6 0,i6 1,.v (.bool false),.v (.string ⟨#[97,37]⟩)]],i6 2,i6 1],.tree 1 [[.v (.string ⟨#[97,32]⟩)]])
def Yb3:En:=(145,[.tree 4 [[i6 0,i6 3,.v (.bool false),.v (.string ⟨#[97]⟩)],[i6 0,i6 1,.v (.bool false),.v (.string ⟨#[97,37]⟩)]],i6 0,i6 1],.tree 1 [])
def Yb4:En:=(145,[.tree 4 [[i6 0,i6 3,.v (.bool false),.v (.string ⟨#[97]⟩)],[i6 0,i6 1,.v (.bool false),.v (.string ⟨#[97,37]⟩)]],i6 1,i6 1],.tree 1 [[.v (.string ⟨#[97]⟩)]])
def Yb5:En:=(145,[.tree 4 [[i6 0,i6 3,.v (.bool false),.v (.string ⟨#[97]⟩)],[i6 0,i6 1,.v (.bool false),.v (.string ⟨#[97,37]⟩)]],i6 2,i6 1],.tree 1 [])
def Yb6:En:=(46,[.agg [.tree 1 [[i6 2]],.tree 1 [[i6 2]],.tree 4 [[i6 0,i6 3,.v (.bool false),.v (.string ⟨#[97]⟩)],[i6 0,i6 1,.v (.bool false),.v (.string ⟨#[97,37]⟩)]],ba,ba],.tree 1 [[i6 0]],i6 1],.tup [.tree 1 [],.tree 1 []])
theorem yb0:PCe Yb0:=PRet.eq Oe
theorem yb1:PCe Yb1:=PRet.eq Od
theorem yb2:PCe Yb2:=PRet.eq Oc
theorem yb3:PCe Yb3:=PRet.eq Ob
theorem yb4:PCe Yb4:=PRet.eq Oa
theorem yb5:PCe Yb5:=PRet.eq N9
theorem yb6:PCe Yb6:=PRet.eq Jd
theorem ya0:PCe Ya0:=acb [] trivial (by kernel_rfl)
theorem ya1:PCe Ya1:=acb [] trivial (by kernel_rfl)
theorem ya2:PCe Ya2:=acb [] trivial (by kernel_rfl)
theorem awake_p:b8 Tryz.prog 6 [] (.v (.bool true)):=acb [Ya0,Ya1,Ya2,Yb0,Yb1,Yb2,Yb3,Yb4,Yb5,Yb6] ⟨ya0,ya1,ya2,yb0,yb1,yb2,yb3,yb4,yb5,yb6,trivial⟩ (by kernel_rfl)
end Go.Proofs.YtbhhmbchdponjaaGreatDoor
