/- Texts of the claim. -/
import Derived.Shelf.Strings.OnBuilder
import Derived.Test.YtfelpgeolclnbaaGreatDoorE3
namespace Go.Proofs.YtfelpgeolclnbaaGreatDoor
set_option linter.unusedVariables false
set_option linter.unusedSimpArgs false
open Go.RowKit
def strsOf:List (List AV)→Option (List ByteArray)
 | []=>some []
 | [.v (.string s)] :: r=>match strsOf r with
  | some l=>some (s :: l)
  | none=>none
 | _=>none
def joinR (J:Nat):CallRun:=fun f ys=>bif Nat.beq f J then (match ys with
 | [.tree 1 rows,.v (.string sep)]=>match strsOf rows with
  | some ss=>bif Nat.ble (Lib.join (ss.map (·.data.toList)) sep.data.toList).length 140737488355328 then some (.v (.string ⟨(Lib.join (ss.map (·.data.toList)) sep.data.toList).toArray⟩)) else none
  | none=>none
 | _=>none) else none
def tabBig:Tab:=[(102,[.agg [.v (.bool false),.tree 1 [[.v (.int .u32 (4))]]]],(.tup [.v (.int .i64 (4)),.v (.bool true)])),
 (117,[.agg [.v (.bool false),.tree 1 [[.v (.int .u32 (1))]]]],(.agg [.v (.bool false),.tree 1 [[.v (.int .u32 (1))]]])),
 (117,[.agg [.v (.bool false),.tree 1 [[.v (.int .u32 (4))]]]],(.agg [.v (.bool false),.tree 1 [[.v (.int .u32 (4))]]])),
 (117,[.agg [.v (.bool false),.tree 1 [[.v (.int .u32 (9))]]]],(.agg [.v (.bool false),.tree 1 [[.v (.int .u32 (9))]]])),
 (117,[.agg [.v (.bool false),.v (.slice none 0 0)]],(.agg [.v (.bool false),.v (.slice none 0 0)])),
 (117,[.agg [.v (.bool true),.tree 1 [[.v (.int .u32 (1))]]]],(.agg [.v (.bool true),.tree 1 [[.v (.int .u32 (1))]]])),
 (117,[.agg [.v (.bool true),.tree 1 [[.v (.int .u32 (4))]]]],(.agg [.v (.bool true),.tree 1 [[.v (.int .u32 (4))]]])),
 (119,[.agg [.v (.bool false),.tree 1 [[.v (.int .u32 (1))]]],.agg [.v (.bool false),.tree 1 [[.v (.int .u32 (1))]]]],(.v (.int .i64 (0)))),
 (119,[.agg [.v (.bool false),.tree 1 [[.v (.int .u32 (1))]]],.agg [.v (.bool true),.tree 1 [[.v (.int .u32 (1))]]]],(.v (.int .i64 (1)))),
 (119,[.agg [.v (.bool false),.tree 1 [[.v (.int .u32 (4))]]],.agg [.v (.bool false),.tree 1 [[.v (.int .u32 (9))]]]],(.v (.int .i64 (-1)))),
 (119,[.agg [.v (.bool false),.tree 1 [[.v (.int .u32 (9))]]],.agg [.v (.bool false),.tree 1 [[.v (.int .u32 (4))]]]],(.v (.int .i64 (1)))),
 (119,[.agg [.v (.bool false),.v (.slice none 0 0)],.agg [.v (.bool true),.tree 1 [[.v (.int .u32 (4))]]]],(.v (.int .i64 (1)))),
 (119,[.agg [.v (.bool true),.tree 1 [[.v (.int .u32 (1))]]],.agg [.v (.bool true),.tree 1 [[.v (.int .u32 (1))]]]],(.v (.int .i64 (0)))),
 (119,[.agg [.v (.bool true),.tree 1 [[.v (.int .u32 (4))]]],.agg [.v (.bool false),.v (.slice none 0 0)]],(.v (.int .i64 (-1)))),
 (178,[.v (.int .i64 (-1))],(.agg [.v (.bool true),.tree 1 [[.v (.int .u32 (1))]]])),
 (178,[.v (.int .i64 (-4))],(.agg [.v (.bool true),.tree 1 [[.v (.int .u32 (4))]]])),
 (178,[.v (.int .i64 (-9))],(.agg [.v (.bool true),.tree 1 [[.v (.int .u32 (9))]]])),
 (178,[.v (.int .i64 (0))],(.agg [.v (.bool false),.v (.slice none 0 0)])),
 (178,[.v (.int .i64 (1))],(.agg [.v (.bool false),.tree 1 [[.v (.int .u32 (1))]]])),
 (178,[.v (.int .i64 (4))],(.agg [.v (.bool false),.tree 1 [[.v (.int .u32 (4))]]])),
 (188,[.agg [.v (.bool false),.tree 1 [[.v (.int .u32 (1))]]]],(.agg [.v (.bool true),.tree 1 [[.v (.int .u32 (1))]]])),
 (188,[.agg [.v (.bool false),.tree 1 [[.v (.int .u32 (4))]]]],(.agg [.v (.bool true),.tree 1 [[.v (.int .u32 (4))]]])),
 (188,[.agg [.v (.bool false),.v (.slice none 0 0)]],(.agg [.v (.bool false),.v (.slice none 0 0)])),
 (188,[.agg [.v (.bool true),.tree 1 [[.v (.int .u32 (1))]]]],(.agg [.v (.bool false),.tree 1 [[.v (.int .u32 (1))]]])),
 (188,[.agg [.v (.bool true),.tree 1 [[.v (.int .u32 (4))]]]],(.agg [.v (.bool false),.tree 1 [[.v (.int .u32 (4))]]])),
 (188,[.agg [.v (.bool true),.tree 1 [[.v (.int .u32 (9))]]]],(.agg [.v (.bool false),.tree 1 [[.v (.int .u32 (9))]]])),
 (206,[.agg [.v (.bool false),.tree 1 [[.v (.int .u32 (1))]]]],(.v (.int .i64 (1)))),
 (206,[.agg [.v (.bool false),.v (.slice none 0 0)]],(.v (.int .i64 (0)))),
 (206,[.agg [.v (.bool true),.tree 1 [[.v (.int .u32 (1))]]]],(.v (.int .i64 (-1)))),
 (207,[.agg [.v (.bool false),.v (.slice none 0 0)],.agg [.v (.bool false),.tree 1 [[.v (.int .u32 (4))]]]],(.agg [.v (.bool false),.tree 1 [[.v (.int .u32 (4))]]])),
 (207,[.agg [.v (.bool true),.tree 1 [[.v (.int .u32 (4))]]],.agg [.v (.bool false),.tree 1 [[.v (.int .u32 (4))]]]],(.agg [.v (.bool false),.v (.slice none 0 0)])),
 (228,[.agg [.v (.bool true),.tree 1 [[.v (.int .u32 (1))]]],.agg [.v (.bool true),.tree 1 [[.v (.int .u32 (4))]]]],(.agg [.v (.bool false),.tree 1 [[.v (.int .u32 (4))]]])),
 (249,[.agg [.v (.bool false),.tree 1 [[.v (.int .u32 (1))]]],.agg [.v (.bool false),.tree 1 [[.v (.int .u32 (1))]]]],(.tup [.agg [.v (.bool false),.tree 1 [[.v (.int .u32 (1))]]],.agg [.v (.bool false),.v (.slice none 0 0)],.v (.bool true)])),
 (249,[.agg [.v (.bool true),.tree 1 [[.v (.int .u32 (1))]]],.agg [.v (.bool false),.tree 1 [[.v (.int .u32 (1))]]]],(.tup [.agg [.v (.bool true),.tree 1 [[.v (.int .u32 (1))]]],.agg [.v (.bool false),.v (.slice none 0 0)],.v (.bool true)])),
 (281,[.agg [.v (.bool false),.v (.slice none 0 0)],.agg [.v (.bool false),.tree 1 [[.v (.int .u32 (1))]]]],(.agg [.v (.bool false),.tree 1 [[.v (.int .u32 (1))]]])),
 (281,[.agg [.v (.bool false),.v (.slice none 0 0)],.agg [.v (.bool true),.tree 1 [[.v (.int .u32 (1))]]]],(.agg [.v (.bool false),.tree 1 [[.v (.int .u32 (1))]]]))]
def tA0:List AV:=[.agg [.v (.int .i64 (0)),.v (.int .i64 (1)),.tree 5 [[.v (.int .i64 (1)),.v (.int .i64 (0)),.v (.int .i64 (9)),.v (.int .i64 (0)),.v (.bool false)]],.tree 7 [[.v (.slice none 0 0),.tree 1 [[.v (.int .i64 (0))]],.v (.slice none 0 0),.tree 3 [[.v (.int .i64 (0)),.tree 2 [[.v (.int .i64 (0)),.v (.int .i64 (-1))]],.v (.bool false)],[.v (.int .i64 (-9)),.tree 2 [[.v (.int .i64 (0)),.v (.int .i64 (1))]],.v (.bool false)]],.v (.slice none 0 0),.v (.slice none 0 0),.v (.slice none 0 0)]]],.v (.int .i64 (1))]
def tR0:AV:=(.v (.bool true))
def tA1:List AV:=[.agg [.v (.int .i64 (0)),.v (.int .i64 (1)),.tree 5 [[.v (.int .i64 (1)),.v (.int .i64 (0)),.v (.int .i64 (9)),.v (.int .i64 (0)),.v (.bool false)]],.tree 7 [[.v (.slice none 0 0),.tree 1 [[.v (.int .i64 (0))]],.v (.slice none 0 0),.tree 3 [[.v (.int .i64 (4)),.tree 2 [[.v (.int .i64 (0)),.v (.int .i64 (-1))]],.v (.bool false)],[.v (.int .i64 (-4)),.tree 2 [[.v (.int .i64 (0)),.v (.int .i64 (1))]],.v (.bool false)]],.v (.slice none 0 0),.v (.slice none 0 0),.v (.slice none 0 0)]]],.v (.int .i64 (1))]
def tR1:AV:=(.v (.bool true))
def tA2:List AV:=[.agg [.v (.int .i64 (0)),.v (.int .i64 (1)),.tree 5 [[.v (.int .i64 (1)),.v (.int .i64 (0)),.v (.int .i64 (9)),.v (.int .i64 (0)),.v (.bool false)]],.tree 7 [[.v (.slice none 0 0),.tree 1 [[.v (.int .i64 (0))]],.v (.slice none 0 0),.tree 3 [[.v (.int .i64 (4)),.tree 2 [[.v (.int .i64 (0)),.v (.int .i64 (-1))]],.v (.bool false)],[.v (.int .i64 (-4)),.tree 2 [[.v (.int .i64 (0)),.v (.int .i64 (1))]],.v (.bool false)]],.v (.slice none 0 0),.v (.slice none 0 0),.v (.slice none 0 0)]]]]
def tR2:AV:=(.agg [.v (.int .i64 (0)),.tree 6 [[.v (.bool false),.v (.bool true),.v (.int .i64 (4)),.v (.int .i64 (4)),.v (.string ⟨#[]⟩),.v (.string ⟨#[]⟩)]]])
def tA3:List AV:=[.agg [.v (.int .i64 (0)),.v (.int .i64 (1)),.tree 5 [[.v (.int .i64 (1)),.v (.int .i64 (0)),.v (.int .i64 (9)),.v (.int .i64 (0)),.v (.bool false)]],.tree 7 [[.v (.slice none 0 0),.tree 1 [[.v (.int .i64 (0))]],.v (.slice none 0 0),.tree 3 [[.v (.int .i64 (4)),.tree 2 [[.v (.int .i64 (0)),.v (.int .i64 (-1))]],.v (.bool false)],[.v (.int .i64 (-4)),.tree 2 [[.v (.int .i64 (0)),.v (.int .i64 (1))]],.v (.bool false)]],.v (.slice none 0 0),.v (.slice none 0 0),.v (.slice none 0 0)]]],.agg [.v (.int .i64 (0)),.v (.int .i64 (1)),.tree 5 [[.v (.int .i64 (1)),.v (.int .i64 (0)),.v (.int .i64 (9)),.v (.int .i64 (0)),.v (.bool false)]],.tree 7 [[.v (.slice none 0 0),.tree 1 [[.v (.int .i64 (0))]],.v (.slice none 0 0),.tree 3 [[.v (.int .i64 (0)),.tree 2 [[.v (.int .i64 (0)),.v (.int .i64 (-1))]],.v (.bool false)],[.v (.int .i64 (-9)),.tree 2 [[.v (.int .i64 (0)),.v (.int .i64 (1))]],.v (.bool false)]],.v (.slice none 0 0),.v (.slice none 0 0),.v (.slice none 0 0)]]]]
def tR3:AV:=(.tup [.tree 3 [[.v (.int .i64 (1)),.v (.int .i64 (4)),.v (.string ⟨#[]⟩)]],.v (.bool true)])
def tabTop:Tab:=[(26,tA0,tR0),(26,tA1,tR1),(67,tA2,tR2),(68,tA3,tR3)]
def isC (f:Nat):Bool:=Nat.beq f 164
def isB (f:Nat):Bool:=Nat.beq f 184
def ovJ (f:Nat):Bool:=Nat.beq f 253
def ovBig (f:Nat):Bool:=inN [253,102,117,119,178,188,206,207,228,249,281] f
def isF (f:Nat):Bool:=inN [18,27,65,34] f
def ovAll (f:Nat):Bool:=inN [253,102,117,119,178,188,206,207,228,249,281,26,67,68] f
end Go.Proofs.YtfelpgeolclnbaaGreatDoor
