/- Texts of the claim. -/
import Derived.Shelf.Strings.OnBuilder
import Derived.Test.YtgknefkobpnjaaaGreatDoorE3
namespace Go.Proofs.YtgknefkobpnjaaaGreatDoor
set_option linter.unusedVariables false
set_option linter.unusedSimpArgs false
open Go.RowKit
def strsOf:List (List AV)→Option (List ByteArray)
 | []=>some []
 | [.v (.string s)] :: r=>match strsOf r with
  | some l=>some (s :: l)
  | none=>none
 | _=>none
def joinR (J:Nat):CallRun:=fun f ys=>bif Nat.beq f J then (match ys with
 | [.tree 1 rows,.v (.string sep)]=>match strsOf rows with
  | some ss=>bif Nat.ble (Lib.join (ss.map (·.data.toList)) sep.data.toList).length 140737488355328 then some (.v (.string ⟨(Lib.join (ss.map (·.data.toList)) sep.data.toList).toArray⟩)) else none
  | none=>none
 | _=>none) else none
def tabBig:Tab:=[(146,[.v (.int .i64 (0))],(.agg [.v (.bool false),.v (.slice none 0 0)])),
 (145,[.agg [.v (.bool false),.v (.slice none 0 0)]],(.agg [.v (.bool false),.v (.slice none 0 0)])),
 (146,[.v (.int .i64 (-1))],(.agg [.v (.bool true),.tree 1 [[.v (.int .u32 (1))]]])),
 (146,[.v (.int .i64 (-9))],(.agg [.v (.bool true),.tree 1 [[.v (.int .u32 (9))]]])),
 (145,[.agg [.v (.bool true),.tree 1 [[.v (.int .u32 (9))]]]],(.agg [.v (.bool false),.tree 1 [[.v (.int .u32 (9))]]])),
 (146,[.v (.int .i64 (1))],(.agg [.v (.bool false),.tree 1 [[.v (.int .u32 (1))]]])),
 (146,[.v (.int .i64 (-4))],(.agg [.v (.bool true),.tree 1 [[.v (.int .u32 (4))]]])),
 (145,[.agg [.v (.bool true),.tree 1 [[.v (.int .u32 (4))]]]],(.agg [.v (.bool false),.tree 1 [[.v (.int .u32 (4))]]])),
 (146,[.v (.int .i64 (5))],(.agg [.v (.bool false),.tree 1 [[.v (.int .u32 (5))]]])),
 (145,[.agg [.v (.bool false),.tree 1 [[.v (.int .u32 (5))]]]],(.agg [.v (.bool true),.tree 1 [[.v (.int .u32 (5))]]])),
 (271,[.agg [.v (.bool false),.v (.slice none 0 0)],.agg [.v (.bool true),.tree 1 [[.v (.int .u32 (1))]]]],(.agg [.v (.bool false),.tree 1 [[.v (.int .u32 (1))]]])),
 (153,[.agg [.v (.bool false),.tree 1 [[.v (.int .u32 (1))]]]],(.agg [.v (.bool false),.tree 1 [[.v (.int .u32 (1))]]])),
 (175,[.agg [.v (.bool false),.tree 1 [[.v (.int .u32 (1))]]]],(.v (.int .i64 (1)))),
 (155,[.agg [.v (.bool false),.tree 1 [[.v (.int .u32 (1))]]],.agg [.v (.bool false),.tree 1 [[.v (.int .u32 (1))]]]],(.v (.int .i64 (0)))),
 (153,[.agg [.v (.bool true),.tree 1 [[.v (.int .u32 (1))]]]],(.agg [.v (.bool true),.tree 1 [[.v (.int .u32 (1))]]])),
 (178,[.agg [.v (.bool true),.tree 1 [[.v (.int .u32 (1))]]],.agg [.v (.bool false),.tree 1 [[.v (.int .u32 (1))]]]],(.tup [.agg [.v (.bool true),.tree 1 [[.v (.int .u32 (1))]]],.agg [.v (.bool false),.v (.slice none 0 0)],.v (.bool true)])),
 (271,[.agg [.v (.bool false),.v (.slice none 0 0)],.agg [.v (.bool false),.tree 1 [[.v (.int .u32 (1))]]]],(.agg [.v (.bool false),.tree 1 [[.v (.int .u32 (1))]]])),
 (178,[.agg [.v (.bool false),.tree 1 [[.v (.int .u32 (1))]]],.agg [.v (.bool false),.tree 1 [[.v (.int .u32 (1))]]]],(.tup [.agg [.v (.bool false),.tree 1 [[.v (.int .u32 (1))]]],.agg [.v (.bool false),.v (.slice none 0 0)],.v (.bool true)])),
 (155,[.agg [.v (.bool false),.tree 1 [[.v (.int .u32 (1))]]],.agg [.v (.bool true),.tree 1 [[.v (.int .u32 (1))]]]],(.v (.int .i64 (1)))),
 (153,[.agg [.v (.bool false),.tree 1 [[.v (.int .u32 (4))]]]],(.agg [.v (.bool false),.tree 1 [[.v (.int .u32 (4))]]])),
 (153,[.agg [.v (.bool false),.tree 1 [[.v (.int .u32 (9))]]]],(.agg [.v (.bool false),.tree 1 [[.v (.int .u32 (9))]]])),
 (155,[.agg [.v (.bool false),.tree 1 [[.v (.int .u32 (4))]]],.agg [.v (.bool false),.tree 1 [[.v (.int .u32 (9))]]]],(.v (.int .i64 (-1)))),
 (155,[.agg [.v (.bool true),.tree 1 [[.v (.int .u32 (1))]]],.agg [.v (.bool true),.tree 1 [[.v (.int .u32 (1))]]]],(.v (.int .i64 (0)))),
 (153,[.agg [.v (.bool true),.tree 1 [[.v (.int .u32 (5))]]]],(.agg [.v (.bool true),.tree 1 [[.v (.int .u32 (5))]]])),
 (153,[.agg [.v (.bool false),.v (.slice none 0 0)]],(.agg [.v (.bool false),.v (.slice none 0 0)])),
 (155,[.agg [.v (.bool true),.tree 1 [[.v (.int .u32 (5))]]],.agg [.v (.bool false),.v (.slice none 0 0)]],(.v (.int .i64 (-1)))),
 (145,[.agg [.v (.bool true),.tree 1 [[.v (.int .u32 (1))]]]],(.agg [.v (.bool false),.tree 1 [[.v (.int .u32 (1))]]])),
 (176,[.agg [.v (.bool true),.tree 1 [[.v (.int .u32 (5))]]],.agg [.v (.bool false),.tree 1 [[.v (.int .u32 (4))]]]],(.agg [.v (.bool true),.tree 1 [[.v (.int .u32 (1))]]])),
 (175,[.agg [.v (.bool true),.tree 1 [[.v (.int .u32 (1))]]]],(.v (.int .i64 (-1)))),
 (271,[.agg [.v (.bool false),.v (.slice none 0 0)],.agg [.v (.bool false),.v (.slice none 0 0)]],(.agg [.v (.bool false),.v (.slice none 0 0)])),
 (175,[.agg [.v (.bool false),.v (.slice none 0 0)]],(.v (.int .i64 (0)))),
 (177,[.agg [.v (.bool false),.tree 1 [[.v (.int .u32 (1))]]],.agg [.v (.bool true),.tree 1 [[.v (.int .u32 (1))]]]],(.agg [.v (.bool true),.tree 1 [[.v (.int .u32 (1))]]])),
 (176,[.agg [.v (.bool false),.v (.slice none 0 0)],.agg [.v (.bool true),.tree 1 [[.v (.int .u32 (1))]]]],(.agg [.v (.bool true),.tree 1 [[.v (.int .u32 (1))]]])),
 (177,[.agg [.v (.bool false),.tree 1 [[.v (.int .u32 (1))]]],.agg [.v (.bool true),.tree 1 [[.v (.int .u32 (5))]]]],(.agg [.v (.bool true),.tree 1 [[.v (.int .u32 (5))]]])),
 (176,[.agg [.v (.bool false),.v (.slice none 0 0)],.agg [.v (.bool true),.tree 1 [[.v (.int .u32 (5))]]]],(.agg [.v (.bool true),.tree 1 [[.v (.int .u32 (5))]]])),
 (177,[.agg [.v (.bool false),.tree 1 [[.v (.int .u32 (1))]]],.agg [.v (.bool false),.tree 1 [[.v (.int .u32 (1))]]]],(.agg [.v (.bool false),.tree 1 [[.v (.int .u32 (1))]]])),
 (176,[.agg [.v (.bool true),.tree 1 [[.v (.int .u32 (1))]]],.agg [.v (.bool false),.tree 1 [[.v (.int .u32 (1))]]]],(.agg [.v (.bool false),.v (.slice none 0 0)])),
 (177,[.agg [.v (.bool false),.tree 1 [[.v (.int .u32 (1))]]],.agg [.v (.bool false),.tree 1 [[.v (.int .u32 (4))]]]],(.agg [.v (.bool false),.tree 1 [[.v (.int .u32 (4))]]])),
 (178,[.agg [.v (.bool false),.v (.slice none 0 0)],.agg [.v (.bool false),.tree 1 [[.v (.int .u32 (1))]]]],(.tup [.agg [.v (.bool false),.v (.slice none 0 0)],.agg [.v (.bool false),.v (.slice none 0 0)],.v (.bool true)])),
 (146,[.v (.int .i64 (4))],(.agg [.v (.bool false),.tree 1 [[.v (.int .u32 (4))]]])),
 (145,[.agg [.v (.bool false),.tree 1 [[.v (.int .u32 (4))]]]],(.agg [.v (.bool true),.tree 1 [[.v (.int .u32 (4))]]])),
 (153,[.agg [.v (.bool true),.tree 1 [[.v (.int .u32 (4))]]]],(.agg [.v (.bool true),.tree 1 [[.v (.int .u32 (4))]]])),
 (155,[.agg [.v (.bool true),.tree 1 [[.v (.int .u32 (4))]]],.agg [.v (.bool false),.v (.slice none 0 0)]],(.v (.int .i64 (-1)))),
 (176,[.agg [.v (.bool true),.tree 1 [[.v (.int .u32 (4))]]],.agg [.v (.bool false),.tree 1 [[.v (.int .u32 (4))]]]],(.agg [.v (.bool false),.v (.slice none 0 0)])),
 (145,[.agg [.v (.bool false),.tree 1 [[.v (.int .u32 (1))]]]],(.agg [.v (.bool true),.tree 1 [[.v (.int .u32 (1))]]])),
 (177,[.agg [.v (.bool true),.tree 1 [[.v (.int .u32 (1))]]],.agg [.v (.bool true),.tree 1 [[.v (.int .u32 (4))]]]],(.agg [.v (.bool false),.tree 1 [[.v (.int .u32 (4))]]])),
 (176,[.agg [.v (.bool false),.v (.slice none 0 0)],.agg [.v (.bool false),.tree 1 [[.v (.int .u32 (4))]]]],(.agg [.v (.bool false),.tree 1 [[.v (.int .u32 (4))]]])),
 (120,[.agg [.v (.bool false),.tree 1 [[.v (.int .u32 (4))]]]],(.tup [.v (.int .i64 (4)),.v (.bool true)])),
 (146,[.v (.int .i64 (-2))],(.agg [.v (.bool true),.tree 1 [[.v (.int .u32 (2))]]])),
 (145,[.agg [.v (.bool true),.tree 1 [[.v (.int .u32 (2))]]]],(.agg [.v (.bool false),.tree 1 [[.v (.int .u32 (2))]]])),
 (146,[.v (.int .i64 (-3))],(.agg [.v (.bool true),.tree 1 [[.v (.int .u32 (3))]]])),
 (145,[.agg [.v (.bool true),.tree 1 [[.v (.int .u32 (3))]]]],(.agg [.v (.bool false),.tree 1 [[.v (.int .u32 (3))]]])),
 (153,[.agg [.v (.bool true),.tree 1 [[.v (.int .u32 (3))]]]],(.agg [.v (.bool true),.tree 1 [[.v (.int .u32 (3))]]])),
 (271,[.agg [.v (.bool false),.tree 1 [[.v (.int .u32 (1))]]],.agg [.v (.bool false),.v (.slice none 0 0)]],(.agg [.v (.bool false),.tree 1 [[.v (.int .u32 (1))]]])),
 (155,[.agg [.v (.bool false),.v (.slice none 0 0)],.agg [.v (.bool true),.tree 1 [[.v (.int .u32 (1))]]]],(.v (.int .i64 (1)))),
 (155,[.agg [.v (.bool false),.v (.slice none 0 0)],.agg [.v (.bool false),.tree 1 [[.v (.int .u32 (1))]]]],(.v (.int .i64 (-1)))),
 (155,[.agg [.v (.bool false),.v (.slice none 0 0)],.agg [.v (.bool false),.v (.slice none 0 0)]],(.v (.int .i64 (0)))),
 (271,[.agg [.v (.bool false),.tree 1 [[.v (.int .u32 (1))]]],.agg [.v (.bool true),.tree 1 [[.v (.int .u32 (2))]]]],(.agg [.v (.bool false),.tree 1 [[.v (.int .u32 (1))]]])),
 (153,[.agg [.v (.bool true),.tree 1 [[.v (.int .u32 (2))]]]],(.agg [.v (.bool true),.tree 1 [[.v (.int .u32 (2))]]])),
 (178,[.agg [.v (.bool true),.tree 1 [[.v (.int .u32 (2))]]],.agg [.v (.bool false),.tree 1 [[.v (.int .u32 (1))]]]],(.tup [.agg [.v (.bool true),.tree 1 [[.v (.int .u32 (2))]]],.agg [.v (.bool false),.v (.slice none 0 0)],.v (.bool true)])),
 (155,[.agg [.v (.bool true),.tree 1 [[.v (.int .u32 (2))]]],.agg [.v (.bool false),.v (.slice none 0 0)]],(.v (.int .i64 (-1)))),
 (155,[.agg [.v (.bool false),.tree 1 [[.v (.int .u32 (1))]]],.agg [.v (.bool false),.v (.slice none 0 0)]],(.v (.int .i64 (1)))),
 (271,[.agg [.v (.bool false),.tree 1 [[.v (.int .u32 (1))]]],.agg [.v (.bool false),.tree 1 [[.v (.int .u32 (2))]]]],(.agg [.v (.bool false),.tree 1 [[.v (.int .u32 (1))]]])),
 (153,[.agg [.v (.bool false),.tree 1 [[.v (.int .u32 (2))]]]],(.agg [.v (.bool false),.tree 1 [[.v (.int .u32 (2))]]])),
 (178,[.agg [.v (.bool false),.tree 1 [[.v (.int .u32 (2))]]],.agg [.v (.bool false),.tree 1 [[.v (.int .u32 (1))]]]],(.tup [.agg [.v (.bool false),.tree 1 [[.v (.int .u32 (2))]]],.agg [.v (.bool false),.v (.slice none 0 0)],.v (.bool true)])),
 (155,[.agg [.v (.bool false),.tree 1 [[.v (.int .u32 (2))]]],.agg [.v (.bool false),.v (.slice none 0 0)]],(.v (.int .i64 (1)))),
 (155,[.agg [.v (.bool true),.tree 1 [[.v (.int .u32 (1))]]],.agg [.v (.bool false),.tree 1 [[.v (.int .u32 (1))]]]],(.v (.int .i64 (-1)))),
 (155,[.agg [.v (.bool true),.tree 1 [[.v (.int .u32 (1))]]],.agg [.v (.bool false),.v (.slice none 0 0)]],(.v (.int .i64 (-1)))),
 (153,[.agg [.v (.bool false),.tree 1 [[.v (.int .u32 (3))]]]],(.agg [.v (.bool false),.tree 1 [[.v (.int .u32 (3))]]])),
 (155,[.agg [.v (.bool false),.tree 1 [[.v (.int .u32 (3))]]],.agg [.v (.bool false),.tree 1 [[.v (.int .u32 (9))]]]],(.v (.int .i64 (-1)))),
 (155,[.agg [.v (.bool true),.tree 1 [[.v (.int .u32 (3))]]],.agg [.v (.bool false),.v (.slice none 0 0)]],(.v (.int .i64 (-1)))),
 (176,[.agg [.v (.bool true),.tree 1 [[.v (.int .u32 (3))]]],.agg [.v (.bool false),.tree 1 [[.v (.int .u32 (3))]]]],(.agg [.v (.bool false),.v (.slice none 0 0)])),
 (271,[.agg [.v (.bool false),.v (.slice none 0 0)],.agg [.v (.bool true),.tree 1 [[.v (.int .u32 (2))]]]],(.agg [.v (.bool false),.tree 1 [[.v (.int .u32 (2))]]])),
 (175,[.agg [.v (.bool false),.tree 1 [[.v (.int .u32 (2))]]]],(.v (.int .i64 (1)))),
 (176,[.agg [.v (.bool false),.v (.slice none 0 0)],.agg [.v (.bool false),.tree 1 [[.v (.int .u32 (1))]]]],(.agg [.v (.bool false),.tree 1 [[.v (.int .u32 (1))]]])),
 (177,[.agg [.v (.bool false),.tree 1 [[.v (.int .u32 (1))]]],.agg [.v (.bool true),.tree 1 [[.v (.int .u32 (2))]]]],(.agg [.v (.bool true),.tree 1 [[.v (.int .u32 (2))]]])),
 (176,[.agg [.v (.bool false),.v (.slice none 0 0)],.agg [.v (.bool true),.tree 1 [[.v (.int .u32 (2))]]]],(.agg [.v (.bool true),.tree 1 [[.v (.int .u32 (2))]]])),
 (177,[.agg [.v (.bool false),.tree 1 [[.v (.int .u32 (1))]]],.agg [.v (.bool false),.v (.slice none 0 0)]],(.agg [.v (.bool false),.v (.slice none 0 0)])),
 (176,[.agg [.v (.bool false),.v (.slice none 0 0)],.agg [.v (.bool false),.v (.slice none 0 0)]],(.agg [.v (.bool false),.v (.slice none 0 0)])),
 (176,[.agg [.v (.bool false),.tree 1 [[.v (.int .u32 (1))]]],.agg [.v (.bool true),.tree 1 [[.v (.int .u32 (1))]]]],(.agg [.v (.bool false),.v (.slice none 0 0)])),
 (176,[.agg [.v (.bool true),.tree 1 [[.v (.int .u32 (2))]]],.agg [.v (.bool false),.v (.slice none 0 0)]],(.agg [.v (.bool true),.tree 1 [[.v (.int .u32 (2))]]])),
 (177,[.agg [.v (.bool false),.tree 1 [[.v (.int .u32 (1))]]],.agg [.v (.bool true),.tree 1 [[.v (.int .u32 (3))]]]],(.agg [.v (.bool true),.tree 1 [[.v (.int .u32 (3))]]])),
 (176,[.agg [.v (.bool false),.v (.slice none 0 0)],.agg [.v (.bool true),.tree 1 [[.v (.int .u32 (3))]]]],(.agg [.v (.bool true),.tree 1 [[.v (.int .u32 (3))]]])),
 (178,[.agg [.v (.bool false),.v (.slice none 0 0)],.agg [.v (.bool false),.tree 1 [[.v (.int .u32 (2))]]]],(.tup [.agg [.v (.bool false),.v (.slice none 0 0)],.agg [.v (.bool false),.v (.slice none 0 0)],.v (.bool true)])),
 (178,[.agg [.v (.bool true),.tree 1 [[.v (.int .u32 (2))]]],.agg [.v (.bool false),.tree 1 [[.v (.int .u32 (2))]]]],(.tup [.agg [.v (.bool true),.tree 1 [[.v (.int .u32 (1))]]],.agg [.v (.bool false),.v (.slice none 0 0)],.v (.bool true)])),
 (178,[.agg [.v (.bool true),.tree 1 [[.v (.int .u32 (3))]]],.agg [.v (.bool false),.tree 1 [[.v (.int .u32 (2))]]]],(.tup [.agg [.v (.bool true),.tree 1 [[.v (.int .u32 (2))]]],.agg [.v (.bool false),.tree 1 [[.v (.int .u32 (1))]]],.v (.bool true)])),
 (271,[.agg [.v (.bool false),.v (.slice none 0 0)],.agg [.v (.bool false),.tree 1 [[.v (.int .u32 (2))]]]],(.agg [.v (.bool false),.tree 1 [[.v (.int .u32 (2))]]])),
 (177,[.agg [.v (.bool false),.tree 1 [[.v (.int .u32 (1))]]],.agg [.v (.bool false),.tree 1 [[.v (.int .u32 (2))]]]],(.agg [.v (.bool false),.tree 1 [[.v (.int .u32 (2))]]])),
 (176,[.agg [.v (.bool false),.v (.slice none 0 0)],.agg [.v (.bool false),.tree 1 [[.v (.int .u32 (2))]]]],(.agg [.v (.bool false),.tree 1 [[.v (.int .u32 (2))]]])),
 (176,[.agg [.v (.bool false),.tree 1 [[.v (.int .u32 (2))]]],.agg [.v (.bool false),.v (.slice none 0 0)]],(.agg [.v (.bool false),.tree 1 [[.v (.int .u32 (2))]]])),
 (177,[.agg [.v (.bool false),.tree 1 [[.v (.int .u32 (1))]]],.agg [.v (.bool false),.tree 1 [[.v (.int .u32 (3))]]]],(.agg [.v (.bool false),.tree 1 [[.v (.int .u32 (3))]]])),
 (176,[.agg [.v (.bool false),.v (.slice none 0 0)],.agg [.v (.bool false),.tree 1 [[.v (.int .u32 (3))]]]],(.agg [.v (.bool false),.tree 1 [[.v (.int .u32 (3))]]])),
 (178,[.agg [.v (.bool false),.tree 1 [[.v (.int .u32 (2))]]],.agg [.v (.bool false),.tree 1 [[.v (.int .u32 (2))]]]],(.tup [.agg [.v (.bool false),.tree 1 [[.v (.int .u32 (1))]]],.agg [.v (.bool false),.v (.slice none 0 0)],.v (.bool true)])),
 (178,[.agg [.v (.bool false),.tree 1 [[.v (.int .u32 (3))]]],.agg [.v (.bool false),.tree 1 [[.v (.int .u32 (2))]]]],(.tup [.agg [.v (.bool false),.tree 1 [[.v (.int .u32 (1))]]],.agg [.v (.bool false),.tree 1 [[.v (.int .u32 (1))]]],.v (.bool true)])),
 (155,[.agg [.v (.bool false),.tree 1 [[.v (.int .u32 (1))]]],.agg [.v (.bool false),.tree 1 [[.v (.int .u32 (9))]]]],(.v (.int .i64 (-1)))),
 (176,[.agg [.v (.bool true),.tree 1 [[.v (.int .u32 (2))]]],.agg [.v (.bool false),.tree 1 [[.v (.int .u32 (1))]]]],(.agg [.v (.bool true),.tree 1 [[.v (.int .u32 (1))]]])),
 (177,[.agg [.v (.bool false),.tree 1 [[.v (.int .u32 (1))]]],.agg [.v (.bool true),.tree 1 [[.v (.int .u32 (4))]]]],(.agg [.v (.bool true),.tree 1 [[.v (.int .u32 (4))]]])),
 (176,[.agg [.v (.bool false),.v (.slice none 0 0)],.agg [.v (.bool true),.tree 1 [[.v (.int .u32 (4))]]]],(.agg [.v (.bool true),.tree 1 [[.v (.int .u32 (4))]]])),
 (178,[.agg [.v (.bool true),.tree 1 [[.v (.int .u32 (4))]]],.agg [.v (.bool false),.tree 1 [[.v (.int .u32 (2))]]]],(.tup [.agg [.v (.bool true),.tree 1 [[.v (.int .u32 (2))]]],.agg [.v (.bool false),.v (.slice none 0 0)],.v (.bool true)])),
 (178,[.agg [.v (.bool false),.tree 1 [[.v (.int .u32 (4))]]],.agg [.v (.bool false),.tree 1 [[.v (.int .u32 (2))]]]],(.tup [.agg [.v (.bool false),.tree 1 [[.v (.int .u32 (2))]]],.agg [.v (.bool false),.v (.slice none 0 0)],.v (.bool true)])),
 (155,[.agg [.v (.bool false),.tree 1 [[.v (.int .u32 (2))]]],.agg [.v (.bool false),.tree 1 [[.v (.int .u32 (9))]]]],(.v (.int .i64 (-1)))),
 (176,[.agg [.v (.bool true),.tree 1 [[.v (.int .u32 (2))]]],.agg [.v (.bool false),.tree 1 [[.v (.int .u32 (2))]]]],(.agg [.v (.bool false),.v (.slice none 0 0)])),
 (177,[.agg [.v (.bool false),.v (.slice none 0 0)],.agg [.v (.bool true),.tree 1 [[.v (.int .u32 (2))]]]],(.agg [.v (.bool false),.v (.slice none 0 0)])),
 (176,[.agg [.v (.bool false),.tree 1 [[.v (.int .u32 (4))]]],.agg [.v (.bool false),.v (.slice none 0 0)]],(.agg [.v (.bool false),.tree 1 [[.v (.int .u32 (4))]]])),
 (177,[.agg [.v (.bool false),.v (.slice none 0 0)],.agg [.v (.bool true),.tree 1 [[.v (.int .u32 (4))]]]],(.agg [.v (.bool false),.v (.slice none 0 0)])),
 (177,[.agg [.v (.bool true),.tree 1 [[.v (.int .u32 (1))]]],.agg [.v (.bool true),.tree 1 [[.v (.int .u32 (2))]]]],(.agg [.v (.bool false),.tree 1 [[.v (.int .u32 (2))]]])),
 (120,[.agg [.v (.bool false),.tree 1 [[.v (.int .u32 (2))]]]],(.tup [.v (.int .i64 (2)),.v (.bool true)])),
 (176,[.agg [.v (.bool false),.v (.slice none 0 0)],.agg [.v (.bool false),.tree 1 [[.v (.int .u32 (9))]]]],(.agg [.v (.bool false),.tree 1 [[.v (.int .u32 (9))]]])),
 (175,[.agg [.v (.bool false),.tree 1 [[.v (.int .u32 (9))]]]],(.v (.int .i64 (1)))),
 (175,[.agg [.v (.bool true),.tree 1 [[.v (.int .u32 (2))]]]],(.v (.int .i64 (-1)))),
 (155,[.agg [.v (.bool false),.tree 1 [[.v (.int .u32 (2))]]],.agg [.v (.bool false),.tree 1 [[.v (.int .u32 (1))]]]],(.v (.int .i64 (1)))),
 (177,[.agg [.v (.bool true),.tree 1 [[.v (.int .u32 (2))]]],.agg [.v (.bool false),.tree 1 [[.v (.int .u32 (1))]]]],(.agg [.v (.bool true),.tree 1 [[.v (.int .u32 (2))]]])),
 (144,[.agg [.v (.bool false),.v (.slice none 0 0)],.agg [.v (.bool true),.tree 1 [[.v (.int .u32 (2))]]]],(.agg [.v (.bool false),.tree 1 [[.v (.int .u32 (2))]]])),
 (177,[.agg [.v (.bool true),.tree 1 [[.v (.int .u32 (2))]]],.agg [.v (.bool false),.v (.slice none 0 0)]],(.agg [.v (.bool false),.v (.slice none 0 0)])),
 (176,[.agg [.v (.bool false),.tree 1 [[.v (.int .u32 (1))]]],.agg [.v (.bool false),.v (.slice none 0 0)]],(.agg [.v (.bool false),.tree 1 [[.v (.int .u32 (1))]]])),
 (144,[.agg [.v (.bool false),.tree 1 [[.v (.int .u32 (1))]]],.agg [.v (.bool false),.v (.slice none 0 0)]],(.agg [.v (.bool false),.tree 1 [[.v (.int .u32 (1))]]])),
 (177,[.agg [.v (.bool true),.tree 1 [[.v (.int .u32 (2))]]],.agg [.v (.bool true),.tree 1 [[.v (.int .u32 (1))]]]],(.agg [.v (.bool false),.tree 1 [[.v (.int .u32 (2))]]])),
 (145,[.agg [.v (.bool false),.tree 1 [[.v (.int .u32 (2))]]]],(.agg [.v (.bool true),.tree 1 [[.v (.int .u32 (2))]]])),
 (144,[.agg [.v (.bool false),.v (.slice none 0 0)],.agg [.v (.bool false),.tree 1 [[.v (.int .u32 (2))]]]],(.agg [.v (.bool true),.tree 1 [[.v (.int .u32 (2))]]])),
 (176,[.agg [.v (.bool true),.tree 1 [[.v (.int .u32 (1))]]],.agg [.v (.bool false),.v (.slice none 0 0)]],(.agg [.v (.bool true),.tree 1 [[.v (.int .u32 (1))]]])),
 (144,[.agg [.v (.bool true),.tree 1 [[.v (.int .u32 (1))]]],.agg [.v (.bool false),.v (.slice none 0 0)]],(.agg [.v (.bool true),.tree 1 [[.v (.int .u32 (1))]]])),
 (144,[.agg [.v (.bool true),.tree 1 [[.v (.int .u32 (2))]]],.agg [.v (.bool true),.tree 1 [[.v (.int .u32 (2))]]]],(.agg [.v (.bool false),.v (.slice none 0 0)])),
 (176,[.agg [.v (.bool false),.tree 1 [[.v (.int .u32 (2))]]],.agg [.v (.bool true),.tree 1 [[.v (.int .u32 (2))]]]],(.agg [.v (.bool false),.v (.slice none 0 0)])),
 (144,[.agg [.v (.bool false),.tree 1 [[.v (.int .u32 (2))]]],.agg [.v (.bool false),.tree 1 [[.v (.int .u32 (2))]]]],(.agg [.v (.bool false),.v (.slice none 0 0)])),
 (177,[.agg [.v (.bool false),.tree 1 [[.v (.int .u32 (1))]]],.agg [.v (.bool false),.tree 1 [[.v (.int .u32 (9))]]]],(.agg [.v (.bool false),.tree 1 [[.v (.int .u32 (9))]]])),
 (176,[.agg [.v (.bool false),.tree 1 [[.v (.int .u32 (9))]]],.agg [.v (.bool false),.v (.slice none 0 0)]],(.agg [.v (.bool false),.tree 1 [[.v (.int .u32 (9))]]])),
 (178,[.agg [.v (.bool false),.tree 1 [[.v (.int .u32 (9))]]],.agg [.v (.bool false),.tree 1 [[.v (.int .u32 (2))]]]],(.tup [.agg [.v (.bool false),.tree 1 [[.v (.int .u32 (4))]]],.agg [.v (.bool false),.tree 1 [[.v (.int .u32 (1))]]],.v (.bool true)])),
 (155,[.agg [.v (.bool false),.tree 1 [[.v (.int .u32 (9))]]],.agg [.v (.bool false),.tree 1 [[.v (.int .u32 (4))]]]],(.v (.int .i64 (1)))),
 (175,[.agg [.v (.bool false),.tree 1 [[.v (.int .u32 (4))]]]],(.v (.int .i64 (1)))),
 (144,[.agg [.v (.bool false),.tree 1 [[.v (.int .u32 (1))]]],.agg [.v (.bool false),.tree 1 [[.v (.int .u32 (1))]]]],(.agg [.v (.bool false),.v (.slice none 0 0)])),
 (144,[.agg [.v (.bool false),.v (.slice none 0 0)],.agg [.v (.bool false),.tree 1 [[.v (.int .u32 (1))]]]],(.agg [.v (.bool true),.tree 1 [[.v (.int .u32 (1))]]])),
 (178,[.agg [.v (.bool false),.tree 1 [[.v (.int .u32 (4))]]],.agg [.v (.bool false),.tree 1 [[.v (.int .u32 (1))]]]],(.tup [.agg [.v (.bool false),.tree 1 [[.v (.int .u32 (4))]]],.agg [.v (.bool false),.v (.slice none 0 0)],.v (.bool true)])),
 (177,[.agg [.v (.bool false),.v (.slice none 0 0)],.agg [.v (.bool false),.tree 1 [[.v (.int .u32 (1))]]]],(.agg [.v (.bool false),.v (.slice none 0 0)])),
 (177,[.agg [.v (.bool false),.v (.slice none 0 0)],.agg [.v (.bool false),.v (.slice none 0 0)]],(.agg [.v (.bool false),.v (.slice none 0 0)])),
 (144,[.agg [.v (.bool false),.tree 1 [[.v (.int .u32 (4))]]],.agg [.v (.bool false),.v (.slice none 0 0)]],(.agg [.v (.bool false),.tree 1 [[.v (.int .u32 (4))]]])),
 (177,[.agg [.v (.bool false),.v (.slice none 0 0)],.agg [.v (.bool false),.tree 1 [[.v (.int .u32 (2))]]]],(.agg [.v (.bool false),.v (.slice none 0 0)])),
 (177,[.agg [.v (.bool true),.tree 1 [[.v (.int .u32 (1))]]],.agg [.v (.bool false),.v (.slice none 0 0)]],(.agg [.v (.bool false),.v (.slice none 0 0)])),
 (144,[.agg [.v (.bool false),.v (.slice none 0 0)],.agg [.v (.bool false),.v (.slice none 0 0)]],(.agg [.v (.bool false),.v (.slice none 0 0)])),
 (177,[.agg [.v (.bool true),.tree 1 [[.v (.int .u32 (1))]]],.agg [.v (.bool false),.tree 1 [[.v (.int .u32 (1))]]]],(.agg [.v (.bool true),.tree 1 [[.v (.int .u32 (1))]]])),
 (155,[.agg [.v (.bool false),.v (.slice none 0 0)],.agg [.v (.bool false),.tree 1 [[.v (.int .u32 (4))]]]],(.v (.int .i64 (-1)))),
 (177,[.agg [.v (.bool false),.tree 1 [[.v (.int .u32 (2))]]],.agg [.v (.bool false),.v (.slice none 0 0)]],(.agg [.v (.bool false),.v (.slice none 0 0)])),
 (120,[.agg [.v (.bool false),.v (.slice none 0 0)]],(.tup [.v (.int .i64 (0)),.v (.bool true)]))]
def tA0:List AV:=[.agg [.v (.int .i64 (3)),.v (.int .i64 (1)),.tree 5 [[.v (.int .i64 (1)),.v (.int .i64 (0)),.v (.int .i64 (9)),.v (.int .i64 (0)),.v (.bool false)]],.tree 7 [[.v (.slice none 0 0),.tree 1 [[.v (.int .i64 (0))]],.v (.slice none 0 0),.tree 3 [[.v (.int .i64 (-4)),.tree 2 [[.v (.int .i64 (0)),.v (.int .i64 (1))]],.v (.bool false)]],.v (.slice none 0 0),.v (.slice none 0 0),.v (.slice none 0 0)]]],.agg [.v (.int .i64 (3)),.v (.int .i64 (1)),.tree 5 [[.v (.int .i64 (1)),.v (.int .i64 (0)),.v (.int .i64 (9)),.v (.int .i64 (0)),.v (.bool false)]],.tree 7 [[.v (.slice none 0 0),.tree 1 [[.v (.int .i64 (0))]],.v (.slice none 0 0),.tree 3 [[.v (.int .i64 (5)),.tree 2 [[.v (.int .i64 (0)),.v (.int .i64 (-1))]],.v (.bool false)]],.v (.slice none 0 0),.v (.slice none 0 0),.v (.slice none 0 0)]]]]
def tR0:AV:=(.tup [.v (.slice none 0 0),.v (.bool false)])
def tA1:List AV:=[.agg [.v (.int .i64 (3)),.v (.int .i64 (1)),.tree 5 [[.v (.int .i64 (1)),.v (.int .i64 (0)),.v (.int .i64 (9)),.v (.int .i64 (0)),.v (.bool false)]],.tree 7 [[.v (.slice none 0 0),.tree 1 [[.v (.int .i64 (0))]],.v (.slice none 0 0),.tree 3 [[.v (.int .i64 (-4)),.tree 2 [[.v (.int .i64 (0)),.v (.int .i64 (1))]],.v (.bool false)]],.v (.slice none 0 0),.v (.slice none 0 0),.v (.slice none 0 0)]]],.agg [.v (.int .i64 (3)),.v (.int .i64 (1)),.tree 5 [[.v (.int .i64 (1)),.v (.int .i64 (0)),.v (.int .i64 (9)),.v (.int .i64 (0)),.v (.bool false)]],.tree 7 [[.v (.slice none 0 0),.tree 1 [[.v (.int .i64 (0))]],.v (.slice none 0 0),.tree 3 [[.v (.int .i64 (4)),.tree 2 [[.v (.int .i64 (0)),.v (.int .i64 (-1))]],.v (.bool false)]],.v (.slice none 0 0),.v (.slice none 0 0),.v (.slice none 0 0)]]]]
def tR1:AV:=(.tup [.tree 3 [[.v (.int .i64 (1)),.v (.int .i64 (4)),.v (.string ⟨#[]⟩)]],.v (.bool true)])
def tA2:List AV:=[.agg [.v (.int .i64 (3)),.v (.int .i64 (1)),.tree 5 [[.v (.int .i64 (1)),.v (.int .i64 (0)),.v (.int .i64 (9)),.v (.int .i64 (0)),.v (.bool false)]],.tree 7 [[.v (.slice none 0 0),.tree 1 [[.v (.int .i64 (0))]],.v (.slice none 0 0),.tree 3 [[.v (.int .i64 (-4)),.tree 2 [[.v (.int .i64 (0)),.v (.int .i64 (1))]],.v (.bool false)]],.v (.slice none 0 0),.v (.slice none 0 0),.v (.slice none 0 0)]]],.agg [.v (.int .i64 (3)),.v (.int .i64 (1)),.tree 5 [[.v (.int .i64 (1)),.v (.int .i64 (0)),.v (.int .i64 (9)),.v (.int .i64 (0)),.v (.bool false)]],.tree 7 [[.v (.slice none 0 0),.tree 1 [[.v (.int .i64 (0))]],.v (.slice none 0 0),.tree 3 [[.v (.int .i64 (5)),.tree 2 [[.v (.int .i64 (0)),.v (.int .i64 (-1))]],.v (.bool false)]],.v (.slice none 0 0),.v (.slice none 0 0),.v (.slice none 0 0)]]]]
def tR2:AV:=(.tup [.tree 9 [[.v (.int .i64 (2)),.v (.int .i64 (0)),.v (.int .i64 (0)),.tree 3 [[.tree 3 [[.v (.int .i64 (3)),.v (.bool false),.tree 1 [[.v (.int .u32 (1))]]],[.v (.int .i64 (2)),.v (.bool false),.tree 1 [[.v (.int .u32 (1))]]]],.v (.bool false),.tree 1 [[.v (.int .u32 (1))]]]],.v (.slice none 0 0),.v (.bool false),.v (.slice none 0 0),.v (.slice none 0 0),.v (.slice none 0 0)]],.v (.bool true)])
def tA3:List AV:=[.agg [.v (.int .i64 (3)),.v (.int .i64 (1)),.tree 5 [[.v (.int .i64 (1)),.v (.int .i64 (0)),.v (.int .i64 (9)),.v (.int .i64 (0)),.v (.bool false)]],.tree 7 [[.v (.slice none 0 0),.tree 1 [[.v (.int .i64 (0))]],.v (.slice none 0 0),.tree 3 [[.v (.int .i64 (-4)),.tree 2 [[.v (.int .i64 (0)),.v (.int .i64 (1))]],.v (.bool false)]],.v (.slice none 0 0),.v (.slice none 0 0),.v (.slice none 0 0)]]],.agg [.v (.int .i64 (3)),.v (.int .i64 (1)),.tree 5 [[.v (.int .i64 (1)),.v (.int .i64 (0)),.v (.int .i64 (9)),.v (.int .i64 (0)),.v (.bool false)]],.tree 7 [[.v (.slice none 0 0),.tree 1 [[.v (.int .i64 (0))]],.v (.slice none 0 0),.tree 3 [[.v (.int .i64 (5)),.tree 2 [[.v (.int .i64 (0)),.v (.int .i64 (-1))]],.v (.bool false)]],.v (.slice none 0 0),.v (.slice none 0 0),.v (.slice none 0 0)]]],.tree 9 [[.v (.int .i64 (2)),.v (.int .i64 (0)),.v (.int .i64 (0)),.tree 3 [[.tree 3 [[.v (.int .i64 (3)),.v (.bool false),.tree 1 [[.v (.int .u32 (1))]]],[.v (.int .i64 (2)),.v (.bool false),.tree 1 [[.v (.int .u32 (1))]]]],.v (.bool false),.tree 1 [[.v (.int .u32 (1))]]]],.v (.slice none 0 0),.v (.bool false),.v (.slice none 0 0),.v (.slice none 0 0),.v (.slice none 0 0)]]]
def tR3:AV:=(.v (.bool true))
def tA4:List AV:=[.agg [.v (.int .i64 (3)),.v (.int .i64 (1)),.tree 5 [[.v (.int .i64 (1)),.v (.int .i64 (0)),.v (.int .i64 (9)),.v (.int .i64 (0)),.v (.bool false)],[.v (.int .i64 (1)),.v (.int .i64 (0)),.v (.int .i64 (9)),.v (.int .i64 (0)),.v (.bool false)]],.tree 7 [[.v (.slice none 0 0),.tree 1 [[.v (.int .i64 (0))],[.v (.int .i64 (1))]],.v (.slice none 0 0),.tree 3 [[.v (.int .i64 (0)),.tree 2 [[.v (.int .i64 (0)),.v (.int .i64 (1))],[.v (.int .i64 (1)),.v (.int .i64 (-2))]],.v (.bool true)]],.v (.slice none 0 0),.v (.slice none 0 0),.v (.slice none 0 0)]]],.agg [.v (.int .i64 (3)),.v (.int .i64 (1)),.tree 5 [[.v (.int .i64 (1)),.v (.int .i64 (0)),.v (.int .i64 (9)),.v (.int .i64 (0)),.v (.bool false)]],.tree 7 [[.v (.slice none 0 0),.tree 1 [[.v (.int .i64 (0))]],.v (.slice none 0 0),.tree 3 [[.v (.int .i64 (-3)),.tree 2 [[.v (.int .i64 (0)),.v (.int .i64 (1))]],.v (.bool true)]],.v (.slice none 0 0),.v (.slice none 0 0),.v (.slice none 0 0)]]]]
def tR4:AV:=(.tup [.v (.slice none 0 0),.v (.bool false)])
def tA5:List AV:=[.agg [.v (.int .i64 (3)),.v (.int .i64 (1)),.tree 5 [[.v (.int .i64 (1)),.v (.int .i64 (0)),.v (.int .i64 (9)),.v (.int .i64 (0)),.v (.bool false)],[.v (.int .i64 (1)),.v (.int .i64 (0)),.v (.int .i64 (9)),.v (.int .i64 (0)),.v (.bool false)]],.tree 7 [[.v (.slice none 0 0),.tree 1 [[.v (.int .i64 (0))],[.v (.int .i64 (1))]],.v (.slice none 0 0),.tree 3 [[.v (.int .i64 (0)),.tree 2 [[.v (.int .i64 (0)),.v (.int .i64 (1))],[.v (.int .i64 (1)),.v (.int .i64 (-2))]],.v (.bool true)]],.v (.slice none 0 0),.v (.slice none 0 0),.v (.slice none 0 0)]]],.tree 3 [[.v (.int .i64 (1)),.v (.int .i64 (4)),.v (.string ⟨#[]⟩)]]]
def tR5:AV:=(.v (.bool true))
def tA6:List AV:=[.agg [.v (.int .i64 (3)),.v (.int .i64 (1)),.tree 5 [[.v (.int .i64 (1)),.v (.int .i64 (0)),.v (.int .i64 (9)),.v (.int .i64 (0)),.v (.bool false)],[.v (.int .i64 (1)),.v (.int .i64 (0)),.v (.int .i64 (9)),.v (.int .i64 (0)),.v (.bool false)]],.tree 7 [[.v (.slice none 0 0),.tree 1 [[.v (.int .i64 (0))],[.v (.int .i64 (1))]],.v (.slice none 0 0),.tree 3 [[.v (.int .i64 (0)),.tree 2 [[.v (.int .i64 (0)),.v (.int .i64 (1))],[.v (.int .i64 (1)),.v (.int .i64 (-2))]],.v (.bool true)]],.v (.slice none 0 0),.v (.slice none 0 0),.v (.slice none 0 0)]]],.tree 3 [[.v (.int .i64 (1)),.v (.int .i64 (3)),.v (.string ⟨#[]⟩)]]]
def tR6:AV:=(.v (.bool false))
def tA7:List AV:=[.agg [.v (.int .i64 (3)),.v (.int .i64 (1)),.tree 5 [[.v (.int .i64 (1)),.v (.int .i64 (0)),.v (.int .i64 (9)),.v (.int .i64 (0)),.v (.bool false)],[.v (.int .i64 (1)),.v (.int .i64 (0)),.v (.int .i64 (9)),.v (.int .i64 (0)),.v (.bool false)]],.tree 7 [[.v (.slice none 0 0),.tree 1 [[.v (.int .i64 (0))],[.v (.int .i64 (1))]],.v (.slice none 0 0),.tree 3 [[.v (.int .i64 (0)),.tree 2 [[.v (.int .i64 (0)),.v (.int .i64 (1))],[.v (.int .i64 (1)),.v (.int .i64 (-2))]],.v (.bool true)]],.v (.slice none 0 0),.v (.slice none 0 0),.v (.slice none 0 0)]]]]
def tR7:AV:=(.v (.bool false))
def tabTop:Tab:=[(16,tA0,tR0),(16,tA1,tR1),(17,tA2,tR2),(18,tA3,tR3),(16,tA4,tR4),(20,tA5,tR5),(20,tA6,tR6),(21,tA7,tR7)]
def isC (f:Nat):Bool:=Nat.beq f 93
def isB (f:Nat):Bool:=Nat.beq f 208
def ovJ (f:Nat):Bool:=Nat.beq f 254
def ovBig (f:Nat):Bool:=inN [254,120,144,145,146,153,155,175,176,177,178,271] f
def ovTop (f:Nat):Bool:=inN [16,17,18,20,21] f
def isF (f:Nat):Bool:=inN [14,19] f
end Go.Proofs.YtgknefkobpnjaaaGreatDoor
