/- Texts of the claim. -/
import Derived.Shelf.Strings.OnBuilder
import Derived.Test.YtbhhmbchdponjaaGreatDoorE3
namespace Go.Proofs.YtbhhmbchdponjaaGreatDoor
set_option linter.unusedVariables false
set_option linter.unusedSimpArgs false
open Go.RowKit
def Bd:List (List AV)->Option (List ByteArray)
 |[]=>some []
 |[.v (.string s)]::r=>match Bd r with
  |some l=>some (s::l)
  |none=>none
 |_=>none
def B7(J:Nat):c8:=fun f ys=>bif Nat.beq f J then(match ys with
 |[.tree 1 rows,.v (.string sep)]=>match Bd rows with
  |some ss=>bif Nat.ble (Lib.join (ss.map (·.data.toList)) sep.data.toList).length 140737488355328 then some (.v (.string ⟨(Lib.join (ss.map (·.data.toList)) sep.data.toList).toArray⟩))else none
  |none=>none
 |_=>none)else none
def x3:Tab:=[(139,[.v (.int .i64 (0))],(.agg [.v (.bool false),.v (.slice none 0 0)])),
 (138,[.agg [.v (.bool false),.v (.slice none 0 0)]],(.agg [.v (.bool false),.v (.slice none 0 0)])),
 (139,[.v (.int .i64 (-1))],(.agg [.v (.bool true),.tree 1 [[.v (.int .u32 (1))]]])),
 (139,[.v (.int .i64 (-9))],(.agg [.v (.bool true),.tree 1 [[.v (.int .u32 (9))]]])),
 (138,[.agg [.v (.bool true),.tree 1 [[.v (.int .u32 (9))]]]],(.agg [.v (.bool false),.tree 1 [[.v (.int .u32 (9))]]])),
 (139,[.v (.int .i64 (1))],(.agg [.v (.bool false),.tree 1 [[.v (.int .u32 (1))]]])),
 (139,[.v (.int .i64 (3))],(.agg [.v (.bool false),.tree 1 [[.v (.int .u32 (3))]]])),
 (139,[.v (.int .i64 (-2))],(.agg [.v (.bool true),.tree 1 [[.v (.int .u32 (2))]]])),
 (138,[.agg [.v (.bool true),.tree 1 [[.v (.int .u32 (2))]]]],(.agg [.v (.bool false),.tree 1 [[.v (.int .u32 (2))]]])),
 (139,[.v (.int .i64 (-3))],(.agg [.v (.bool true),.tree 1 [[.v (.int .u32 (3))]]])),
 (83,[.agg [.v (.bool true),.tree 1 [[.v (.int .u32 (2))]]]],(.agg [.v (.bool true),.tree 1 [[.v (.int .u32 (2))]]])),
 (138,[.agg [.v (.bool false),.tree 1 [[.v (.int .u32 (1))]]]],(.agg [.v (.bool true),.tree 1 [[.v (.int .u32 (1))]]])),
 (138,[.agg [.v (.bool true),.tree 1 [[.v (.int .u32 (3))]]]],(.agg [.v (.bool false),.tree 1 [[.v (.int .u32 (3))]]])),
 (139,[.v (.int .i64 (6))],(.agg [.v (.bool false),.tree 1 [[.v (.int .u32 (6))]]])),
 (138,[.agg [.v (.bool false),.tree 1 [[.v (.int .u32 (6))]]]],(.agg [.v (.bool true),.tree 1 [[.v (.int .u32 (6))]]])),
 (236,[.agg [.v (.bool false),.v (.slice none 0 0)],.agg [.v (.bool true),.tree 1 [[.v (.int .u32 (1))]]]],(.agg [.v (.bool false),.tree 1 [[.v (.int .u32 (1))]]])),
 (236,[.agg [.v (.bool false),.tree 1 [[.v (.int .u32 (1))]]],.agg [.v (.bool false),.v (.slice none 0 0)]],(.agg [.v (.bool false),.tree 1 [[.v (.int .u32 (1))]]])),
 (83,[.agg [.v (.bool false),.tree 1 [[.v (.int .u32 (1))]]]],(.agg [.v (.bool false),.tree 1 [[.v (.int .u32 (1))]]])),
 (164,[.agg [.v (.bool false),.tree 1 [[.v (.int .u32 (1))]]]],(.v (.int .i64 (1)))),
 (85,[.agg [.v (.bool false),.tree 1 [[.v (.int .u32 (1))]]],.agg [.v (.bool false),.tree 1 [[.v (.int .u32 (1))]]]],(.v (.int .i64 (0)))),
 (83,[.agg [.v (.bool true),.tree 1 [[.v (.int .u32 (1))]]]],(.agg [.v (.bool true),.tree 1 [[.v (.int .u32 (1))]]])),
 (167,[.agg [.v (.bool true),.tree 1 [[.v (.int .u32 (1))]]],.agg [.v (.bool false),.tree 1 [[.v (.int .u32 (1))]]]],(.tup [.agg [.v (.bool true),.tree 1 [[.v (.int .u32 (1))]]],.agg [.v (.bool false),.v (.slice none 0 0)],.v (.bool true)])),
 (83,[.agg [.v (.bool false),.v (.slice none 0 0)]],(.agg [.v (.bool false),.v (.slice none 0 0)])),
 (167,[.agg [.v (.bool false),.v (.slice none 0 0)],.agg [.v (.bool false),.tree 1 [[.v (.int .u32 (1))]]]],(.tup [.agg [.v (.bool false),.v (.slice none 0 0)],.agg [.v (.bool false),.v (.slice none 0 0)],.v (.bool true)])),
 (236,[.agg [.v (.bool false),.v (.slice none 0 0)],.agg [.v (.bool false),.tree 1 [[.v (.int .u32 (1))]]]],(.agg [.v (.bool false),.tree 1 [[.v (.int .u32 (1))]]])),
 (167,[.agg [.v (.bool false),.tree 1 [[.v (.int .u32 (1))]]],.agg [.v (.bool false),.tree 1 [[.v (.int .u32 (1))]]]],(.tup [.agg [.v (.bool false),.tree 1 [[.v (.int .u32 (1))]]],.agg [.v (.bool false),.v (.slice none 0 0)],.v (.bool true)])),
 (85,[.agg [.v (.bool false),.tree 1 [[.v (.int .u32 (1))]]],.agg [.v (.bool true),.tree 1 [[.v (.int .u32 (1))]]]],(.v (.int .i64 (1)))),
 (236,[.agg [.v (.bool false),.tree 1 [[.v (.int .u32 (1))]]],.agg [.v (.bool false),.tree 1 [[.v (.int .u32 (3))]]]],(.agg [.v (.bool false),.tree 1 [[.v (.int .u32 (1))]]])),
 (83,[.agg [.v (.bool false),.tree 1 [[.v (.int .u32 (3))]]]],(.agg [.v (.bool false),.tree 1 [[.v (.int .u32 (3))]]])),
 (167,[.agg [.v (.bool false),.tree 1 [[.v (.int .u32 (3))]]],.agg [.v (.bool false),.tree 1 [[.v (.int .u32 (1))]]]],(.tup [.agg [.v (.bool false),.tree 1 [[.v (.int .u32 (3))]]],.agg [.v (.bool false),.v (.slice none 0 0)],.v (.bool true)])),
 (85,[.agg [.v (.bool true),.tree 1 [[.v (.int .u32 (1))]]],.agg [.v (.bool true),.tree 1 [[.v (.int .u32 (1))]]]],(.v (.int .i64 (0)))),
 (85,[.agg [.v (.bool false),.tree 1 [[.v (.int .u32 (3))]]],.agg [.v (.bool false),.v (.slice none 0 0)]],(.v (.int .i64 (1)))),
 (85,[.agg [.v (.bool true),.tree 1 [[.v (.int .u32 (1))]]],.agg [.v (.bool false),.tree 1 [[.v (.int .u32 (1))]]]],(.v (.int .i64 (-1)))),
 (236,[.agg [.v (.bool false),.tree 1 [[.v (.int .u32 (1))]]],.agg [.v (.bool true),.tree 1 [[.v (.int .u32 (3))]]]],(.agg [.v (.bool false),.tree 1 [[.v (.int .u32 (1))]]])),
 (83,[.agg [.v (.bool true),.tree 1 [[.v (.int .u32 (3))]]]],(.agg [.v (.bool true),.tree 1 [[.v (.int .u32 (3))]]])),
 (167,[.agg [.v (.bool true),.tree 1 [[.v (.int .u32 (3))]]],.agg [.v (.bool false),.tree 1 [[.v (.int .u32 (1))]]]],(.tup [.agg [.v (.bool true),.tree 1 [[.v (.int .u32 (3))]]],.agg [.v (.bool false),.v (.slice none 0 0)],.v (.bool true)])),
 (85,[.agg [.v (.bool true),.tree 1 [[.v (.int .u32 (3))]]],.agg [.v (.bool false),.v (.slice none 0 0)]],(.v (.int .i64 (-1)))),
 (85,[.agg [.v (.bool true),.tree 1 [[.v (.int .u32 (3))]]],.agg [.v (.bool true),.tree 1 [[.v (.int .u32 (3))]]]],(.v (.int .i64 (0)))),
 (83,[.agg [.v (.bool false),.tree 1 [[.v (.int .u32 (2))]]]],(.agg [.v (.bool false),.tree 1 [[.v (.int .u32 (2))]]])),
 (85,[.agg [.v (.bool false),.tree 1 [[.v (.int .u32 (2))]]],.agg [.v (.bool false),.tree 1 [[.v (.int .u32 (2))]]]],(.v (.int .i64 (0)))),
 (85,[.agg [.v (.bool false),.tree 1 [[.v (.int .u32 (3))]]],.agg [.v (.bool false),.tree 1 [[.v (.int .u32 (3))]]]],(.v (.int .i64 (0)))),
 (85,[.agg [.v (.bool true),.tree 1 [[.v (.int .u32 (2))]]],.agg [.v (.bool false),.v (.slice none 0 0)]],(.v (.int .i64 (-1)))),
 (85,[.agg [.v (.bool false),.v (.slice none 0 0)],.agg [.v (.bool false),.v (.slice none 0 0)]],(.v (.int .i64 (0)))),
 (83,[.agg [.v (.bool true),.tree 1 [[.v (.int .u32 (6))]]]],(.agg [.v (.bool true),.tree 1 [[.v (.int .u32 (6))]]])),
 (85,[.agg [.v (.bool true),.tree 1 [[.v (.int .u32 (6))]]],.agg [.v (.bool false),.v (.slice none 0 0)]],(.v (.int .i64 (-1)))),
 (212,[.agg [.v (.bool true),.tree 1 [[.v (.int .u32 (1))]]]],(.v (.string ⟨#[45,49]⟩))),
 (212,[.agg [.v (.bool false),.v (.slice none 0 0)]],(.v (.string ⟨#[48]⟩))),
 (176,[.tree 2 [[.v (.bool true),.tree 1 [[.v (.int .u32 (1))]]],[.v (.bool false),.v (.slice none 0 0)]]],(.v (.string ⟨#[45,49,32,48]⟩))),
 (212,[.agg [.v (.bool false),.tree 1 [[.v (.int .u32 (1))]]]],(.v (.string ⟨#[49]⟩))),
 (176,[.tree 2 [[.v (.bool false),.tree 1 [[.v (.int .u32 (1))]]],[.v (.bool false),.v (.slice none 0 0)]]],(.v (.string ⟨#[49,32,48]⟩))),
 (212,[.agg [.v (.bool false),.tree 1 [[.v (.int .u32 (3))]]]],(.v (.string ⟨#[51]⟩))),
 (176,[.tree 2 [[.v (.bool true),.tree 1 [[.v (.int .u32 (1))]]],[.v (.bool false),.tree 1 [[.v (.int .u32 (3))]]]]],(.v (.string ⟨#[45,49,32,51]⟩))),
 (212,[.agg [.v (.bool true),.tree 1 [[.v (.int .u32 (3))]]]],(.v (.string ⟨#[45,51]⟩))),
 (176,[.tree 2 [[.v (.bool false),.tree 1 [[.v (.int .u32 (1))]]],[.v (.bool true),.tree 1 [[.v (.int .u32 (3))]]]]],(.v (.string ⟨#[49,32,45,51]⟩))),
 (138,[.agg [.v (.bool true),.tree 1 [[.v (.int .u32 (1))]]]],(.agg [.v (.bool false),.tree 1 [[.v (.int .u32 (1))]]])),
 (83,[.agg [.v (.bool false),.tree 1 [[.v (.int .u32 (9))]]]],(.agg [.v (.bool false),.tree 1 [[.v (.int .u32 (9))]]])),
 (165,[.agg [.v (.bool true),.tree 1 [[.v (.int .u32 (6))]]],.agg [.v (.bool false),.tree 1 [[.v (.int .u32 (9))]]]],(.agg [.v (.bool false),.tree 1 [[.v (.int .u32 (3))]]])),
 (164,[.agg [.v (.bool false),.tree 1 [[.v (.int .u32 (3))]]]],(.v (.int .i64 (1)))),
 (138,[.agg [.v (.bool false),.tree 1 [[.v (.int .u32 (3))]]]],(.agg [.v (.bool true),.tree 1 [[.v (.int .u32 (3))]]])),
 (165,[.agg [.v (.bool true),.tree 1 [[.v (.int .u32 (2))]]],.agg [.v (.bool false),.tree 1 [[.v (.int .u32 (2))]]]],(.agg [.v (.bool false),.v (.slice none 0 0)])),
 (164,[.agg [.v (.bool false),.v (.slice none 0 0)]],(.v (.int .i64 (0)))),
 (164,[.agg [.v (.bool true),.tree 1 [[.v (.int .u32 (1))]]]],(.v (.int .i64 (-1)))),
 (85,[.agg [.v (.bool false),.tree 1 [[.v (.int .u32 (3))]]],.agg [.v (.bool false),.tree 1 [[.v (.int .u32 (1))]]]],(.v (.int .i64 (1)))),
 (167,[.agg [.v (.bool false),.tree 1 [[.v (.int .u32 (3))]]],.agg [.v (.bool true),.tree 1 [[.v (.int .u32 (1))]]]],(.tup [.agg [.v (.bool true),.tree 1 [[.v (.int .u32 (3))]]],.agg [.v (.bool false),.v (.slice none 0 0)],.v (.bool true)])),
 (166,[.agg [.v (.bool true),.tree 1 [[.v (.int .u32 (3))]]],.agg [.v (.bool false),.tree 1 [[.v (.int .u32 (1))]]]],(.agg [.v (.bool true),.tree 1 [[.v (.int .u32 (3))]]])),
 (165,[.agg [.v (.bool false),.v (.slice none 0 0)],.agg [.v (.bool false),.tree 1 [[.v (.int .u32 (3))]]]],(.agg [.v (.bool false),.tree 1 [[.v (.int .u32 (3))]]])),
 (137,[.agg [.v (.bool false),.v (.slice none 0 0)],.agg [.v (.bool true),.tree 1 [[.v (.int .u32 (3))]]]],(.agg [.v (.bool false),.tree 1 [[.v (.int .u32 (3))]]])),
 (166,[.agg [.v (.bool true),.tree 1 [[.v (.int .u32 (3))]]],.agg [.v (.bool false),.v (.slice none 0 0)]],(.agg [.v (.bool false),.v (.slice none 0 0)])),
 (165,[.agg [.v (.bool false),.tree 1 [[.v (.int .u32 (1))]]],.agg [.v (.bool false),.v (.slice none 0 0)]],(.agg [.v (.bool false),.tree 1 [[.v (.int .u32 (1))]]])),
 (137,[.agg [.v (.bool false),.tree 1 [[.v (.int .u32 (1))]]],.agg [.v (.bool false),.v (.slice none 0 0)]],(.agg [.v (.bool false),.tree 1 [[.v (.int .u32 (1))]]])),
 (166,[.agg [.v (.bool true),.tree 1 [[.v (.int .u32 (3))]]],.agg [.v (.bool true),.tree 1 [[.v (.int .u32 (1))]]]],(.agg [.v (.bool false),.tree 1 [[.v (.int .u32 (3))]]])),
 (165,[.agg [.v (.bool false),.v (.slice none 0 0)],.agg [.v (.bool true),.tree 1 [[.v (.int .u32 (3))]]]],(.agg [.v (.bool true),.tree 1 [[.v (.int .u32 (3))]]])),
 (137,[.agg [.v (.bool false),.v (.slice none 0 0)],.agg [.v (.bool false),.tree 1 [[.v (.int .u32 (3))]]]],(.agg [.v (.bool true),.tree 1 [[.v (.int .u32 (3))]]])),
 (165,[.agg [.v (.bool false),.tree 1 [[.v (.int .u32 (3))]]],.agg [.v (.bool true),.tree 1 [[.v (.int .u32 (3))]]]],(.agg [.v (.bool false),.v (.slice none 0 0)])),
 (137,[.agg [.v (.bool false),.tree 1 [[.v (.int .u32 (3))]]],.agg [.v (.bool false),.tree 1 [[.v (.int .u32 (3))]]]],(.agg [.v (.bool false),.v (.slice none 0 0)])),
 (165,[.agg [.v (.bool true),.tree 1 [[.v (.int .u32 (3))]]],.agg [.v (.bool false),.tree 1 [[.v (.int .u32 (3))]]]],(.agg [.v (.bool false),.v (.slice none 0 0)])),
 (137,[.agg [.v (.bool true),.tree 1 [[.v (.int .u32 (3))]]],.agg [.v (.bool true),.tree 1 [[.v (.int .u32 (3))]]]],(.agg [.v (.bool false),.v (.slice none 0 0)])),
 (236,[.agg [.v (.bool false),.v (.slice none 0 0)],.agg [.v (.bool false),.v (.slice none 0 0)]],(.agg [.v (.bool false),.v (.slice none 0 0)])),
 (236,[.agg [.v (.bool false),.v (.slice none 0 0)],.agg [.v (.bool true),.tree 1 [[.v (.int .u32 (3))]]]],(.agg [.v (.bool false),.tree 1 [[.v (.int .u32 (3))]]])),
 (166,[.agg [.v (.bool false),.tree 1 [[.v (.int .u32 (1))]]],.agg [.v (.bool true),.tree 1 [[.v (.int .u32 (1))]]]],(.agg [.v (.bool true),.tree 1 [[.v (.int .u32 (1))]]])),
 (165,[.agg [.v (.bool false),.v (.slice none 0 0)],.agg [.v (.bool true),.tree 1 [[.v (.int .u32 (1))]]]],(.agg [.v (.bool true),.tree 1 [[.v (.int .u32 (1))]]])),
 (166,[.agg [.v (.bool false),.tree 1 [[.v (.int .u32 (1))]]],.agg [.v (.bool false),.v (.slice none 0 0)]],(.agg [.v (.bool false),.v (.slice none 0 0)])),
 (165,[.agg [.v (.bool false),.v (.slice none 0 0)],.agg [.v (.bool false),.v (.slice none 0 0)]],(.agg [.v (.bool false),.v (.slice none 0 0)])),
 (166,[.agg [.v (.bool false),.tree 1 [[.v (.int .u32 (1))]]],.agg [.v (.bool true),.tree 1 [[.v (.int .u32 (6))]]]],(.agg [.v (.bool true),.tree 1 [[.v (.int .u32 (6))]]])),
 (165,[.agg [.v (.bool false),.v (.slice none 0 0)],.agg [.v (.bool true),.tree 1 [[.v (.int .u32 (6))]]]],(.agg [.v (.bool true),.tree 1 [[.v (.int .u32 (6))]]])),
 (166,[.agg [.v (.bool false),.tree 1 [[.v (.int .u32 (1))]]],.agg [.v (.bool false),.tree 1 [[.v (.int .u32 (1))]]]],(.agg [.v (.bool false),.tree 1 [[.v (.int .u32 (1))]]])),
 (165,[.agg [.v (.bool true),.tree 1 [[.v (.int .u32 (1))]]],.agg [.v (.bool false),.tree 1 [[.v (.int .u32 (1))]]]],(.agg [.v (.bool false),.v (.slice none 0 0)])),
 (166,[.agg [.v (.bool false),.tree 1 [[.v (.int .u32 (1))]]],.agg [.v (.bool true),.tree 1 [[.v (.int .u32 (3))]]]],(.agg [.v (.bool true),.tree 1 [[.v (.int .u32 (3))]]])),
 (166,[.agg [.v (.bool false),.tree 1 [[.v (.int .u32 (1))]]],.agg [.v (.bool false),.tree 1 [[.v (.int .u32 (2))]]]],(.agg [.v (.bool false),.tree 1 [[.v (.int .u32 (2))]]])),
 (165,[.agg [.v (.bool true),.tree 1 [[.v (.int .u32 (6))]]],.agg [.v (.bool false),.tree 1 [[.v (.int .u32 (2))]]]],(.agg [.v (.bool true),.tree 1 [[.v (.int .u32 (4))]]])),
 (167,[.agg [.v (.bool false),.v (.slice none 0 0)],.agg [.v (.bool false),.tree 1 [[.v (.int .u32 (3))]]]],(.tup [.agg [.v (.bool false),.v (.slice none 0 0)],.agg [.v (.bool false),.v (.slice none 0 0)],.v (.bool true)])),
 (167,[.agg [.v (.bool true),.tree 1 [[.v (.int .u32 (3))]]],.agg [.v (.bool false),.tree 1 [[.v (.int .u32 (3))]]]],(.tup [.agg [.v (.bool true),.tree 1 [[.v (.int .u32 (1))]]],.agg [.v (.bool false),.v (.slice none 0 0)],.v (.bool true)])),
 (83,[.agg [.v (.bool true),.tree 1 [[.v (.int .u32 (4))]]]],(.agg [.v (.bool true),.tree 1 [[.v (.int .u32 (4))]]])),
 (167,[.agg [.v (.bool true),.tree 1 [[.v (.int .u32 (4))]]],.agg [.v (.bool false),.tree 1 [[.v (.int .u32 (3))]]]],(.tup [.agg [.v (.bool true),.tree 1 [[.v (.int .u32 (2))]]],.agg [.v (.bool false),.tree 1 [[.v (.int .u32 (2))]]],.v (.bool true)])),
 (236,[.agg [.v (.bool false),.v (.slice none 0 0)],.agg [.v (.bool false),.tree 1 [[.v (.int .u32 (3))]]]],(.agg [.v (.bool false),.tree 1 [[.v (.int .u32 (3))]]])),
 (165,[.agg [.v (.bool false),.v (.slice none 0 0)],.agg [.v (.bool false),.tree 1 [[.v (.int .u32 (1))]]]],(.agg [.v (.bool false),.tree 1 [[.v (.int .u32 (1))]]])),
 (166,[.agg [.v (.bool false),.tree 1 [[.v (.int .u32 (1))]]],.agg [.v (.bool false),.tree 1 [[.v (.int .u32 (9))]]]],(.agg [.v (.bool false),.tree 1 [[.v (.int .u32 (9))]]])),
 (165,[.agg [.v (.bool false),.v (.slice none 0 0)],.agg [.v (.bool false),.tree 1 [[.v (.int .u32 (9))]]]],(.agg [.v (.bool false),.tree 1 [[.v (.int .u32 (9))]]])),
 (165,[.agg [.v (.bool false),.tree 1 [[.v (.int .u32 (1))]]],.agg [.v (.bool true),.tree 1 [[.v (.int .u32 (1))]]]],(.agg [.v (.bool false),.v (.slice none 0 0)])),
 (166,[.agg [.v (.bool false),.tree 1 [[.v (.int .u32 (1))]]],.agg [.v (.bool false),.tree 1 [[.v (.int .u32 (3))]]]],(.agg [.v (.bool false),.tree 1 [[.v (.int .u32 (3))]]])),
 (166,[.agg [.v (.bool false),.tree 1 [[.v (.int .u32 (1))]]],.agg [.v (.bool true),.tree 1 [[.v (.int .u32 (2))]]]],(.agg [.v (.bool true),.tree 1 [[.v (.int .u32 (2))]]])),
 (165,[.agg [.v (.bool false),.tree 1 [[.v (.int .u32 (9))]]],.agg [.v (.bool true),.tree 1 [[.v (.int .u32 (2))]]]],(.agg [.v (.bool false),.tree 1 [[.v (.int .u32 (7))]]])),
 (167,[.agg [.v (.bool false),.tree 1 [[.v (.int .u32 (3))]]],.agg [.v (.bool false),.tree 1 [[.v (.int .u32 (3))]]]],(.tup [.agg [.v (.bool false),.tree 1 [[.v (.int .u32 (1))]]],.agg [.v (.bool false),.v (.slice none 0 0)],.v (.bool true)])),
 (83,[.agg [.v (.bool false),.tree 1 [[.v (.int .u32 (7))]]]],(.agg [.v (.bool false),.tree 1 [[.v (.int .u32 (7))]]])),
 (167,[.agg [.v (.bool false),.tree 1 [[.v (.int .u32 (7))]]],.agg [.v (.bool false),.tree 1 [[.v (.int .u32 (3))]]]],(.tup [.agg [.v (.bool false),.tree 1 [[.v (.int .u32 (2))]]],.agg [.v (.bool false),.tree 1 [[.v (.int .u32 (1))]]],.v (.bool true)])),
 (176,[.tree 2 [[.v (.bool false),.v (.slice none 0 0)],[.v (.bool true),.tree 1 [[.v (.int .u32 (1))]]]]],(.v (.string ⟨#[48,32,45,49]⟩))),
 (176,[.tree 2 [[.v (.bool false),.v (.slice none 0 0)],[.v (.bool false),.tree 1 [[.v (.int .u32 (1))]]]]],(.v (.string ⟨#[48,32,49]⟩))),
 (166,[.agg [.v (.bool true),.tree 1 [[.v (.int .u32 (1))]]],.agg [.v (.bool true),.tree 1 [[.v (.int .u32 (2))]]]],(.agg [.v (.bool false),.tree 1 [[.v (.int .u32 (2))]]])),
 (165,[.agg [.v (.bool false),.v (.slice none 0 0)],.agg [.v (.bool false),.tree 1 [[.v (.int .u32 (2))]]]],(.agg [.v (.bool false),.tree 1 [[.v (.int .u32 (2))]]])),
 (166,[.agg [.v (.bool true),.tree 1 [[.v (.int .u32 (3))]]],.agg [.v (.bool true),.tree 1 [[.v (.int .u32 (2))]]]],(.agg [.v (.bool false),.tree 1 [[.v (.int .u32 (6))]]])),
 (83,[.agg [.v (.bool false),.tree 1 [[.v (.int .u32 (6))]]]],(.agg [.v (.bool false),.tree 1 [[.v (.int .u32 (6))]]])),
 (165,[.agg [.v (.bool false),.tree 1 [[.v (.int .u32 (2))]]],.agg [.v (.bool false),.tree 1 [[.v (.int .u32 (6))]]]],(.agg [.v (.bool false),.tree 1 [[.v (.int .u32 (8))]]])),
 (166,[.agg [.v (.bool false),.v (.slice none 0 0)],.agg [.v (.bool true),.tree 1 [[.v (.int .u32 (2))]]]],(.agg [.v (.bool false),.v (.slice none 0 0)])),
 (83,[.agg [.v (.bool false),.tree 1 [[.v (.int .u32 (8))]]]],(.agg [.v (.bool false),.tree 1 [[.v (.int .u32 (8))]]])),
 (40,[.agg [.v (.bool false),.tree 1 [[.v (.int .u32 (8))]]]],(.tup [.v (.int .i64 (8)),.v (.bool true)])),
 (166,[.agg [.v (.bool false),.v (.slice none 0 0)],.agg [.v (.bool false),.v (.slice none 0 0)]],(.agg [.v (.bool false),.v (.slice none 0 0)])),
 (40,[.agg [.v (.bool false),.tree 1 [[.v (.int .u32 (2))]]]],(.tup [.v (.int .i64 (2)),.v (.bool true)])),
 (85,[.agg [.v (.bool false),.tree 1 [[.v (.int .u32 (2))]]],.agg [.v (.bool false),.tree 1 [[.v (.int .u32 (1))]]]],(.v (.int .i64 (1)))),
 (165,[.agg [.v (.bool true),.tree 1 [[.v (.int .u32 (2))]]],.agg [.v (.bool false),.tree 1 [[.v (.int .u32 (1))]]]],(.agg [.v (.bool true),.tree 1 [[.v (.int .u32 (1))]]])),
 (165,[.agg [.v (.bool false),.v (.slice none 0 0)],.agg [.v (.bool true),.tree 1 [[.v (.int .u32 (2))]]]],(.agg [.v (.bool true),.tree 1 [[.v (.int .u32 (2))]]]))]
def tA0:List AV:=[.v (.int .i64 (2)),.tree 3 [[.v (.int .i64 (0)),.tree 2 [[.v (.int .i64 (0)),.v (.int .i64 (-1))]],.v (.bool false)],[.v (.int .i64 (-9)),.tree 2 [[.v (.int .i64 (0)),.v (.int .i64 (1))]],.v (.bool false)],[.v (.int .i64 (0)),.tree 2 [[.v (.int .i64 (0)),.v (.int .i64 (-1))],[.v (.int .i64 (1)),.v (.int .i64 (3))]],.v (.bool false)],[.v (.int .i64 (-2)),.tree 2 [[.v (.int .i64 (0)),.v (.int .i64 (1))],[.v (.int .i64 (1)),.v (.int .i64 (-3))]],.v (.bool false)],[.v (.int .i64 (-2)),.tree 2 [[.v (.int .i64 (0)),.v (.int .i64 (1))],[.v (.int .i64 (1)),.v (.int .i64 (-3))]],.v (.bool true)],[.v (.int .i64 (6)),.tree 2 [[.v (.int .i64 (0)),.v (.int .i64 (-1))]],.v (.bool false)]]]
def tR0:AV:=(.tup [.tree 2 [[.v (.bool false),.tree 1 [[.v (.int .u32 (8))]]],[.v (.bool false),.tree 1 [[.v (.int .u32 (2))]]]],.agg [.v (.slice none 0 0),.v (.slice none 0 0),.v (.bool false),.v (.slice none 0 0),.v (.slice none 0 0)],.v (.bool true)])
def tA1:List AV:=[.v (.int .i64 (2)),.tree 3 [[.v (.int .i64 (0)),.tree 2 [[.v (.int .i64 (1)),.v (.int .i64 (-1))]],.v (.bool false)],[.v (.int .i64 (-2)),.tree 2 [[.v (.int .i64 (1)),.v (.int .i64 (1))]],.v (.bool false)],[.v (.int .i64 (-2)),.tree 2 [[.v (.int .i64 (1)),.v (.int .i64 (1))]],.v (.bool true)]]]
def tR1:AV:=(.tup [.tree 2 [[.v (.bool false),.v (.slice none 0 0)],[.v (.bool false),.tree 1 [[.v (.int .u32 (2))]]]],.agg [.v (.slice none 0 0),.v (.slice none 0 0),.v (.bool false),.v (.slice none 0 0),.v (.slice none 0 0)],.v (.bool true)])
def tA2:List AV:=[.v (.int .i64 (2)),.tree 3 [[.v (.int .i64 (0)),.tree 2 [[.v (.int .i64 (1)),.v (.int .i64 (-1))]],.v (.bool false)],[.v (.int .i64 (-1)),.tree 2 [[.v (.int .i64 (1)),.v (.int .i64 (1))]],.v (.bool false)],[.v (.int .i64 (-2)),.tree 2 [[.v (.int .i64 (1)),.v (.int .i64 (1))]],.v (.bool true)]]]
def tR2:AV:=(.tup [.v (.slice none 0 0),.agg [.tree 3 [[.tree 3 [[.v (.int .i64 (3)),.v (.bool false),.tree 1 [[.v (.int .u32 (1))]]],[.v (.int .i64 (1)),.v (.bool false),.tree 1 [[.v (.int .u32 (1))]]]],.v (.bool false),.tree 1 [[.v (.int .u32 (1))]]]],.v (.slice none 0 0),.v (.bool false),.v (.slice none 0 0),.v (.slice none 0 0)],.v (.bool false)])
def I4:Tab:=[(37,tA0,tR0),(37,tA1,tR1),(37,tA2,tR2)]
def Wk:Tab:=[
 (145,[.tree 4 [[.v (.int .i64 0),.v (.int .i64 1),.v (.bool false),.v (.string ⟨#[97,37]⟩)]],.v (.int .i64 0),.v (.int .i64 1)],.tree 1 []),
 (145,[.tree 4 [[.v (.int .i64 0),.v (.int .i64 1),.v (.bool false),.v (.string ⟨#[97,37]⟩)]],.v (.int .i64 1),.v (.int .i64 1)],.tree 1 [[.v (.string ⟨#[97]⟩)]]),
 (145,[.tree 4 [[.v (.int .i64 0),.v (.int .i64 1),.v (.bool false),.v (.string ⟨#[97,37]⟩)]],.v (.int .i64 2),.v (.int .i64 1)],.tree 1 [[.v (.string ⟨#[97,32]⟩)]]),
 (145,[.tree 4 [[.v (.int .i64 0),.v (.int .i64 3),.v (.bool false),.v (.string ⟨#[97]⟩)],[.v (.int .i64 0),.v (.int .i64 1),.v (.bool false),.v (.string ⟨#[97,37]⟩)]],.v (.int .i64 0),.v (.int .i64 1)],.tree 1 []),
 (145,[.tree 4 [[.v (.int .i64 0),.v (.int .i64 3),.v (.bool false),.v (.string ⟨#[97]⟩)],[.v (.int .i64 0),.v (.int .i64 1),.v (.bool false),.v (.string ⟨#[97,37]⟩)]],.v (.int .i64 1),.v (.int .i64 1)],.tree 1 [[.v (.string ⟨#[97]⟩)]]),
 (145,[.tree 4 [[.v (.int .i64 0),.v (.int .i64 3),.v (.bool false),.v (.string ⟨#[97]⟩)],[.v (.int .i64 0),.v (.int .i64 1),.v (.bool false),.v (.string ⟨#[97,37]⟩)]],.v (.int .i64 2),.v (.int .i64 1)],.tree 1 []),
 (46,[.agg [.tree 1 [[.v (.int .i64 2)]],.tree 1 [[.v (.int .i64 2)]],.tree 4 [[.v (.int .i64 0),.v (.int .i64 3),.v (.bool false),.v (.string ⟨#[97]⟩)],[.v (.int .i64 0),.v (.int .i64 1),.v (.bool false),.v (.string ⟨#[97,37]⟩)]],.v (.slice none 0 0),.v (.slice none 0 0)],.tree 1 [[.v (.int .i64 0)]],.v (.int .i64 1)],.tup [.tree 1 [],.tree 1 []])]
def isC(f:Nat):Bool:=Nat.beq f 99999
def isB(f:Nat):Bool:=Nat.beq f 154
def ovJ(f:Nat):Bool:=Nat.beq f 213
def T8(f:Nat):Bool:=inN [213,40,83,85,137,138,139,164,165,166,167,176,212,236,145,46] f
def isF(f:Nat):Bool:=inN [99998] f
def abo(f:Nat):Bool:=inN [213,40,83,85,137,138,139,164,165,166,167,176,212,236,37,145,46] f
end Go.Proofs.YtbhhmbchdponjaaGreatDoor
