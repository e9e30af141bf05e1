/- Texts of the claim. -/
import Derived.KernelRfl
import Derived.Test.YthpangmpihkniaaGreatDoorF5
import Derived.Test.YthpangmpihkniaaGreatDoorE3
import Derived.Test.YthpangmpihkniaaGreatDoorE2
namespace Go.Proofs.YthpangmpihkniaaGreatDoor
open Go.RowKit
set_option maxHeartbeats 0
set_option maxRecDepth 1000000
theorem mixedT:Tryz.prog.follows .mixedOrders=true:=by kernel_rfl
theorem awRun:runM Tryz.prog (fun _=>false) (fun _ _=>none) (extX3 Tryz.prog) (fun f=>Nat.beq f 223) 100000 60 5 []=some (.v (.bool true)):=by kernel_rfl
theorem awake_p:PCall Tryz.prog 5 [] (.v (.bool true)):=runM_ok mixedT (fun _ _ _ h=>by cases h) extX3_ok awRun
end Go.Proofs.YthpangmpihkniaaGreatDoor
