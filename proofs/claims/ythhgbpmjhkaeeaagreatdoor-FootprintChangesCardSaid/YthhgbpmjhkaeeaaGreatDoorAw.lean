/- Texts of the claim. -/
import Derived.KernelRfl
import Derived.Test.YthhgbpmjhkaeeaaGreatDoorF5
import Derived.Test.YthhgbpmjhkaeeaaGreatDoorE3
import Derived.Test.YthhgbpmjhkaeeaaGreatDoorE2
namespace Go.Proofs.YthhgbpmjhkaeeaaGreatDoor
open Go.RowKit
set_option maxHeartbeats 0
set_option maxRecDepth 1000000
theorem mixedT:Tryz.prog.follows .mixedOrders=true:=by kernel_rfl
theorem awRun:runM Tryz.prog (fun _=>false) (fun _ _=>none) (extX3 Tryz.prog) (fun f=>Nat.beq f 218) 100000 60 4 []=some (.v (.bool true)):=by kernel_rfl
theorem awake_p:PCall Tryz.prog 4 [] (.v (.bool true)):=runM_ok mixedT (fun _ _ _ h=>by cases h) extX3_ok awRun
end Go.Proofs.YthhgbpmjhkaeeaaGreatDoor
