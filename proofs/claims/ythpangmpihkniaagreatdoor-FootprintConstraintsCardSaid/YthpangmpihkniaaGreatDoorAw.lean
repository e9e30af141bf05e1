/- Texts of the claim. -/
import Derived.KernelRfl
import Derived.Test.YthpangmpihkniaaGreatDoorF5
import Derived.Test.YthpangmpihkniaaGreatDoorE3
import Derived.Test.YthpangmpihkniaaGreatDoorE2
namespace Go.Proofs.YthpangmpihkniaaGreatDoor
open Go.RowKit
set_option maxHeartbeats 0
set_option maxRecDepth 1000000
theorem T7:Tryz.prog.follows .mixedOrders=true:=by kernel_rfl
theorem Y9:Xb Tryz.prog (fun _=>false) (fun _ _=>none) (Ri Tryz.prog) 100000 60 5 []=some (.v (.bool true)):=by kernel_rfl
theorem awake_p:ep Tryz.prog 5 [] (.v (.bool true)):=Pz T7 (fun _ _ _ h=>by cases h) Ml Y9
end Go.Proofs.YthpangmpihkniaaGreatDoor
