/- Texts of the claim. -/
import Derived.KernelRfl
import Derived.Test.YtbhhmbchdponjaaGreatDoorLS0
import Derived.Test.YtbhhmbchdponjaaGreatDoorLS1
import Derived.Test.YtbhhmbchdponjaaGreatDoorLS2
import Derived.Test.YtbhhmbchdponjaaGreatDoorLS3
import Derived.Test.YtbhhmbchdponjaaGreatDoorLS4
import Derived.Test.YtbhhmbchdponjaaGreatDoorLS5
import Derived.Test.YtbhhmbchdponjaaGreatDoorLS6
import Derived.Test.YtbhhmbchdponjaaGreatDoorLS7
import Derived.Test.YtbhhmbchdponjaaGreatDoorLSR
namespace Go.Proofs.YtbhhmbchdponjaaGreatDoor
set_option linter.unusedVariables false
set_option linter.unusedSimpArgs false
open Go.RowKit
set_option maxHeartbeats 0
set_option maxRecDepth 1000000
theorem e80:PCe E80:=ent [E18s] ⟨e18s,trivial⟩ (by kernel_rfl)
theorem e81:PCe E81:=ent [agr] ⟨e20s,trivial⟩ (by kernel_rfl)
theorem e82:PCe E82:=ent [] trivial (by kernel_rfl)
theorem e83:PCe E83:=ent [E19s,E81,E82] ⟨e19s,e81,e82,trivial⟩ (by kernel_rfl)
theorem e84:PCe E84:=ent [E17s,E80,E83] ⟨e17s,e80,e83,trivial⟩ (by kernel_rfl)
theorem e85:PCe E85:=ent [] trivial (by kernel_rfl)
theorem e86:PCe E86:=ent [E22s] ⟨e22s,trivial⟩ (by kernel_rfl)
theorem e87:PCe E87:=ent [E21s,E85,E86] ⟨e21s,e85,e86,trivial⟩ (by kernel_rfl)
theorem e88:PCe E88:=ent [E16s,E84,E87] ⟨e16s,e84,e87,trivial⟩ (by kernel_rfl)
theorem e89:PCe E89:=ent [E88] ⟨e88,trivial⟩ (by kernel_rfl)
theorem e90:PCe E90:=ent [] trivial (by kernel_rfl)
theorem e91:PCe E91:=ent [] trivial (by kernel_rfl)
theorem e92:PCe E92:=ent [] trivial (by kernel_rfl)
theorem e93:PCe E93:=ent [E91,E92] ⟨e91,e92,trivial⟩ (by kernel_rfl)
theorem e94:PCe E94:=ent [E90,E93] ⟨e90,e93,trivial⟩ (by kernel_rfl)
theorem e95:PCe E95:=ent [] trivial (by kernel_rfl)
theorem e96:PCe E96:=ent [] trivial (by kernel_rfl)
theorem e97:PCe E97:=ent [E95,E96] ⟨e95,e96,trivial⟩ (by kernel_rfl)
theorem e98:PCe E98:=ent [E94,E97] ⟨e94,e97,trivial⟩ (by kernel_rfl)
theorem e99:PCe E99:=ent [] trivial (by kernel_rfl)
theorem e100:PCe E100:=ent [] trivial (by kernel_rfl)
theorem e101:PCe E101:=ent [W3] ⟨w3,trivial⟩ (by kernel_rfl)
theorem e102:PCe E102:=ent [E100,E101] ⟨e100,e101,trivial⟩ (by kernel_rfl)
theorem e103:PCe E103:=ent [E99,E102] ⟨e99,e102,trivial⟩ (by kernel_rfl)
theorem e104:PCe E104:=ent [W4] ⟨w4,trivial⟩ (by kernel_rfl)
theorem e105:PCe E105:=ent [] trivial (by kernel_rfl)
theorem e106:PCe E106:=ent [E104,E105] ⟨e104,e105,trivial⟩ (by kernel_rfl)
theorem e107:PCe E107:=ent [E103,E106] ⟨e103,e106,trivial⟩ (by kernel_rfl)
theorem e108:PCe E108:=ent [E98,E107] ⟨e98,e107,trivial⟩ (by kernel_rfl)
end Go.Proofs.YtbhhmbchdponjaaGreatDoor
