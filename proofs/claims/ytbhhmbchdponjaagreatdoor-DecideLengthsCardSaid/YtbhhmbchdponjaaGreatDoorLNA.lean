/- Texts of the claim. -/
import Derived.KernelRfl
import Derived.Test.YtbhhmbchdponjaaGreatDoorLS0
import Derived.Test.YtbhhmbchdponjaaGreatDoorLS1
import Derived.Test.YtbhhmbchdponjaaGreatDoorLS2
import Derived.Test.YtbhhmbchdponjaaGreatDoorLS3
import Derived.Test.YtbhhmbchdponjaaGreatDoorLS4
import Derived.Test.YtbhhmbchdponjaaGreatDoorLS5
import Derived.Test.YtbhhmbchdponjaaGreatDoorLS6
import Derived.Test.YtbhhmbchdponjaaGreatDoorLS7
import Derived.Test.YtbhhmbchdponjaaGreatDoorLSR
namespace Go.Proofs.YtbhhmbchdponjaaGreatDoor
set_option linter.unusedVariables false
set_option linter.unusedSimpArgs false
open Go.RowKit
set_option maxHeartbeats 0
set_option maxRecDepth 1000000
theorem e0:PCe E0:=ent [E0s] ⟨e0s,trivial⟩ (by kernel_rfl)
theorem e1:PCe E1:=ent [E0] ⟨e0,trivial⟩ (by kernel_rfl)
theorem e2:PCe E2:=ent [] trivial (by kernel_rfl)
theorem e3:PCe E3:=ent [E1s] ⟨e1s,trivial⟩ (by kernel_rfl)
theorem e4:PCe E4:=ent [E3] ⟨e3,trivial⟩ (by kernel_rfl)
theorem e5:PCe E5:=ent [] trivial (by kernel_rfl)
theorem e29:PCe E29:=ent [E7s] ⟨e7s,trivial⟩ (by kernel_rfl)
theorem e30:PCe E30:=ent [E29] ⟨e29,trivial⟩ (by kernel_rfl)
theorem e31:PCe E31:=ent [] trivial (by kernel_rfl)
theorem e32:PCe E32:=ent [E8s] ⟨e8s,trivial⟩ (by kernel_rfl)
theorem e33:PCe E33:=ent [E32] ⟨e32,trivial⟩ (by kernel_rfl)
theorem e34:PCe E34:=ent [] trivial (by kernel_rfl)
theorem e76:PCe E76:=ent [E15s] ⟨e15s,trivial⟩ (by kernel_rfl)
theorem e77:PCe E77:=ent [E14s,E76] ⟨e14s,e76,trivial⟩ (by kernel_rfl)
theorem e78:PCe E78:=ent [E77] ⟨e77,trivial⟩ (by kernel_rfl)
theorem e79:PCe E79:=ent [] trivial (by kernel_rfl)
theorem e109:PCe E109:=ent [E23s] ⟨e23s,trivial⟩ (by kernel_rfl)
theorem e110:PCe E110:=ent [E109] ⟨e109,trivial⟩ (by kernel_rfl)
theorem e111:PCe E111:=ent [] trivial (by kernel_rfl)
theorem e112:PCe E112:=ent [E24s] ⟨e24s,trivial⟩ (by kernel_rfl)
theorem e113:PCe E113:=ent [E112] ⟨e112,trivial⟩ (by kernel_rfl)
theorem e114:PCe E114:=ent [] trivial (by kernel_rfl)
theorem e143:PCe E143:=ent [E31s] ⟨e31s,trivial⟩ (by kernel_rfl)
theorem e144:PCe E144:=ent [E30s,E143] ⟨e30s,e143,trivial⟩ (by kernel_rfl)
theorem e145:PCe E145:=ent [E144] ⟨e144,trivial⟩ (by kernel_rfl)
theorem e146:PCe E146:=ent [] trivial (by kernel_rfl)
theorem e217:PCe E217:=ent [E58s] ⟨e58s,trivial⟩ (by kernel_rfl)
theorem e218:PCe E218:=ent [E217] ⟨e217,trivial⟩ (by kernel_rfl)
theorem e219:PCe E219:=ent [] trivial (by kernel_rfl)
theorem e6:PCe E6:=ent [E4s] ⟨e4s,trivial⟩ (by kernel_rfl)
theorem e7:PCe E7:=ent [] trivial (by kernel_rfl)
theorem e8:PCe E8:=ent [E3s,E6,E7] ⟨e3s,e6,e7,trivial⟩ (by kernel_rfl)
theorem e9:PCe E9:=ent [] trivial (by kernel_rfl)
theorem e10:PCe E10:=ent [E6s] ⟨e6s,trivial⟩ (by kernel_rfl)
theorem e11:PCe E11:=ent [E5s,E9,E10] ⟨e5s,e9,e10,trivial⟩ (by kernel_rfl)
theorem e12:PCe E12:=ent [E2s,E8,E11] ⟨e2s,e8,e11,trivial⟩ (by kernel_rfl)
theorem e13:PCe E13:=ent [E12] ⟨e12,trivial⟩ (by kernel_rfl)
theorem e14:PCe E14:=ent [] trivial (by kernel_rfl)
theorem e15:PCe E15:=ent [] trivial (by kernel_rfl)
theorem e16:PCe E16:=ent [E14,E15] ⟨e14,e15,trivial⟩ (by kernel_rfl)
theorem e17:PCe E17:=ent [] trivial (by kernel_rfl)
theorem e18:PCe E18:=ent [] trivial (by kernel_rfl)
theorem e19:PCe E19:=ent [E17,E18] ⟨e17,e18,trivial⟩ (by kernel_rfl)
theorem e20:PCe E20:=ent [E16,E19] ⟨e16,e19,trivial⟩ (by kernel_rfl)
theorem e21:PCe E21:=ent [] trivial (by kernel_rfl)
theorem e22:PCe E22:=ent [W0] ⟨w0,trivial⟩ (by kernel_rfl)
theorem e23:PCe E23:=ent [E21,E22] ⟨e21,e22,trivial⟩ (by kernel_rfl)
theorem e24:PCe E24:=ent [W1] ⟨w1,trivial⟩ (by kernel_rfl)
theorem e25:PCe E25:=ent [] trivial (by kernel_rfl)
theorem e26:PCe E26:=ent [E24,E25] ⟨e24,e25,trivial⟩ (by kernel_rfl)
theorem e27:PCe E27:=ent [E23,E26] ⟨e23,e26,trivial⟩ (by kernel_rfl)
theorem e28:PCe E28:=ent [E20,E27] ⟨e20,e27,trivial⟩ (by kernel_rfl)
theorem e179:PCe E179:=ent [E44s] ⟨e44s,trivial⟩ (by kernel_rfl)
theorem e180:PCe E180:=ent [E46s] ⟨e46s,trivial⟩ (by kernel_rfl)
theorem e181:PCe E181:=ent [] trivial (by kernel_rfl)
theorem e182:PCe E182:=ent [E45s,E180,E181] ⟨e45s,e180,e181,trivial⟩ (by kernel_rfl)
theorem e183:PCe E183:=ent [E43s,E179,E182] ⟨e43s,e179,e182,trivial⟩ (by kernel_rfl)
theorem e184:PCe E184:=ent [E48s] ⟨e48s,trivial⟩ (by kernel_rfl)
theorem e185:PCe E185:=ent [E47s,E184] ⟨e47s,e184,trivial⟩ (by kernel_rfl)
theorem e186:PCe E186:=ent [E42s,E183,E185] ⟨e42s,e183,e185,trivial⟩ (by kernel_rfl)
theorem e187:PCe E187:=ent [E186] ⟨e186,trivial⟩ (by kernel_rfl)
theorem e188:PCe E188:=ent [] trivial (by kernel_rfl)
end Go.Proofs.YtbhhmbchdponjaaGreatDoor
