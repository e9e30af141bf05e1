/- Texts of the claim. -/
import Derived.KernelRfl
import Derived.Test.YtbhhmbchdponjaaGreatDoorLS0
import Derived.Test.YtbhhmbchdponjaaGreatDoorLS1
import Derived.Test.YtbhhmbchdponjaaGreatDoorLS2
import Derived.Test.YtbhhmbchdponjaaGreatDoorLS3
import Derived.Test.YtbhhmbchdponjaaGreatDoorLS4
import Derived.Test.YtbhhmbchdponjaaGreatDoorLS5
import Derived.Test.YtbhhmbchdponjaaGreatDoorLS6
import Derived.Test.YtbhhmbchdponjaaGreatDoorLS7
import Derived.Test.YtbhhmbchdponjaaGreatDoorLSR
namespace Go.Proofs.YtbhhmbchdponjaaGreatDoor
set_option linter.unusedVariables false
set_option linter.unusedSimpArgs false
open Go.RowKit
set_option maxHeartbeats 0
set_option maxRecDepth 1000000
theorem e147:PCe E147:=ent [E35s] ⟨e35s,trivial⟩ (by kernel_rfl)
theorem e148:PCe E148:=ent [] trivial (by kernel_rfl)
theorem e149:PCe E149:=ent [E34s,E147,E148] ⟨e34s,e147,e148,trivial⟩ (by kernel_rfl)
theorem e150:PCe E150:=ent [agr] ⟨e20s,trivial⟩ (by kernel_rfl)
theorem e151:PCe E151:=ent [] trivial (by kernel_rfl)
theorem e152:PCe E152:=ent [E36s,E150,E151] ⟨e36s,e150,e151,trivial⟩ (by kernel_rfl)
theorem e153:PCe E153:=ent [E33s,E149,E152] ⟨e33s,e149,e152,trivial⟩ (by kernel_rfl)
theorem e154:PCe E154:=ent [] trivial (by kernel_rfl)
theorem e155:PCe E155:=ent [E39s] ⟨e39s,trivial⟩ (by kernel_rfl)
theorem e156:PCe E156:=ent [E38s,E154,E155] ⟨e38s,e154,e155,trivial⟩ (by kernel_rfl)
theorem e157:PCe E157:=ent [] trivial (by kernel_rfl)
theorem e158:PCe E158:=ent [E41s] ⟨e41s,trivial⟩ (by kernel_rfl)
theorem e159:PCe E159:=ent [E40s,E157,E158] ⟨e40s,e157,e158,trivial⟩ (by kernel_rfl)
theorem e160:PCe E160:=ent [E37s,E156,E159] ⟨e37s,e156,e159,trivial⟩ (by kernel_rfl)
theorem e161:PCe E161:=ent [E32s,E153,E160] ⟨e32s,e153,e160,trivial⟩ (by kernel_rfl)
theorem e162:PCe E162:=ent [E161] ⟨e161,trivial⟩ (by kernel_rfl)
theorem e163:PCe E163:=ent [] trivial (by kernel_rfl)
theorem e164:PCe E164:=ent [] trivial (by kernel_rfl)
theorem e165:PCe E165:=ent [E163,E164] ⟨e163,e164,trivial⟩ (by kernel_rfl)
theorem e166:PCe E166:=ent [] trivial (by kernel_rfl)
theorem e167:PCe E167:=ent [] trivial (by kernel_rfl)
theorem e168:PCe E168:=ent [E166,E167] ⟨e166,e167,trivial⟩ (by kernel_rfl)
theorem e169:PCe E169:=ent [E165,E168] ⟨e165,e168,trivial⟩ (by kernel_rfl)
theorem e170:PCe E170:=ent [] trivial (by kernel_rfl)
theorem e171:PCe E171:=ent [] trivial (by kernel_rfl)
theorem e172:PCe E172:=ent [E170,E171] ⟨e170,e171,trivial⟩ (by kernel_rfl)
theorem e173:PCe E173:=ent [] trivial (by kernel_rfl)
theorem e174:PCe E174:=ent [] trivial (by kernel_rfl)
theorem e175:PCe E175:=ent [E173,E174] ⟨e173,e174,trivial⟩ (by kernel_rfl)
theorem e176:PCe E176:=ent [E172,E175] ⟨e172,e175,trivial⟩ (by kernel_rfl)
theorem e177:PCe E177:=ent [E169,E176] ⟨e169,e176,trivial⟩ (by kernel_rfl)
theorem e178:PCe E178:=ent [E177] ⟨e177,trivial⟩ (by kernel_rfl)
end Go.Proofs.YtbhhmbchdponjaaGreatDoor
