/- Texts of the claim. -/
import Derived.KernelRfl
import Derived.Test.YtbhhmbchdponjaaGreatDoorLS0
import Derived.Test.YtbhhmbchdponjaaGreatDoorLS1
import Derived.Test.YtbhhmbchdponjaaGreatDoorLS2
import Derived.Test.YtbhhmbchdponjaaGreatDoorLS3
import Derived.Test.YtbhhmbchdponjaaGreatDoorLS4
import Derived.Test.YtbhhmbchdponjaaGreatDoorLS5
import Derived.Test.YtbhhmbchdponjaaGreatDoorLS6
import Derived.Test.YtbhhmbchdponjaaGreatDoorLS7
import Derived.Test.YtbhhmbchdponjaaGreatDoorLSR
namespace Go.Proofs.YtbhhmbchdponjaaGreatDoor
set_option linter.unusedVariables false
set_option linter.unusedSimpArgs false
open Go.RowKit
set_option maxHeartbeats 0
set_option maxRecDepth 1000000
theorem e115:PCe E115:=ent [E4s] ⟨e4s,trivial⟩ (by kernel_rfl)
theorem e116:PCe E116:=ent [] trivial (by kernel_rfl)
theorem e117:PCe E117:=ent [E3s,E115,E116] ⟨e3s,e115,e116,trivial⟩ (by kernel_rfl)
theorem e118:PCe E118:=ent [] trivial (by kernel_rfl)
theorem e119:PCe E119:=ent [E27s,E117,E118] ⟨e27s,e117,e118,trivial⟩ (by kernel_rfl)
theorem e120:PCe E120:=ent [] trivial (by kernel_rfl)
theorem e121:PCe E121:=ent [E6s] ⟨e6s,trivial⟩ (by kernel_rfl)
theorem e122:PCe E122:=ent [E5s,E120,E121] ⟨e5s,e120,e121,trivial⟩ (by kernel_rfl)
theorem e123:PCe E123:=ent [] trivial (by kernel_rfl)
theorem e124:PCe E124:=ent [E28s,E122,E123] ⟨e28s,e122,e123,trivial⟩ (by kernel_rfl)
theorem e125:PCe E125:=ent [E26s,E119,E124] ⟨e26s,e119,e124,trivial⟩ (by kernel_rfl)
theorem e126:PCe E126:=ent [E29s] ⟨e29s,trivial⟩ (by kernel_rfl)
theorem e127:PCe E127:=ent [E25s,E125,E126] ⟨e25s,e125,e126,trivial⟩ (by kernel_rfl)
theorem e128:PCe E128:=ent [E127] ⟨e127,trivial⟩ (by kernel_rfl)
theorem e129:PCe E129:=ent [] trivial (by kernel_rfl)
theorem e130:PCe E130:=ent [] trivial (by kernel_rfl)
theorem e131:PCe E131:=ent [E129,E130] ⟨e129,e130,trivial⟩ (by kernel_rfl)
theorem e132:PCe E132:=ent [] trivial (by kernel_rfl)
theorem e133:PCe E133:=ent [E131,E132] ⟨e131,e132,trivial⟩ (by kernel_rfl)
theorem e134:PCe E134:=ent [] trivial (by kernel_rfl)
theorem e135:PCe E135:=ent [] trivial (by kernel_rfl)
theorem e136:PCe E136:=ent [E134,E135] ⟨e134,e135,trivial⟩ (by kernel_rfl)
theorem e137:PCe E137:=ent [] trivial (by kernel_rfl)
theorem e138:PCe E138:=ent [E136,E137] ⟨e136,e137,trivial⟩ (by kernel_rfl)
theorem e139:PCe E139:=ent [E133,E138] ⟨e133,e138,trivial⟩ (by kernel_rfl)
theorem e140:PCe E140:=ent [] trivial (by kernel_rfl)
theorem e141:PCe E141:=ent [E139,E140] ⟨e139,e140,trivial⟩ (by kernel_rfl)
theorem e142:PCe E142:=ent [E141] ⟨e141,trivial⟩ (by kernel_rfl)
end Go.Proofs.YtbhhmbchdponjaaGreatDoor
