/- Texts of the claim. -/
import Derived.KernelRfl
import Derived.Test.YtbhhmbchdponjaaGreatDoorLS0
import Derived.Test.YtbhhmbchdponjaaGreatDoorLS1
import Derived.Test.YtbhhmbchdponjaaGreatDoorLS2
import Derived.Test.YtbhhmbchdponjaaGreatDoorLS3
import Derived.Test.YtbhhmbchdponjaaGreatDoorLS4
import Derived.Test.YtbhhmbchdponjaaGreatDoorLS5
import Derived.Test.YtbhhmbchdponjaaGreatDoorLS6
import Derived.Test.YtbhhmbchdponjaaGreatDoorLS7
import Derived.Test.YtbhhmbchdponjaaGreatDoorLSR
namespace Go.Proofs.YtbhhmbchdponjaaGreatDoor
set_option linter.unusedVariables false
set_option linter.unusedSimpArgs false
open Go.RowKit
set_option maxHeartbeats 0
set_option maxRecDepth 1000000
theorem e189:PCe E189:=ent [E50s] ⟨e50s,trivial⟩ (by kernel_rfl)
theorem e190:PCe E190:=ent [] trivial (by kernel_rfl)
theorem e191:PCe E191:=ent [E54s] ⟨e54s,trivial⟩ (by kernel_rfl)
theorem e192:PCe E192:=ent [] trivial (by kernel_rfl)
theorem e193:PCe E193:=ent [E53s,E191,E192] ⟨e53s,e191,e192,trivial⟩ (by kernel_rfl)
theorem e194:PCe E194:=ent [E52s,E190,E193] ⟨e52s,e190,e193,trivial⟩ (by kernel_rfl)
theorem e195:PCe E195:=ent [] trivial (by kernel_rfl)
theorem e196:PCe E196:=ent [] trivial (by kernel_rfl)
theorem e197:PCe E197:=ent [E57s] ⟨e57s,trivial⟩ (by kernel_rfl)
theorem e198:PCe E198:=ent [E56s,E196,E197] ⟨e56s,e196,e197,trivial⟩ (by kernel_rfl)
theorem e199:PCe E199:=ent [E55s,E195,E198] ⟨e55s,e195,e198,trivial⟩ (by kernel_rfl)
theorem e200:PCe E200:=ent [E51s,E194,E199] ⟨e51s,e194,e199,trivial⟩ (by kernel_rfl)
theorem e201:PCe E201:=ent [E49s,E189,E200] ⟨e49s,e189,e200,trivial⟩ (by kernel_rfl)
theorem e202:PCe E202:=ent [E201] ⟨e201,trivial⟩ (by kernel_rfl)
theorem e203:PCe E203:=ent [] trivial (by kernel_rfl)
theorem e204:PCe E204:=ent [] trivial (by kernel_rfl)
theorem e205:PCe E205:=ent [] trivial (by kernel_rfl)
theorem e206:PCe E206:=ent [] trivial (by kernel_rfl)
theorem e207:PCe E207:=ent [E205,E206] ⟨e205,e206,trivial⟩ (by kernel_rfl)
theorem e208:PCe E208:=ent [E204,E207] ⟨e204,e207,trivial⟩ (by kernel_rfl)
theorem e209:PCe E209:=ent [] trivial (by kernel_rfl)
theorem e210:PCe E210:=ent [] trivial (by kernel_rfl)
theorem e211:PCe E211:=ent [] trivial (by kernel_rfl)
theorem e212:PCe E212:=ent [E210,E211] ⟨e210,e211,trivial⟩ (by kernel_rfl)
theorem e213:PCe E213:=ent [E209,E212] ⟨e209,e212,trivial⟩ (by kernel_rfl)
theorem e214:PCe E214:=ent [E208,E213] ⟨e208,e213,trivial⟩ (by kernel_rfl)
theorem e215:PCe E215:=ent [E203,E214] ⟨e203,e214,trivial⟩ (by kernel_rfl)
theorem e216:PCe E216:=ent [E215] ⟨e215,trivial⟩ (by kernel_rfl)
end Go.Proofs.YtbhhmbchdponjaaGreatDoor
