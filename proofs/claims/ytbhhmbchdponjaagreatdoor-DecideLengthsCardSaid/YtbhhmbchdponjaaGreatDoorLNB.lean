/- Texts of the claim. -/
import Derived.KernelRfl
import Derived.Test.YtbhhmbchdponjaaGreatDoorLS0
import Derived.Test.YtbhhmbchdponjaaGreatDoorLS1
import Derived.Test.YtbhhmbchdponjaaGreatDoorLS2
import Derived.Test.YtbhhmbchdponjaaGreatDoorLS3
import Derived.Test.YtbhhmbchdponjaaGreatDoorLS4
import Derived.Test.YtbhhmbchdponjaaGreatDoorLS5
import Derived.Test.YtbhhmbchdponjaaGreatDoorLS6
import Derived.Test.YtbhhmbchdponjaaGreatDoorLS7
import Derived.Test.YtbhhmbchdponjaaGreatDoorLSR
namespace Go.Proofs.YtbhhmbchdponjaaGreatDoor
set_option linter.unusedVariables false
set_option linter.unusedSimpArgs false
open Go.RowKit
set_option maxHeartbeats 0
set_option maxRecDepth 1000000
theorem e35:PCe E35:=ent [E4s] ⟨e4s,trivial⟩ (by kernel_rfl)
theorem e36:PCe E36:=ent [] trivial (by kernel_rfl)
theorem e37:PCe E37:=ent [E3s,E35,E36] ⟨e3s,e35,e36,trivial⟩ (by kernel_rfl)
theorem e38:PCe E38:=ent [] trivial (by kernel_rfl)
theorem e39:PCe E39:=ent [E11s,E37,E38] ⟨e11s,e37,e38,trivial⟩ (by kernel_rfl)
theorem e40:PCe E40:=ent [] trivial (by kernel_rfl)
theorem e41:PCe E41:=ent [E6s] ⟨e6s,trivial⟩ (by kernel_rfl)
theorem e42:PCe E42:=ent [E5s,E40,E41] ⟨e5s,e40,e41,trivial⟩ (by kernel_rfl)
theorem e43:PCe E43:=ent [] trivial (by kernel_rfl)
theorem e44:PCe E44:=ent [E12s,E42,E43] ⟨e12s,e42,e43,trivial⟩ (by kernel_rfl)
theorem e45:PCe E45:=ent [E10s,E39,E44] ⟨e10s,e39,e44,trivial⟩ (by kernel_rfl)
theorem e46:PCe E46:=ent [E13s] ⟨e13s,trivial⟩ (by kernel_rfl)
theorem e47:PCe E47:=ent [E9s,E45,E46] ⟨e9s,e45,e46,trivial⟩ (by kernel_rfl)
theorem e48:PCe E48:=ent [E47] ⟨e47,trivial⟩ (by kernel_rfl)
theorem e49:PCe E49:=ent [] trivial (by kernel_rfl)
theorem e50:PCe E50:=ent [] trivial (by kernel_rfl)
theorem e51:PCe E51:=ent [E49,E50] ⟨e49,e50,trivial⟩ (by kernel_rfl)
theorem e52:PCe E52:=ent [] trivial (by kernel_rfl)
theorem e53:PCe E53:=ent [E51,E52] ⟨e51,e52,trivial⟩ (by kernel_rfl)
theorem e54:PCe E54:=ent [] trivial (by kernel_rfl)
theorem e55:PCe E55:=ent [] trivial (by kernel_rfl)
theorem e56:PCe E56:=ent [E54,E55] ⟨e54,e55,trivial⟩ (by kernel_rfl)
theorem e57:PCe E57:=ent [] trivial (by kernel_rfl)
theorem e58:PCe E58:=ent [E56,E57] ⟨e56,e57,trivial⟩ (by kernel_rfl)
theorem e59:PCe E59:=ent [E53,E58] ⟨e53,e58,trivial⟩ (by kernel_rfl)
theorem e60:PCe E60:=ent [] trivial (by kernel_rfl)
theorem e61:PCe E61:=ent [E59,E60] ⟨e59,e60,trivial⟩ (by kernel_rfl)
theorem e62:PCe E62:=ent [] trivial (by kernel_rfl)
theorem e63:PCe E63:=ent [W0] ⟨w0,trivial⟩ (by kernel_rfl)
theorem e64:PCe E64:=ent [E62,E63] ⟨e62,e63,trivial⟩ (by kernel_rfl)
theorem e65:PCe E65:=ent [W2] ⟨w2,trivial⟩ (by kernel_rfl)
theorem e66:PCe E66:=ent [E64,E65] ⟨e64,e65,trivial⟩ (by kernel_rfl)
theorem e67:PCe E67:=ent [W1] ⟨w1,trivial⟩ (by kernel_rfl)
theorem e68:PCe E68:=ent [] trivial (by kernel_rfl)
theorem e69:PCe E69:=ent [E67,E68] ⟨e67,e68,trivial⟩ (by kernel_rfl)
theorem e70:PCe E70:=ent [W3] ⟨w3,trivial⟩ (by kernel_rfl)
theorem e71:PCe E71:=ent [E69,E70] ⟨e69,e70,trivial⟩ (by kernel_rfl)
theorem e72:PCe E72:=ent [E66,E71] ⟨e66,e71,trivial⟩ (by kernel_rfl)
theorem e73:PCe E73:=ent [] trivial (by kernel_rfl)
theorem e74:PCe E74:=ent [E72,E73] ⟨e72,e73,trivial⟩ (by kernel_rfl)
theorem e75:PCe E75:=ent [E61,E74] ⟨e61,e74,trivial⟩ (by kernel_rfl)
end Go.Proofs.YtbhhmbchdponjaaGreatDoor
