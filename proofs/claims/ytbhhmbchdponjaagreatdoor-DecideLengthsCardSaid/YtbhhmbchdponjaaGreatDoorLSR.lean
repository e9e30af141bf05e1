/- Texts of the claim. -/
import Derived.KernelRfl
import Derived.Test.YtbhhmbchdponjaaGreatDoorLT1
namespace Go.Proofs.YtbhhmbchdponjaaGreatDoor
set_option linter.unusedVariables false
set_option linter.unusedSimpArgs false
open Go.RowKit
set_option maxHeartbeats 0
set_option maxRecDepth 1000000
theorem e4s:PCe E4s:=jb (Dk 0 0 0 0 1 [⟨[⟨4,1⟩,⟨0,1⟩],1⟩,⟨[⟨5,1⟩,⟨1,1⟩],1⟩,⟨[⟨7,1⟩,⟨3,1⟩],1⟩] (by decide) (by kernel_rfl)) (by kernel_rfl)
theorem e6s:PCe E6s:=jb (Dk 1 1 1 1 1 [⟨[⟨4,1⟩,⟨0,1⟩],1⟩,⟨[⟨5,1⟩,⟨1,1⟩],1⟩,⟨[⟨2,1⟩,⟨6,1⟩],1⟩] (by decide) (by kernel_rfl)) (by kernel_rfl)
theorem e13s:PCe E13s:=jb (Dk 2 2 0 2 1 [⟨[⟨4,1⟩,⟨0,1⟩],1⟩,⟨[⟨5,1⟩,⟨1,1⟩],1⟩,⟨[⟨2,1⟩,⟨6,1⟩],1⟩] (by decide) (by kernel_rfl)) (by kernel_rfl)
theorem e18s:PCe E18s:=jb (Dk 0 0 0 2 3 [⟨[⟨4,1⟩,⟨0,1⟩],1⟩,⟨[⟨5,1⟩,⟨1,1⟩],1⟩,⟨[⟨7,1⟩,⟨3,1⟩],1⟩] (by decide) (by kernel_rfl)) (by kernel_rfl)
theorem e20s:PCe agr:=jb (Dk 1 1 0 1 3 [⟨[⟨4,1⟩,⟨0,1⟩],1⟩,⟨[⟨5,1⟩,⟨1,1⟩],1⟩,⟨[⟨7,1⟩,⟨3,1⟩],1⟩] (by decide) (by kernel_rfl)) (by kernel_rfl)
theorem e22s:PCe E22s:=jb (Dk 2 2 2 2 3 [⟨[⟨4,1⟩,⟨0,1⟩],1⟩,⟨[⟨5,1⟩,⟨1,1⟩],1⟩,⟨[⟨2,1⟩,⟨6,1⟩],1⟩] (by decide) (by kernel_rfl)) (by kernel_rfl)
theorem e29s:PCe E29s:=jb (Dk 2 3 0 3 1 [⟨[⟨0,1⟩,⟨4,1⟩],1⟩,⟨[⟨1,1⟩,⟨5,1⟩],1⟩,⟨[⟨6,1⟩,⟨2,1⟩],1⟩] (by decide) (by kernel_rfl)) (by kernel_rfl)
theorem e35s:PCe E35s:=jb (Dk 0 0 0 1 3 [⟨[⟨4,1⟩,⟨0,1⟩],1⟩,⟨[⟨5,1⟩,⟨1,1⟩],1⟩,⟨[⟨7,1⟩,⟨3,1⟩],1⟩] (by decide) (by kernel_rfl)) (by kernel_rfl)
theorem e39s:PCe E39s:=jb (Dk 2 2 2 3 3 [⟨[⟨4,1⟩,⟨0,1⟩],1⟩,⟨[⟨5,1⟩,⟨1,1⟩],1⟩,⟨[⟨2,1⟩,⟨6,1⟩],1⟩] (by decide) (by kernel_rfl)) (by kernel_rfl)
theorem e41s:PCe E41s:=jb (Dk 3 3 2 3 3 [⟨[⟨4,1⟩,⟨0,1⟩],1⟩,⟨[⟨5,1⟩,⟨1,1⟩],1⟩,⟨[⟨2,1⟩,⟨6,1⟩],1⟩] (by decide) (by kernel_rfl)) (by kernel_rfl)
theorem e44s:PCe E44s:=jb (Dk 0 0 0 3 4 [⟨[⟨4,1⟩,⟨0,1⟩],1⟩,⟨[⟨5,1⟩,⟨1,1⟩],1⟩,⟨[⟨7,1⟩,⟨3,1⟩],1⟩] (by decide) (by kernel_rfl)) (by kernel_rfl)
theorem e46s:PCe E46s:=jb (Dk 1 1 0 1 4 [⟨[⟨4,1⟩,⟨0,1⟩],1⟩,⟨[⟨5,1⟩,⟨1,1⟩],1⟩,⟨[⟨7,1⟩,⟨3,1⟩],1⟩] (by decide) (by kernel_rfl)) (by kernel_rfl)
theorem e50s:PCe E50s:=jb (Dk 0 1 0 3 5 [⟨[⟨0,1⟩,⟨4,1⟩],1⟩,⟨[⟨1,1⟩,⟨5,1⟩],1⟩,⟨[⟨3,1⟩,⟨7,1⟩],1⟩] (by decide) (by kernel_rfl)) (by kernel_rfl)
theorem e54s:PCe E54s:=jb (Dk 2 2 2 2 5 [⟨[⟨4,1⟩,⟨0,1⟩],1⟩,⟨[⟨5,1⟩,⟨1,1⟩],1⟩,⟨[⟨7,1⟩,⟨3,1⟩],1⟩] (by decide) (by kernel_rfl)) (by kernel_rfl)
theorem e57s:PCe E57s:=jb (Dk 3 3 3 3 5 [⟨[⟨4,1⟩,⟨0,1⟩],1⟩,⟨[⟨5,1⟩,⟨1,1⟩],1⟩,⟨[⟨2,1⟩,⟨6,1⟩],1⟩] (by decide) (by kernel_rfl)) (by kernel_rfl)
theorem w0:PCe W0:=jb (Yq 0 0 1 1 (.tree 2 [[i6 0,i6 1]]) (by decide)) (by kernel_rfl)
theorem w1:PCe W1:=jb (Yq 1 1 0 0 (.tree 2 [[i6 0,i6 1]]) (by decide)) (by kernel_rfl)
theorem w2:PCe W2:=jb (Yq 0 0 2 2 (.tree 2 [[i6 0,i6 1]]) (by decide)) (by kernel_rfl)
theorem w3:PCe W3:=jb (Yq 1 1 2 2 (.tree 2 [[i6 0,i6 1]]) (by decide)) (by kernel_rfl)
theorem w4:PCe W4:=jb (Yq 2 2 0 1 (.tree 2 [[i6 0,i6 1]]) (by decide)) (by kernel_rfl)
end Go.Proofs.YtbhhmbchdponjaaGreatDoor
