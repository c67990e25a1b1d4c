/- awake, by the kernel. -/
import Derived.Test.YtomhgoahhlnjpaaGreatDoorPWalx8
namespace Go.Proofs.YtomhgoahhlnjpaaGreatDoor.WalN
open Go.Proofs.YtomhgoahhlnjpaaGreatDoor.PWal
theorem awake_true : lodestarlaw09_awake.f 400 = some true := by kernel_rfl
end Go.Proofs.YtomhgoahhlnjpaaGreatDoor.WalN
