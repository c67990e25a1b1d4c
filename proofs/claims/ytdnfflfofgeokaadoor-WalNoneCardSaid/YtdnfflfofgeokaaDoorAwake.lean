/- awake, by the kernel. -/
import Derived.Test.YtdnfflfofgeokaaDoorPWalx
namespace Go.Proofs.YtdnfflfofgeokaaDoor.WalN
open Go.Proofs.YtdnfflfofgeokaaDoor.PWal
theorem awake_true : lodestarlaw09_awake.f 400 = some true := by kernel_rfl
end Go.Proofs.YtdnfflfofgeokaaDoor.WalN
