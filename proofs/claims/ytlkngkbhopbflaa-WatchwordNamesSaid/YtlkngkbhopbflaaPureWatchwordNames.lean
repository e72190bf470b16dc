/- The program's exported errors, limits and kinds are the document's: the closed law WatchwordNames answers true. No condition. -/
import Derived.Test.YtlkngkbhopbflaaPWatchwordNamesx1
namespace Go.Proofs.Ytlkngkbhopbflaa.Pure
open Go.RowKit Go.Proofs.Ytlkngkbhopbflaa.PWatchwordNames Go.Proofs.YtlkngkbhopbflaaW.PrintWords Go.Proofs.YtlkngkbhopbflaaW.PrintLast

theorem WatchwordNames : watchwordlaw0_WatchwordNames.Pure := by
  unfold watchwordlaw0_WatchwordNames.Pure
  rfl

end Go.Proofs.Ytlkngkbhopbflaa.Pure
