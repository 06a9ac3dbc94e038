/- What functions of the given program come to: the check sum; no condition. -/
import Derived.Test.YtmkgmlgklggnlaaGp
namespace Go.Proofs.YtmkgmlgklggnlaaG
open Go Go.Proofs.YtmkgmlgklggnlaaGm
set_option maxRecDepth 100000

theorem live12 : crcOf [49, 50, 51, 52, 53, 54, 55, 56, 57] = 3421780262 := by decide +kernel
end Go.Proofs.YtmkgmlgklggnlaaG
