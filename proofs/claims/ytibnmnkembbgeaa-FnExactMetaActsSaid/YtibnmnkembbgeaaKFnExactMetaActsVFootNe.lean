/- Lemmas on memory and walks: of the kit's printed words, those that this claim uses. -/
import Derived.Test.YtibnmnkembbgeaaKFnExactMetaActsVN
namespace Go.Proofs.YtibnmnkembbgeaaW.PrintWords
open Go.RowKit
namespace Kd
end Kd
end Go.Proofs.YtibnmnkembbgeaaW.PrintWords
