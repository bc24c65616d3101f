/- Lemmas on memory and walks: of the kit's printed words, those that this claim uses. -/
import Derived.Test.YtibnmnkembbgeaaKFnExactMetaActsVInv
import Derived.Test.YtibnmnkembbgeaaKFnExactMetaActsVFootNe
namespace Go.Proofs.YtibnmnkembbgeaaW.PrintWords
open Go.RowKit
end Go.Proofs.YtibnmnkembbgeaaW.PrintWords
namespace Go.Proofs.YtibnmnkembbgeaaW.PrintLast
end Go.Proofs.YtibnmnkembbgeaaW.PrintLast
