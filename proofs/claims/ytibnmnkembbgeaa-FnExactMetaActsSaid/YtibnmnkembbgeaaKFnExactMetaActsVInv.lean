/- Lemmas on memory and walks: of the kit's printed words, those that this claim uses. -/
import Derived.Test.YtibnmnkembbgeaaKFnExactMetaActsVTab
namespace Go.Proofs.YtibnmnkembbgeaaW.PrintLast
end Go.Proofs.YtibnmnkembbgeaaW.PrintLast
