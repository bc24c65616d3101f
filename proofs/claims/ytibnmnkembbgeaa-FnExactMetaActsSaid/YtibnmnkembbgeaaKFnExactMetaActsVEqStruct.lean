/- Lemmas on memory and walks: of the kit's printed words, those that this claim uses. -/
import Derived.Test.YtibnmnkembbgeaaKFnExactMetaActsVWords
import Derived.Laws.StructEq
namespace Go.Proofs.YtibnmnkembbgeaaW.PrintWords
open Go.RowKit
end Go.Proofs.YtibnmnkembbgeaaW.PrintWords
