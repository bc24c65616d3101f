/- The law on the program's constants answers true. No conditions. -/
import Derived.Test.YtjhlppbiahopkaaQx1
namespace Go.Proofs.Ytjhlppbiahopkaa.Pure
open Go Go.RowKit Go.Proofs.Ytjhlppbiahopkaa.Q
theorem FnExactConstants : laws_FnExactConstants.Pure := rfl
end Go.Proofs.Ytjhlppbiahopkaa.Pure
