import Derived.Test.YtldhjbjbjoomcaaDoorKFnImage6
import Derived.Test.YtldhjbjbjoomcaaDoorCards
import Derived.Test.YtldhjbjbjoomcaaDoorTie
import Derived.SevenTiedAt
namespace Go.Proofs.YtldhjbjbjoomcaaDoor
set_option maxRecDepth 100000
theorem fnImage_card : Rows.FnImageCardSaid :=
  Claim7.holds_tied_plain_at .later [] [.data, .data] true (true, "5482effc4a93f7f720de6ed8b17e663a93641348fb6d48b8c136d7cffcf0c7ab") false
    DgRow.overM (fun _ h => by cases h) (by kernel_rfl) (fun _ h => by cases h) fnImage_row_tie rfl ⟨rfl, rfl⟩ (by kernel_rfl) rfl
    (fun f fn hf hfn => by
      obtain rfl : f = 6 := Option.some.inj ((show Tryd.prog.funcNamed "loop.example/g00668/laws.FnImage" = some 6 by kernel_rfl).symm.trans hf) |>.symm
      obtain rfl : fn = Tryd.f6 := (Option.some.inj (Tryd.func6.symm.trans hfn)).symm
      exact ⟨by kernel_rfl, fun j t ht => by
        rw [Tryd.params6] at ht
        have hm : t ∈ [24, 24] := by simpa using Array.mem_of_getElem? ht
        have hall : ([24, 24].all fun u => !Tryd.prog.wantsStandIn u) = true := by kernel_rfl
        exact (show Tryd.prog.wantsStandIn t = false by simpa using List.all_eq_true.1 hall t hm)⟩)
    (by kernel_rfl)
#print axioms fnImage_card
end Go.Proofs.YtldhjbjbjoomcaaDoor
