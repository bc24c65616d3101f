import Derived.Test.YtldhjbjbjoomcaaDoorDgRowI
import Derived.Test.YtldhjbjbjoomcaaDoorCards
import Derived.Test.YtldhjbjbjoomcaaDoorTie
import Derived.SevenTiedAt
namespace Go.Proofs.YtldhjbjbjoomcaaDoor
set_option maxRecDepth 100000
theorem fnExactImageDigest_card : Rows.FnExactImageDigestCardSaid :=
  Claim7.holds_tied_plain_at .later [] [.data, .data] true (true, "5482effc4a93f7f720de6ed8b17e663a93641348fb6d48b8c136d7cffcf0c7ab") false
    DgRow.overI (fun _ h => by cases h) (by kernel_rfl) (fun _ h => by cases h) fnExactImageDigest_row_tie rfl ⟨rfl, rfl⟩ (by kernel_rfl) rfl
    (fun f fn hf hfn => by
      obtain rfl : f = 5 := Option.some.inj ((show Tryd.prog.funcNamed "loop.example/g00668/laws.FnExactImageDigest" = some 5 by kernel_rfl).symm.trans hf) |>.symm
      obtain rfl : fn = Tryd.f5 := (Option.some.inj (Tryd.func5.symm.trans hfn)).symm
      exact ⟨by kernel_rfl, fun j t ht => by
        rw [Tryd.params5] at ht
        have hm : t ∈ [27] := by simpa using Array.mem_of_getElem? ht
        have hall : ([27].all fun u => !Tryd.prog.wantsStandIn u) = true := by kernel_rfl
        exact (show Tryd.prog.wantsStandIn t = false by simpa using List.all_eq_true.1 hall t hm)⟩)
    (by kernel_rfl)
#print axioms fnExactImageDigest_card
end Go.Proofs.YtldhjbjbjoomcaaDoor
