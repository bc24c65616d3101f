/-
  DERIVED. GIVEN WITH THE SEED: THE CARDS: each row of YtldhjbjbjoomcaaDoorRows.lean that lists a variable, with what it lists TIED to the program's text (the seventh form; the later family's looks); each row that meets fmt, with fmt's text TOLD by the authors' own Lean function (tested against real Go, not proved from fmt's source: count such statements apart). THE CARD IS WHAT COUNTS. Prove the row's statement (the work); the ties are given (YtldhjbjbjoomcaaDoorTie.lean); close each card by the builder's one call (the guide's Derived/Test/ToyasCard.lean, 'card_holds'). Laid BY PROGRAM, IN A SANDBOX (cutbox-door.mjs). By AI agents, Wed Nov 11 2026. No macro, syntax, notation, axiom, sorry.
-/
import Derived.Test.YtldhjbjbjoomcaaDoorRows
import GoSem.ClaimSeven
namespace Go.Proofs.YtldhjbjbjoomcaaDoor
namespace Rows

/-- THE TIED CARD OF 'laws.FnExactDigest'. -/
def fnExactDigestCard : Claim7 := { stood := { row := fnExactDigestRow, standIns := [], harness := (true, "5482effc4a93f7f720de6ed8b17e663a93641348fb6d48b8c136d7cffcf0c7ab"), looks := false }, kinds := [], alts := [], laidByText := true, laidKinds := [.data, .data], laidTests := true, laidLooks := .later }
def FnExactDigestCardSaid : Prop := Claim7.holds Tryd.pinned (.plain (OpenSpec.ofChange fnExactDigestSpec)) fnExactDigestCard

/-- THE TIED CARD OF 'laws.FnDigest'. -/
def fnDigestCard : Claim7 := { stood := { row := fnDigestRow, standIns := [], harness := (true, "5482effc4a93f7f720de6ed8b17e663a93641348fb6d48b8c136d7cffcf0c7ab"), looks := false }, kinds := [], alts := [], laidByText := true, laidKinds := [.data, .data], laidTests := true, laidLooks := .later }
def FnDigestCardSaid : Prop := Claim7.holds Tryd.pinned (.plain (OpenSpec.ofChange fnDigestSpec)) fnDigestCard

/-- THE TIED CARD OF 'laws.FnExactImageDigest'. -/
def fnExactImageDigestCard : Claim7 := { stood := { row := fnExactImageDigestRow, standIns := [], harness := (true, "5482effc4a93f7f720de6ed8b17e663a93641348fb6d48b8c136d7cffcf0c7ab"), looks := false }, kinds := [], alts := [], laidByText := true, laidKinds := [.data, .data], laidTests := true, laidLooks := .later }
def FnExactImageDigestCardSaid : Prop := Claim7.holds Tryd.pinned (.plain (OpenSpec.ofChange fnExactImageDigestSpec)) fnExactImageDigestCard

/-- THE TIED CARD OF 'laws.FnImage'. -/
def fnImageCard : Claim7 := { stood := { row := fnImageRow, standIns := [], harness := (true, "5482effc4a93f7f720de6ed8b17e663a93641348fb6d48b8c136d7cffcf0c7ab"), looks := false }, kinds := [], alts := [], laidByText := true, laidKinds := [.data, .data], laidTests := true, laidLooks := .later }
def FnImageCardSaid : Prop := Claim7.holds Tryd.pinned (.plain (OpenSpec.ofChange fnImageSpec)) fnImageCard

/-- THE SECOND FORM's CARD OF 'laws.FnExactDigest'. -/
def fnExactDigestUptoCard : Claim7 := { stood := { row := fnExactDigestUptoRow, standIns := [], harness := (true, "5482effc4a93f7f720de6ed8b17e663a93641348fb6d48b8c136d7cffcf0c7ab"), looks := false }, kinds := [], alts := [], laidByText := true, laidKinds := [.data, .data], laidTests := true, laidLooks := .later }
def FnExactDigestUptoCardSaid : Prop := Claim7.holds Tryd.pinned (.plain (OpenSpec.upto fnExactDigestSpec)) fnExactDigestUptoCard

/-- THE SECOND FORM's CARD OF 'laws.FnDigest'. -/
def fnDigestUptoCard : Claim7 := { stood := { row := fnDigestUptoRow, standIns := [], harness := (true, "5482effc4a93f7f720de6ed8b17e663a93641348fb6d48b8c136d7cffcf0c7ab"), looks := false }, kinds := [], alts := [], laidByText := true, laidKinds := [.data, .data], laidTests := true, laidLooks := .later }
def FnDigestUptoCardSaid : Prop := Claim7.holds Tryd.pinned (.plain (OpenSpec.upto fnDigestSpec)) fnDigestUptoCard

/-- THE SECOND FORM's CARD OF 'laws.FnExactImageDigest'. -/
def fnExactImageDigestUptoCard : Claim7 := { stood := { row := fnExactImageDigestUptoRow, standIns := [], harness := (true, "5482effc4a93f7f720de6ed8b17e663a93641348fb6d48b8c136d7cffcf0c7ab"), looks := false }, kinds := [], alts := [], laidByText := true, laidKinds := [.data, .data], laidTests := true, laidLooks := .later }
def FnExactImageDigestUptoCardSaid : Prop := Claim7.holds Tryd.pinned (.plain (OpenSpec.upto fnExactImageDigestSpec)) fnExactImageDigestUptoCard

/-- THE SECOND FORM's CARD OF 'laws.FnImage'. -/
def fnImageUptoCard : Claim7 := { stood := { row := fnImageUptoRow, standIns := [], harness := (true, "5482effc4a93f7f720de6ed8b17e663a93641348fb6d48b8c136d7cffcf0c7ab"), looks := false }, kinds := [], alts := [], laidByText := true, laidKinds := [.data, .data], laidTests := true, laidLooks := .later }
def FnImageUptoCardSaid : Prop := Claim7.holds Tryd.pinned (.plain (OpenSpec.upto fnImageSpec)) fnImageUptoCard
end Rows
end Go.Proofs.YtldhjbjbjoomcaaDoor
