/-
  DERIVED. GIVEN WITH THE SEED: THE CARDS: each row of YtpbhncgjnmaojaaDoorRows.lean that lists a variable, with what it lists TIED to the program's text (the seventh form; the later family's looks); each row that meets fmt, with fmt's text TOLD by the authors' own Lean function (tested against real Go, not proved from fmt's source: count such statements apart). THE CARD IS WHAT COUNTS. Prove the row's statement (the work); the ties are given (YtpbhncgjnmaojaaDoorTie.lean); close each card by the builder's one call (the guide's Derived/Test/ToyasCard.lean, 'card_holds'). Laid BY PROGRAM, IN A SANDBOX (cutbox-door.mjs). By AI agents, Wed Nov 11 2026. No macro, syntax, notation, axiom, sorry.
-/
import Derived.Test.YtpbhncgjnmaojaaDoorRows
import GoSem.ClaimSeven
namespace Go.Proofs.YtpbhncgjnmaojaaDoor
namespace Rows

/-- THE TIED CARD OF 'laws.FnExactLabelText'. -/
def fnExactLabelTextCard : Claim7 := { stood := { row := fnExactLabelTextRow, standIns := [], harness := (true, "0d71d11d957f7cbeb2f50100cea63352b594eb22b233d42cf1481ac78e1bcc0b"), looks := false }, kinds := [], alts := [], laidByText := true, laidKinds := [.data, .data, .data, .data, .pinned], laidTests := true, laidLooks := .later }
def FnExactLabelTextCardSaid : Prop := Claim7.holds Tryd.pinned (.plain (OpenSpec.ofChange fnExactLabelTextSpec)) fnExactLabelTextCard

/-- THE TIED CARD OF 'laws.FnExactDoCollide'. -/
def fnExactDoCollideCard : Claim7 := { stood := { row := fnExactDoCollideRow, standIns := [], harness := (true, "0d71d11d957f7cbeb2f50100cea63352b594eb22b233d42cf1481ac78e1bcc0b"), looks := false }, kinds := [], alts := [], laidByText := true, laidKinds := [.data, .data, .data, .data, .pinned], laidTests := true, laidLooks := .later }
def FnExactDoCollideCardSaid : Prop := Claim7.holds Tryd.pinned (.plain (OpenSpec.ofChange fnExactDoCollideSpec)) fnExactDoCollideCard

/-- THE TIED CARD OF 'laws.FnExactIsChoice'. -/
def fnExactIsChoiceCard : Claim7 := { stood := { row := fnExactIsChoiceRow, standIns := [], harness := (true, "0d71d11d957f7cbeb2f50100cea63352b594eb22b233d42cf1481ac78e1bcc0b"), looks := false }, kinds := [], alts := [], laidByText := true, laidKinds := [.data, .data, .data, .data, .pinned], laidTests := true, laidLooks := .later }
def FnExactIsChoiceCardSaid : Prop := Claim7.holds Tryd.pinned (.plain (OpenSpec.ofChange fnExactIsChoiceSpec)) fnExactIsChoiceCard

/-- THE TIED CARD OF 'laws.FnExactWorthOf'. -/
def fnExactWorthOfCard : Claim7 := { stood := { row := fnExactWorthOfRow, standIns := [], harness := (true, "0d71d11d957f7cbeb2f50100cea63352b594eb22b233d42cf1481ac78e1bcc0b"), looks := false }, kinds := [], alts := [], laidByText := true, laidKinds := [.data, .data, .data, .data, .pinned], laidTests := true, laidLooks := .later }
def FnExactWorthOfCardSaid : Prop := Claim7.holds Tryd.pinned (.plain (OpenSpec.ofChange fnExactWorthOfSpec)) fnExactWorthOfCard

/-- THE TIED CARD OF 'laws.FnExactIsProof'. -/
def fnExactIsProofCard : Claim7 := { stood := { row := fnExactIsProofRow, standIns := [], harness := (true, "0d71d11d957f7cbeb2f50100cea63352b594eb22b233d42cf1481ac78e1bcc0b"), looks := false }, kinds := [], alts := [], laidByText := true, laidKinds := [.data, .data, .data, .data, .pinned], laidTests := true, laidLooks := .later }
def FnExactIsProofCardSaid : Prop := Claim7.holds Tryd.pinned (.plain (OpenSpec.ofChange fnExactIsProofSpec)) fnExactIsProofCard

/-- THE TIED CARD OF 'laws.FnExactLabelProof'. -/
def fnExactLabelProofCard : Claim7 := { stood := { row := fnExactLabelProofRow, standIns := [], harness := (true, "0d71d11d957f7cbeb2f50100cea63352b594eb22b233d42cf1481ac78e1bcc0b"), looks := false }, kinds := [], alts := [], laidByText := true, laidKinds := [.data, .data, .data, .data, .pinned], laidTests := true, laidLooks := .later }
def FnExactLabelProofCardSaid : Prop := Claim7.holds Tryd.pinned (.plain (OpenSpec.ofChange fnExactLabelProofSpec)) fnExactLabelProofCard

/-- THE TIED CARD OF 'laws.FnProofs'. -/
def fnProofsCard : Claim7 := { stood := { row := fnProofsRow, standIns := [], harness := (true, "0d71d11d957f7cbeb2f50100cea63352b594eb22b233d42cf1481ac78e1bcc0b"), looks := false }, kinds := [], alts := [], laidByText := true, laidKinds := [.data, .data, .data, .data, .pinned], laidTests := true, laidLooks := .later }
def FnProofsCardSaid : Prop := Claim7.holds Tryd.pinned (.plain (OpenSpec.ofChange fnProofsSpec)) fnProofsCard

/-- THE TIED CARD OF 'laws.FnExactGreedyChoice'. -/
def fnExactGreedyChoiceCard : Claim7 := { stood := { row := fnExactGreedyChoiceRow, standIns := [], harness := (true, "0d71d11d957f7cbeb2f50100cea63352b594eb22b233d42cf1481ac78e1bcc0b"), looks := false }, kinds := [], alts := [], laidByText := true, laidKinds := [.data, .data, .data, .data, .pinned], laidTests := true, laidLooks := .later }
def FnExactGreedyChoiceCardSaid : Prop := Claim7.holds Tryd.pinned (.plain (OpenSpec.ofChange fnExactGreedyChoiceSpec)) fnExactGreedyChoiceCard

/-- THE TIED CARD OF 'laws.FnExactBestChoice'. -/
def fnExactBestChoiceCard : Claim7 := { stood := { row := fnExactBestChoiceRow, standIns := [], harness := (true, "0d71d11d957f7cbeb2f50100cea63352b594eb22b233d42cf1481ac78e1bcc0b"), looks := false }, kinds := [], alts := [], laidByText := true, laidKinds := [.data, .data, .data, .data, .pinned], laidTests := true, laidLooks := .later }
def FnExactBestChoiceCardSaid : Prop := Claim7.holds Tryd.pinned (.plain (OpenSpec.ofChange fnExactBestChoiceSpec)) fnExactBestChoiceCard

/-- THE SECOND FORM's CARD OF 'laws.FnExactLabelText'. -/
def fnExactLabelTextUptoCard : Claim7 := { stood := { row := fnExactLabelTextUptoRow, standIns := [], harness := (true, "0d71d11d957f7cbeb2f50100cea63352b594eb22b233d42cf1481ac78e1bcc0b"), looks := false }, kinds := [], alts := [], laidByText := true, laidKinds := [.data, .data, .data, .data, .pinned], laidTests := true, laidLooks := .later }
def FnExactLabelTextUptoCardSaid : Prop := Claim7.holds Tryd.pinned (.plain (OpenSpec.upto fnExactLabelTextSpec)) fnExactLabelTextUptoCard

/-- THE SECOND FORM's CARD OF 'laws.FnExactDoCollide'. -/
def fnExactDoCollideUptoCard : Claim7 := { stood := { row := fnExactDoCollideUptoRow, standIns := [], harness := (true, "0d71d11d957f7cbeb2f50100cea63352b594eb22b233d42cf1481ac78e1bcc0b"), looks := false }, kinds := [], alts := [], laidByText := true, laidKinds := [.data, .data, .data, .data, .pinned], laidTests := true, laidLooks := .later }
def FnExactDoCollideUptoCardSaid : Prop := Claim7.holds Tryd.pinned (.plain (OpenSpec.upto fnExactDoCollideSpec)) fnExactDoCollideUptoCard

/-- THE SECOND FORM's CARD OF 'laws.FnExactIsChoice'. -/
def fnExactIsChoiceUptoCard : Claim7 := { stood := { row := fnExactIsChoiceUptoRow, standIns := [], harness := (true, "0d71d11d957f7cbeb2f50100cea63352b594eb22b233d42cf1481ac78e1bcc0b"), looks := false }, kinds := [], alts := [], laidByText := true, laidKinds := [.data, .data, .data, .data, .pinned], laidTests := true, laidLooks := .later }
def FnExactIsChoiceUptoCardSaid : Prop := Claim7.holds Tryd.pinned (.plain (OpenSpec.upto fnExactIsChoiceSpec)) fnExactIsChoiceUptoCard

/-- THE SECOND FORM's CARD OF 'laws.FnExactWorthOf'. -/
def fnExactWorthOfUptoCard : Claim7 := { stood := { row := fnExactWorthOfUptoRow, standIns := [], harness := (true, "0d71d11d957f7cbeb2f50100cea63352b594eb22b233d42cf1481ac78e1bcc0b"), looks := false }, kinds := [], alts := [], laidByText := true, laidKinds := [.data, .data, .data, .data, .pinned], laidTests := true, laidLooks := .later }
def FnExactWorthOfUptoCardSaid : Prop := Claim7.holds Tryd.pinned (.plain (OpenSpec.upto fnExactWorthOfSpec)) fnExactWorthOfUptoCard

/-- THE SECOND FORM's CARD OF 'laws.FnExactIsProof'. -/
def fnExactIsProofUptoCard : Claim7 := { stood := { row := fnExactIsProofUptoRow, standIns := [], harness := (true, "0d71d11d957f7cbeb2f50100cea63352b594eb22b233d42cf1481ac78e1bcc0b"), looks := false }, kinds := [], alts := [], laidByText := true, laidKinds := [.data, .data, .data, .data, .pinned], laidTests := true, laidLooks := .later }
def FnExactIsProofUptoCardSaid : Prop := Claim7.holds Tryd.pinned (.plain (OpenSpec.upto fnExactIsProofSpec)) fnExactIsProofUptoCard

/-- THE SECOND FORM's CARD OF 'laws.FnExactLabelProof'. -/
def fnExactLabelProofUptoCard : Claim7 := { stood := { row := fnExactLabelProofUptoRow, standIns := [], harness := (true, "0d71d11d957f7cbeb2f50100cea63352b594eb22b233d42cf1481ac78e1bcc0b"), looks := false }, kinds := [], alts := [], laidByText := true, laidKinds := [.data, .data, .data, .data, .pinned], laidTests := true, laidLooks := .later }
def FnExactLabelProofUptoCardSaid : Prop := Claim7.holds Tryd.pinned (.plain (OpenSpec.upto fnExactLabelProofSpec)) fnExactLabelProofUptoCard

/-- THE SECOND FORM's CARD OF 'laws.FnProofs'. -/
def fnProofsUptoCard : Claim7 := { stood := { row := fnProofsUptoRow, standIns := [], harness := (true, "0d71d11d957f7cbeb2f50100cea63352b594eb22b233d42cf1481ac78e1bcc0b"), looks := false }, kinds := [], alts := [], laidByText := true, laidKinds := [.data, .data, .data, .data, .pinned], laidTests := true, laidLooks := .later }
def FnProofsUptoCardSaid : Prop := Claim7.holds Tryd.pinned (.plain (OpenSpec.upto fnProofsSpec)) fnProofsUptoCard

/-- THE SECOND FORM's CARD OF 'laws.FnExactGreedyChoice'. -/
def fnExactGreedyChoiceUptoCard : Claim7 := { stood := { row := fnExactGreedyChoiceUptoRow, standIns := [], harness := (true, "0d71d11d957f7cbeb2f50100cea63352b594eb22b233d42cf1481ac78e1bcc0b"), looks := false }, kinds := [], alts := [], laidByText := true, laidKinds := [.data, .data, .data, .data, .pinned], laidTests := true, laidLooks := .later }
def FnExactGreedyChoiceUptoCardSaid : Prop := Claim7.holds Tryd.pinned (.plain (OpenSpec.upto fnExactGreedyChoiceSpec)) fnExactGreedyChoiceUptoCard

/-- THE SECOND FORM's CARD OF 'laws.FnExactBestChoice'. -/
def fnExactBestChoiceUptoCard : Claim7 := { stood := { row := fnExactBestChoiceUptoRow, standIns := [], harness := (true, "0d71d11d957f7cbeb2f50100cea63352b594eb22b233d42cf1481ac78e1bcc0b"), looks := false }, kinds := [], alts := [], laidByText := true, laidKinds := [.data, .data, .data, .data, .pinned], laidTests := true, laidLooks := .later }
def FnExactBestChoiceUptoCardSaid : Prop := Claim7.holds Tryd.pinned (.plain (OpenSpec.upto fnExactBestChoiceSpec)) fnExactBestChoiceUptoCard
end Rows
end Go.Proofs.YtpbhncgjnmaojaaDoor
