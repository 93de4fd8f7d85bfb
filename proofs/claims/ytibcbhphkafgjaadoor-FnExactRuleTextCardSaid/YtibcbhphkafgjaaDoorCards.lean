/-
  DERIVED. GIVEN WITH THE SEED: THE CARDS: each row of YtibcbhphkafgjaaDoorRows.lean that lists a variable, with what it lists TIED to the program's text (the seventh form; the later family's looks); each row that meets fmt, with fmt's text TOLD by the authors' own Lean function (tested against real Go, not proved from fmt's source: count such statements apart). THE CARD IS WHAT COUNTS. Prove the row's statement (the work); the ties are given (YtibcbhphkafgjaaDoorTie.lean); close each card by the builder's one call (the guide's Derived/Test/ToyasCard.lean, 'card_holds'). Laid BY PROGRAM, IN A SANDBOX (cutbox-door.mjs). By AI agents, Wed Nov 11 2026. No macro, syntax, notation, axiom, sorry.
-/
import Derived.Test.YtibcbhphkafgjaaDoorRows
import GoSem.ClaimSeven
namespace Go.Proofs.YtibcbhphkafgjaaDoor
namespace Rows

/-- THE TIED CARD OF 'laws.FnExactGraduationText'. -/
def fnExactGraduationTextCard : Claim7 := { stood := { row := fnExactGraduationTextRow, standIns := [], harness := (true, "da4db1d02ee69e18595d4b21d3bbda77e65c3d8d99ebc3b53fdcdeb874c0fb2c"), looks := true }, kinds := [], alts := [], laidByText := true, laidKinds := [.data, .data, .data], laidTests := true, laidLooks := .later }
def FnExactGraduationTextCardSaid : Prop := Claim7.holds Tryd.pinned (.plain (OpenSpec.ofChange fnExactGraduationTextSpec)) fnExactGraduationTextCard

/-- THE TIED CARD OF 'laws.FnExactRuleText'. -/
def fnExactRuleTextCard : Claim7 := { stood := { row := fnExactRuleTextRow, standIns := [], harness := (true, "da4db1d02ee69e18595d4b21d3bbda77e65c3d8d99ebc3b53fdcdeb874c0fb2c"), looks := true }, kinds := [], alts := [], laidByText := true, laidKinds := [.data, .data, .data], laidTests := true, laidLooks := .later }
def FnExactRuleTextCardSaid : Prop := Claim7.holds Tryd.pinned (.plain (OpenSpec.ofChange fnExactRuleTextSpec)) fnExactRuleTextCard

/-- THE TIED CARD OF 'laws.FnExactReadGraduation'. -/
def fnExactReadGraduationCard : Claim7 := { stood := { row := fnExactReadGraduationRow, standIns := [], harness := (true, "da4db1d02ee69e18595d4b21d3bbda77e65c3d8d99ebc3b53fdcdeb874c0fb2c"), looks := true }, kinds := [], alts := [], laidByText := true, laidKinds := [.data, .data, .data, .data, .sentinel, .sentinel, .pinned], laidTests := true, laidLooks := .later }
def FnExactReadGraduationCardSaid : Prop := Claim7.holds Tryd.pinned (.plain (OpenSpec.ofChange fnExactReadGraduationSpec)) fnExactReadGraduationCard

/-- THE TIED CARD OF 'laws.FnGraduationTexts'. -/
def fnGraduationTextsCard : Claim7 := { stood := { row := fnGraduationTextsRow, standIns := [], harness := (true, "da4db1d02ee69e18595d4b21d3bbda77e65c3d8d99ebc3b53fdcdeb874c0fb2c"), looks := true }, kinds := [], alts := [], laidByText := true, laidKinds := [.data, .data, .data, .data, .sentinel, .sentinel, .pinned], laidTests := true, laidLooks := .later }
def FnGraduationTextsCardSaid : Prop := Claim7.holds Tryd.pinned (.plain (OpenSpec.ofChange fnGraduationTextsSpec)) fnGraduationTextsCard

/-- THE SECOND FORM's CARD OF 'laws.FnExactGraduationText'. -/
def fnExactGraduationTextUptoCard : Claim7 := { stood := { row := fnExactGraduationTextUptoRow, standIns := [], harness := (true, "da4db1d02ee69e18595d4b21d3bbda77e65c3d8d99ebc3b53fdcdeb874c0fb2c"), looks := true }, kinds := [], alts := [], laidByText := true, laidKinds := [.data, .data, .data], laidTests := true, laidLooks := .later }
def FnExactGraduationTextUptoCardSaid : Prop := Claim7.holds Tryd.pinned (.plain (OpenSpec.upto fnExactGraduationTextSpec)) fnExactGraduationTextUptoCard

/-- THE SECOND FORM's CARD OF 'laws.FnExactRuleText'. -/
def fnExactRuleTextUptoCard : Claim7 := { stood := { row := fnExactRuleTextUptoRow, standIns := [], harness := (true, "da4db1d02ee69e18595d4b21d3bbda77e65c3d8d99ebc3b53fdcdeb874c0fb2c"), looks := true }, kinds := [], alts := [], laidByText := true, laidKinds := [.data, .data, .data], laidTests := true, laidLooks := .later }
def FnExactRuleTextUptoCardSaid : Prop := Claim7.holds Tryd.pinned (.plain (OpenSpec.upto fnExactRuleTextSpec)) fnExactRuleTextUptoCard

/-- THE SECOND FORM's CARD OF 'laws.FnExactReadGraduation'. -/
def fnExactReadGraduationUptoCard : Claim7 := { stood := { row := fnExactReadGraduationUptoRow, standIns := [], harness := (true, "da4db1d02ee69e18595d4b21d3bbda77e65c3d8d99ebc3b53fdcdeb874c0fb2c"), looks := true }, kinds := [], alts := [], laidByText := true, laidKinds := [.data, .data, .data, .data, .sentinel, .sentinel, .pinned], laidTests := true, laidLooks := .later }
def FnExactReadGraduationUptoCardSaid : Prop := Claim7.holds Tryd.pinned (.plain (OpenSpec.upto fnExactReadGraduationSpec)) fnExactReadGraduationUptoCard

/-- THE SECOND FORM's CARD OF 'laws.FnGraduationTexts'. -/
def fnGraduationTextsUptoCard : Claim7 := { stood := { row := fnGraduationTextsUptoRow, standIns := [], harness := (true, "da4db1d02ee69e18595d4b21d3bbda77e65c3d8d99ebc3b53fdcdeb874c0fb2c"), looks := true }, kinds := [], alts := [], laidByText := true, laidKinds := [.data, .data, .data, .data, .sentinel, .sentinel, .pinned], laidTests := true, laidLooks := .later }
def FnGraduationTextsUptoCardSaid : Prop := Claim7.holds Tryd.pinned (.plain (OpenSpec.upto fnGraduationTextsSpec)) fnGraduationTextsUptoCard
end Rows
end Go.Proofs.YtibcbhphkafgjaaDoor
