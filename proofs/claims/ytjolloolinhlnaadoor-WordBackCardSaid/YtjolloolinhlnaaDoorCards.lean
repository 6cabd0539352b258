/-
  DERIVED. GIVEN WITH THE SEED: THE CARDS: each row of YtjolloolinhlnaaDoorRows.lean that lists a variable, with what it lists TIED to the program's text (the seventh form; the later family's looks); each row that meets fmt, with fmt's text TOLD by the authors' own Lean function (tested against real Go, not proved from fmt's source: count such statements apart). THE CARD IS WHAT COUNTS. Prove the row's statement (the work); the ties are given (YtjolloolinhlnaaDoorTie.lean); close each card by the builder's one call (the guide's Derived/Test/ToyasCard.lean, 'card_holds'). Laid BY PROGRAM, IN A SANDBOX (cutbox-door.mjs). By AI agents, Wed Nov 11 2026. No macro, syntax, notation, axiom, sorry.
-/
import Derived.Test.YtjolloolinhlnaaDoorRows
import GoSem.ClaimSeven
namespace Go.Proofs.YtjolloolinhlnaaDoor
namespace Rows

/-- THE TIED CARD OF 'sedimentlaw7.WordCuts'. -/
def wordCutsCard : Claim7 := { stood := { row := wordCutsRow, standIns := [], harness := (true, "893d14623d6ac2d324bdc53012afaa3c98ede85672be43c6cb96f67271494e53"), looks := false }, kinds := [], alts := [], laidByText := true, laidKinds := [.data, .pinned], laidTests := true, laidLooks := .later }
def WordCutsCardSaid : Prop := Claim7.holds Tryd.pinned (.plain (OpenSpec.ofChange wordCutsSpec)) wordCutsCard

/-- THE TIED CARD OF 'sedimentlaw7.WordFails'. -/
def wordFailsCard : Claim7 := { stood := { row := wordFailsRow, standIns := [], harness := (true, "893d14623d6ac2d324bdc53012afaa3c98ede85672be43c6cb96f67271494e53"), looks := false }, kinds := [], alts := [], laidByText := true, laidKinds := [.data, .pinned], laidTests := true, laidLooks := .later }
def WordFailsCardSaid : Prop := Claim7.holds Tryd.pinned (.plain (OpenSpec.ofChange wordFailsSpec)) wordFailsCard

/-- THE TIED CARD OF 'sedimentlaw7.WordIs'. -/
def wordIsCard : Claim7 := { stood := { row := wordIsRow, standIns := [], harness := (true, "893d14623d6ac2d324bdc53012afaa3c98ede85672be43c6cb96f67271494e53"), looks := false }, kinds := [], alts := [], laidByText := true, laidKinds := [.data, .pinned], laidTests := true, laidLooks := .later }
def WordIsCardSaid : Prop := Claim7.holds Tryd.pinned (.plain (OpenSpec.ofChange wordIsSpec)) wordIsCard

/-- THE TIED CARD OF 'sedimentlaw7.WordBack'. -/
def wordBackCard : Claim7 := { stood := { row := wordBackRow, standIns := [], harness := (true, "893d14623d6ac2d324bdc53012afaa3c98ede85672be43c6cb96f67271494e53"), looks := false }, kinds := [], alts := [], laidByText := true, laidKinds := [.data, .pinned], laidTests := true, laidLooks := .later }
def WordBackCardSaid : Prop := Claim7.holds Tryd.pinned (.plain (OpenSpec.ofChange wordBackSpec)) wordBackCard

/-- THE SECOND FORM's CARD OF 'sedimentlaw7.WordCuts'. -/
def wordCutsUptoCard : Claim7 := { stood := { row := wordCutsUptoRow, standIns := [], harness := (true, "893d14623d6ac2d324bdc53012afaa3c98ede85672be43c6cb96f67271494e53"), looks := false }, kinds := [], alts := [], laidByText := true, laidKinds := [.data, .pinned], laidTests := true, laidLooks := .later }
def WordCutsUptoCardSaid : Prop := Claim7.holds Tryd.pinned (.plain (OpenSpec.upto wordCutsSpec)) wordCutsUptoCard

/-- THE SECOND FORM's CARD OF 'sedimentlaw7.WordFails'. -/
def wordFailsUptoCard : Claim7 := { stood := { row := wordFailsUptoRow, standIns := [], harness := (true, "893d14623d6ac2d324bdc53012afaa3c98ede85672be43c6cb96f67271494e53"), looks := false }, kinds := [], alts := [], laidByText := true, laidKinds := [.data, .pinned], laidTests := true, laidLooks := .later }
def WordFailsUptoCardSaid : Prop := Claim7.holds Tryd.pinned (.plain (OpenSpec.upto wordFailsSpec)) wordFailsUptoCard

/-- THE SECOND FORM's CARD OF 'sedimentlaw7.WordIs'. -/
def wordIsUptoCard : Claim7 := { stood := { row := wordIsUptoRow, standIns := [], harness := (true, "893d14623d6ac2d324bdc53012afaa3c98ede85672be43c6cb96f67271494e53"), looks := false }, kinds := [], alts := [], laidByText := true, laidKinds := [.data, .pinned], laidTests := true, laidLooks := .later }
def WordIsUptoCardSaid : Prop := Claim7.holds Tryd.pinned (.plain (OpenSpec.upto wordIsSpec)) wordIsUptoCard

/-- THE SECOND FORM's CARD OF 'sedimentlaw7.WordBack'. -/
def wordBackUptoCard : Claim7 := { stood := { row := wordBackUptoRow, standIns := [], harness := (true, "893d14623d6ac2d324bdc53012afaa3c98ede85672be43c6cb96f67271494e53"), looks := false }, kinds := [], alts := [], laidByText := true, laidKinds := [.data, .pinned], laidTests := true, laidLooks := .later }
def WordBackUptoCardSaid : Prop := Claim7.holds Tryd.pinned (.plain (OpenSpec.upto wordBackSpec)) wordBackUptoCard
end Rows
end Go.Proofs.YtjolloolinhlnaaDoor
