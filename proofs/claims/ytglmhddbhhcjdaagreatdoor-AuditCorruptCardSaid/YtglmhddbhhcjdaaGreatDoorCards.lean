/-
  DERIVED. GIVEN WITH THE SEED: THE CARDS: each row of YtglmhddbhhcjdaaGreatDoorRows.lean that lists a variable, with what it lists TIED to the program's text (the seventh form; the later family's looks); each row that meets fmt, with fmt's text TOLD by the authors' own Lean function (tested against real Go, not proved from fmt's source: count such statements apart). THE CARD IS WHAT COUNTS. Prove the row's statement (the work); the ties are given (YtglmhddbhhcjdaaGreatDoorTie.lean); close each card by the builder's one call (the guide's Derived/Test/ToyasCard.lean, 'card_holds'). Laid BY PROGRAM, IN A SANDBOX (cutbox-door.mjs). By AI agents, Wed Nov 11 2026. No macro, syntax, notation, axiom, sorry.
-/
import Derived.Test.YtglmhddbhhcjdaaGreatDoorRows
import GoSem.ClaimSeven
namespace Go.Proofs.YtglmhddbhhcjdaaGreatDoor
namespace Rows

/-- THE TIED CARD OF 'sedimentlaw27.AuditLike'. -/
def auditLikeCard : Claim7 := { stood := { row := auditLikeRow, standIns := [], harness := (true, "69fea35637c4f51e815e420dd7a405bb9ac4ee8b3f5b8a44f49cb77cc3d91c7f"), looks := true }, kinds := [], alts := [], laidByText := true, laidKinds := [.data, .data, .data, .data, .pinned], laidTests := true, laidLooks := .later }
def AuditLikeCardSaid : Prop := Claim7.holds Tryz.pinned (.plain (OpenSpec.ofChange auditLikeSpec)) auditLikeCard

/-- THE TIED CARD OF 'sedimentlaw27.AuditCorrupt'. -/
def auditCorruptCard : Claim7 := { stood := { row := auditCorruptRow, standIns := [], harness := (true, "69fea35637c4f51e815e420dd7a405bb9ac4ee8b3f5b8a44f49cb77cc3d91c7f"), looks := true }, kinds := [], alts := [], laidByText := true, laidKinds := [.data, .data, .data, .data, .pinned], laidTests := true, laidLooks := .later }
def AuditCorruptCardSaid : Prop := Claim7.holds Tryz.pinned (.plain (OpenSpec.ofChange auditCorruptSpec)) auditCorruptCard

/-- THE TIED CARD OF 'sedimentlaw27.AuditFresh'. -/
def auditFreshCard : Claim7 := { stood := { row := auditFreshRow, standIns := [], harness := (true, "69fea35637c4f51e815e420dd7a405bb9ac4ee8b3f5b8a44f49cb77cc3d91c7f"), looks := true }, kinds := [], alts := [], laidByText := true, laidKinds := [.data, .data, .data, .data, .pinned], laidTests := true, laidLooks := .later }
def AuditFreshCardSaid : Prop := Claim7.holds Tryz.pinned (.plain (OpenSpec.ofChange auditFreshSpec)) auditFreshCard

/-- THE TIED CARD OF 'sedimentlaw27.AuditCounts'. -/
def auditCountsCard : Claim7 := { stood := { row := auditCountsRow, standIns := [], harness := (true, "69fea35637c4f51e815e420dd7a405bb9ac4ee8b3f5b8a44f49cb77cc3d91c7f"), looks := true }, kinds := [], alts := [], laidByText := true, laidKinds := [.data, .data, .data, .data, .pinned], laidTests := true, laidLooks := .later }
def AuditCountsCardSaid : Prop := Claim7.holds Tryz.pinned (.plain (OpenSpec.ofChange auditCountsSpec)) auditCountsCard

/-- THE SECOND FORM's CARD OF 'sedimentlaw27.AuditLike'. -/
def auditLikeUptoCard : Claim7 := { stood := { row := auditLikeUptoRow, standIns := [], harness := (true, "69fea35637c4f51e815e420dd7a405bb9ac4ee8b3f5b8a44f49cb77cc3d91c7f"), looks := true }, kinds := [], alts := [], laidByText := true, laidKinds := [.data, .data, .data, .data, .pinned], laidTests := true, laidLooks := .later }
def AuditLikeUptoCardSaid : Prop := Claim7.holds Tryz.pinned (.plain (OpenSpec.upto auditLikeSpec)) auditLikeUptoCard

/-- THE SECOND FORM's CARD OF 'sedimentlaw27.AuditCorrupt'. -/
def auditCorruptUptoCard : Claim7 := { stood := { row := auditCorruptUptoRow, standIns := [], harness := (true, "69fea35637c4f51e815e420dd7a405bb9ac4ee8b3f5b8a44f49cb77cc3d91c7f"), looks := true }, kinds := [], alts := [], laidByText := true, laidKinds := [.data, .data, .data, .data, .pinned], laidTests := true, laidLooks := .later }
def AuditCorruptUptoCardSaid : Prop := Claim7.holds Tryz.pinned (.plain (OpenSpec.upto auditCorruptSpec)) auditCorruptUptoCard

/-- THE SECOND FORM's CARD OF 'sedimentlaw27.AuditFresh'. -/
def auditFreshUptoCard : Claim7 := { stood := { row := auditFreshUptoRow, standIns := [], harness := (true, "69fea35637c4f51e815e420dd7a405bb9ac4ee8b3f5b8a44f49cb77cc3d91c7f"), looks := true }, kinds := [], alts := [], laidByText := true, laidKinds := [.data, .data, .data, .data, .pinned], laidTests := true, laidLooks := .later }
def AuditFreshUptoCardSaid : Prop := Claim7.holds Tryz.pinned (.plain (OpenSpec.upto auditFreshSpec)) auditFreshUptoCard

/-- THE SECOND FORM's CARD OF 'sedimentlaw27.AuditCounts'. -/
def auditCountsUptoCard : Claim7 := { stood := { row := auditCountsUptoRow, standIns := [], harness := (true, "69fea35637c4f51e815e420dd7a405bb9ac4ee8b3f5b8a44f49cb77cc3d91c7f"), looks := true }, kinds := [], alts := [], laidByText := true, laidKinds := [.data, .data, .data, .data, .pinned], laidTests := true, laidLooks := .later }
def AuditCountsUptoCardSaid : Prop := Claim7.holds Tryz.pinned (.plain (OpenSpec.upto auditCountsSpec)) auditCountsUptoCard
end Rows
end Go.Proofs.YtglmhddbhhcjdaaGreatDoor
