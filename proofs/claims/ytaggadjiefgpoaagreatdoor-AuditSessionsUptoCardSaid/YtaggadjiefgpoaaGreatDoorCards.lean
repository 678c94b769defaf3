/-
  DERIVED. GIVEN WITH THE SEED: THE CARDS: each row of YtaggadjiefgpoaaGreatDoorRows.lean that lists a variable, with what it lists TIED to the program's text (the seventh form; the later family's looks); each row that meets fmt, with fmt's text TOLD by the authors' own Lean function (tested against real Go, not proved from fmt's source: count such statements apart). THE CARD IS WHAT COUNTS. Prove the row's statement (the work); the ties are given (YtaggadjiefgpoaaGreatDoorTie.lean); close each card by the builder's one call (the guide's Derived/Test/ToyasCard.lean, 'card_holds'). Laid BY PROGRAM, IN A SANDBOX (cutbox-door.mjs). By AI agents, Wed Nov 11 2026. No macro, syntax, notation, axiom, sorry.
-/
import Derived.Test.YtaggadjiefgpoaaGreatDoorRows
import GoSem.ClaimSeven
namespace Go.Proofs.YtaggadjiefgpoaaGreatDoor
namespace Rows

/-- THE TIED CARD OF 'effigylaw24.AuditCollections'. -/
def auditCollectionsCard : Claim7 := { stood := { row := auditCollectionsRow, standIns := [], harness := (true, "7ca29abcf5adfc48c5b1ad8331aa62d4dd7be4f31fe07d6c6917f9435eec6876"), looks := false }, kinds := [], alts := [], laidByText := true, laidKinds := [.data], laidTests := true, laidLooks := .later }
def AuditCollectionsCardSaid : Prop := Claim7.holds Tryz.pinned (.plain (OpenSpec.ofChange auditCollectionsSpec)) auditCollectionsCard

/-- THE TIED CARD OF 'effigylaw24.AuditHandles'. -/
def auditHandlesCard : Claim7 := { stood := { row := auditHandlesRow, standIns := [], harness := (true, "7ca29abcf5adfc48c5b1ad8331aa62d4dd7be4f31fe07d6c6917f9435eec6876"), looks := false }, kinds := [], alts := [], laidByText := true, laidKinds := [.data], laidTests := true, laidLooks := .later }
def AuditHandlesCardSaid : Prop := Claim7.holds Tryz.pinned (.plain (OpenSpec.ofChange auditHandlesSpec)) auditHandlesCard

/-- THE TIED CARD OF 'effigylaw24.AuditSlides'. -/
def auditSlidesCard : Claim7 := { stood := { row := auditSlidesRow, standIns := [], harness := (true, "7ca29abcf5adfc48c5b1ad8331aa62d4dd7be4f31fe07d6c6917f9435eec6876"), looks := false }, kinds := [], alts := [], laidByText := true, laidKinds := [.data], laidTests := true, laidLooks := .later }
def AuditSlidesCardSaid : Prop := Claim7.holds Tryz.pinned (.plain (OpenSpec.ofChange auditSlidesSpec)) auditSlidesCard

/-- THE TIED CARD OF 'effigylaw24.AuditTables'. -/
def auditTablesCard : Claim7 := { stood := { row := auditTablesRow, standIns := [], harness := (true, "7ca29abcf5adfc48c5b1ad8331aa62d4dd7be4f31fe07d6c6917f9435eec6876"), looks := false }, kinds := [], alts := [], laidByText := true, laidKinds := [.data], laidTests := true, laidLooks := .later }
def AuditTablesCardSaid : Prop := Claim7.holds Tryz.pinned (.plain (OpenSpec.ofChange auditTablesSpec)) auditTablesCard

/-- THE TIED CARD OF 'effigylaw24.AuditSessions'. -/
def auditSessionsCard : Claim7 := { stood := { row := auditSessionsRow, standIns := [], harness := (true, "7ca29abcf5adfc48c5b1ad8331aa62d4dd7be4f31fe07d6c6917f9435eec6876"), looks := false }, kinds := [], alts := [], laidByText := true, laidKinds := [.data], laidTests := true, laidLooks := .later }
def AuditSessionsCardSaid : Prop := Claim7.holds Tryz.pinned (.plain (OpenSpec.ofChange auditSessionsSpec)) auditSessionsCard

/-- THE SECOND FORM's CARD OF 'effigylaw24.AuditCollections'. -/
def auditCollectionsUptoCard : Claim7 := { stood := { row := auditCollectionsUptoRow, standIns := [], harness := (true, "7ca29abcf5adfc48c5b1ad8331aa62d4dd7be4f31fe07d6c6917f9435eec6876"), looks := false }, kinds := [], alts := [], laidByText := true, laidKinds := [.data], laidTests := true, laidLooks := .later }
def AuditCollectionsUptoCardSaid : Prop := Claim7.holds Tryz.pinned (.plain (OpenSpec.upto auditCollectionsSpec)) auditCollectionsUptoCard

/-- THE SECOND FORM's CARD OF 'effigylaw24.AuditHandles'. -/
def auditHandlesUptoCard : Claim7 := { stood := { row := auditHandlesUptoRow, standIns := [], harness := (true, "7ca29abcf5adfc48c5b1ad8331aa62d4dd7be4f31fe07d6c6917f9435eec6876"), looks := false }, kinds := [], alts := [], laidByText := true, laidKinds := [.data], laidTests := true, laidLooks := .later }
def AuditHandlesUptoCardSaid : Prop := Claim7.holds Tryz.pinned (.plain (OpenSpec.upto auditHandlesSpec)) auditHandlesUptoCard

/-- THE SECOND FORM's CARD OF 'effigylaw24.AuditSlides'. -/
def auditSlidesUptoCard : Claim7 := { stood := { row := auditSlidesUptoRow, standIns := [], harness := (true, "7ca29abcf5adfc48c5b1ad8331aa62d4dd7be4f31fe07d6c6917f9435eec6876"), looks := false }, kinds := [], alts := [], laidByText := true, laidKinds := [.data], laidTests := true, laidLooks := .later }
def AuditSlidesUptoCardSaid : Prop := Claim7.holds Tryz.pinned (.plain (OpenSpec.upto auditSlidesSpec)) auditSlidesUptoCard

/-- THE SECOND FORM's CARD OF 'effigylaw24.AuditTables'. -/
def auditTablesUptoCard : Claim7 := { stood := { row := auditTablesUptoRow, standIns := [], harness := (true, "7ca29abcf5adfc48c5b1ad8331aa62d4dd7be4f31fe07d6c6917f9435eec6876"), looks := false }, kinds := [], alts := [], laidByText := true, laidKinds := [.data], laidTests := true, laidLooks := .later }
def AuditTablesUptoCardSaid : Prop := Claim7.holds Tryz.pinned (.plain (OpenSpec.upto auditTablesSpec)) auditTablesUptoCard

/-- THE SECOND FORM's CARD OF 'effigylaw24.AuditSessions'. -/
def auditSessionsUptoCard : Claim7 := { stood := { row := auditSessionsUptoRow, standIns := [], harness := (true, "7ca29abcf5adfc48c5b1ad8331aa62d4dd7be4f31fe07d6c6917f9435eec6876"), looks := false }, kinds := [], alts := [], laidByText := true, laidKinds := [.data], laidTests := true, laidLooks := .later }
def AuditSessionsUptoCardSaid : Prop := Claim7.holds Tryz.pinned (.plain (OpenSpec.upto auditSessionsSpec)) auditSessionsUptoCard
end Rows
end Go.Proofs.YtaggadjiefgpoaaGreatDoor
