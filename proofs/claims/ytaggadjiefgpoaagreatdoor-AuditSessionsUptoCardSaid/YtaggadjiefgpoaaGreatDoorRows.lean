/-
  NARROWER THAN 'FOR EVERY INPUT', by the rows' own cells (each row's printed sentence says how): AuditCollections: laid · AuditHandles: laid · AuditSlides: laid · AuditTables: laid · AuditSessions: laid.
  DERIVED. THE GIVEN ROWS OF THIS SEAT. 5 by the template 'for every input the law returns true; each argument reads behind the call as it read before'; 0 by the template 'total and deterministic' (their statements: YtaggadjiefgpoaaGreatDoorTotals.lean).
  GIVEN WITH THE SEED: the statements are not yours to turn. If you find one false, say at which input.
  Laid BY PROGRAM, IN A SANDBOX (cutbox-rows.mjs): the forced cells as the released guide's own fill.sh prints them over the translation 7c10c1b771bf5808… (all of the seat's roots in one cut). By AI agents, Wed Nov 11 2026. No macro, syntax, notation, axiom, sorry.
-/
import Derived.Test.YtaggadjiefgpoaaGreatDoorChecked
import GoSem.Claim
import GoSem.ClaimJoined
import GoSem.ClaimMapViews
import Derived.JoinedTies
import Derived.KernelRfl
namespace Go.Proofs.YtaggadjiefgpoaaGreatDoor
/- THE CELL 'sum', in the pinned program and in every row, IS THE sha256 OF THE DUMP (.gsa) THAT YtaggadjiefgpoaaGreatDoorProg.lean LOADS. Nothing in Lean hashes anything: it is a label: what it is worth is what the hold of that sum in a sandbox is worth. -/
noncomputable def Tryz.pinned : Pinned := { name := "ytaggadjiefgpoaagreatdoor", sum := "7c10c1b771bf58080592e9b2c26a47bd5e8d707b845acfe6374216d308e6900c", checked := Tryz.checked }
namespace Rows
def none {H : Type} : Left H := { results := [], args := [] }

/- WHAT THE LISTED PACKAGE-LEVEL VARIABLES READ AS WHEN THE CALL BEGINS. Each datum BY PROGRAM (the guide's laid-datum.mjs) off the statement by which the dump's own 'gosem.cut.vars' lays the variable. In a bare row this is a premise. The card (YtaggadjiefgpoaaGreatDoorCards.lean) ties it to the program's text. -/
def laid_effigy_oop_spares {H : Type} : DataW H := .agg [.lit (.bool false), .lit (.bool false), .lit (.bool true), .lit (.bool false), .lit (.bool false)]

/-- 'effigylaw24.AuditCollections': WHATEVER THE INPUT: true; the input reads as it did. -/
def auditCollectionsSpec : ChangeSpec := { name := "auditCollections", fn := fun _ => fun
  | [d1, d2, d3, d4, d5] => { results := [.lit (.bool true)], args := [d1, d2, d3, d4, d5] }
  | _ => none }
def auditCollectionsRow : OpenClaim := { program := "ytaggadjiefgpoaagreatdoor", sum := "7c10c1b771bf58080592e9b2c26a47bd5e8d707b845acfe6374216d308e6900c", func := "effigy/effigylaw24.AuditCollections", spec := "auditCollections", unfollowed := true, recurses := true, named := ["effigy/oop.spares"], apart := false, laid := [("effigy/oop.spares", laid_effigy_oop_spares)] }
def AuditCollectionsSaid : Prop := auditCollectionsRow.holds Tryz.pinned (OpenSpec.ofChange auditCollectionsSpec)

/-- ITS FALSE NEIGHBOUR: 'it returns false'. Refute it at one input. -/
def auditCollectionsWrong : ChangeSpec := { name := "auditCollections", fn := fun _ => fun
  | [d1, d2, d3, d4, d5] => { results := [.lit (.bool false)], args := [d1, d2, d3, d4, d5] }
  | _ => none }
def AuditCollectionsWrongFalsely : Prop := auditCollectionsRow.holds Tryz.pinned (OpenSpec.ofChange auditCollectionsWrong)

/-- 'effigylaw24.AuditHandles': WHATEVER THE INPUT: true; the input reads as it did. -/
def auditHandlesSpec : ChangeSpec := { name := "auditHandles", fn := fun _ => fun
  | [d1, d2, d3] => { results := [.lit (.bool true)], args := [d1, d2, d3] }
  | _ => none }
def auditHandlesRow : OpenClaim := { program := "ytaggadjiefgpoaagreatdoor", sum := "7c10c1b771bf58080592e9b2c26a47bd5e8d707b845acfe6374216d308e6900c", func := "effigy/effigylaw24.AuditHandles", spec := "auditHandles", unfollowed := true, recurses := true, named := ["effigy/oop.spares"], apart := false, laid := [("effigy/oop.spares", laid_effigy_oop_spares)] }
def AuditHandlesSaid : Prop := auditHandlesRow.holds Tryz.pinned (OpenSpec.ofChange auditHandlesSpec)

/-- ITS FALSE NEIGHBOUR: 'it returns false'. Refute it at one input. -/
def auditHandlesWrong : ChangeSpec := { name := "auditHandles", fn := fun _ => fun
  | [d1, d2, d3] => { results := [.lit (.bool false)], args := [d1, d2, d3] }
  | _ => none }
def AuditHandlesWrongFalsely : Prop := auditHandlesRow.holds Tryz.pinned (OpenSpec.ofChange auditHandlesWrong)

/-- 'effigylaw24.AuditSlides': WHATEVER THE INPUT: true; the input reads as it did. -/
def auditSlidesSpec : ChangeSpec := { name := "auditSlides", fn := fun _ => fun
  | [d1, d2] => { results := [.lit (.bool true)], args := [d1, d2] }
  | _ => none }
def auditSlidesRow : OpenClaim := { program := "ytaggadjiefgpoaagreatdoor", sum := "7c10c1b771bf58080592e9b2c26a47bd5e8d707b845acfe6374216d308e6900c", func := "effigy/effigylaw24.AuditSlides", spec := "auditSlides", unfollowed := true, recurses := true, named := ["effigy/oop.spares"], apart := false, laid := [("effigy/oop.spares", laid_effigy_oop_spares)] }
def AuditSlidesSaid : Prop := auditSlidesRow.holds Tryz.pinned (OpenSpec.ofChange auditSlidesSpec)

/-- ITS FALSE NEIGHBOUR: 'it returns false'. Refute it at one input. -/
def auditSlidesWrong : ChangeSpec := { name := "auditSlides", fn := fun _ => fun
  | [d1, d2] => { results := [.lit (.bool false)], args := [d1, d2] }
  | _ => none }
def AuditSlidesWrongFalsely : Prop := auditSlidesRow.holds Tryz.pinned (OpenSpec.ofChange auditSlidesWrong)

/-- 'effigylaw24.AuditTables': WHATEVER THE INPUT: true; the input reads as it did. -/
def auditTablesSpec : ChangeSpec := { name := "auditTables", fn := fun _ => fun
  | [d1, d2] => { results := [.lit (.bool true)], args := [d1, d2] }
  | _ => none }
def auditTablesRow : OpenClaim := { program := "ytaggadjiefgpoaagreatdoor", sum := "7c10c1b771bf58080592e9b2c26a47bd5e8d707b845acfe6374216d308e6900c", func := "effigy/effigylaw24.AuditTables", spec := "auditTables", unfollowed := true, recurses := true, named := ["effigy/oop.spares"], apart := false, laid := [("effigy/oop.spares", laid_effigy_oop_spares)] }
def AuditTablesSaid : Prop := auditTablesRow.holds Tryz.pinned (OpenSpec.ofChange auditTablesSpec)

/-- ITS FALSE NEIGHBOUR: 'it returns false'. Refute it at one input. -/
def auditTablesWrong : ChangeSpec := { name := "auditTables", fn := fun _ => fun
  | [d1, d2] => { results := [.lit (.bool false)], args := [d1, d2] }
  | _ => none }
def AuditTablesWrongFalsely : Prop := auditTablesRow.holds Tryz.pinned (OpenSpec.ofChange auditTablesWrong)

/-- 'effigylaw24.AuditSessions': WHATEVER THE INPUT: true; the input reads as it did. -/
def auditSessionsSpec : ChangeSpec := { name := "auditSessions", fn := fun _ => fun
  | [d] => { results := [.lit (.bool true)], args := [d] }
  | _ => none }
def auditSessionsRow : OpenClaim := { program := "ytaggadjiefgpoaagreatdoor", sum := "7c10c1b771bf58080592e9b2c26a47bd5e8d707b845acfe6374216d308e6900c", func := "effigy/effigylaw24.AuditSessions", spec := "auditSessions", unfollowed := true, recurses := true, named := ["effigy/oop.spares"], apart := false, laid := [("effigy/oop.spares", laid_effigy_oop_spares)] }
def AuditSessionsSaid : Prop := auditSessionsRow.holds Tryz.pinned (OpenSpec.ofChange auditSessionsSpec)

/-- ITS FALSE NEIGHBOUR: 'it returns false'. Refute it at one input. -/
def auditSessionsWrong : ChangeSpec := { name := "auditSessions", fn := fun _ => fun
  | [d] => { results := [.lit (.bool false)], args := [d] }
  | _ => none }
def AuditSessionsWrongFalsely : Prop := auditSessionsRow.holds Tryz.pinned (OpenSpec.ofChange auditSessionsWrong)

/- THE SECOND FORM. 'bulk': how many values and letters a reading holds, each counted each time it is reached (what is shared counts as often as it is met; a slice's spare places count too). A statement '..UptoSaid' is the law's where the arguments, and the package variables that the reading takes, are together of bulk at most 1048576: NARROWER than '..Said'. Prove '..Said' where nothing that the law and all that it calls make is longer than what came in: it says more and counts as full. Else prove '..UptoSaid'. A law counts once. -/
mutual
def uptoBulk {H : Type} : DataW H → Nat
  | .lit (.string bytes) => bytes.length + 1
  | .lit _ => 1
  | .nil => 1
  | .ptr d => uptoBulk d + 1
  | .slice elems spare => uptoBulkAll elems + uptoBulkAll spare + 1
  | .agg parts => uptoBulkAll parts + 1
  | .iface _ d => uptoBulk d + 1
  | .map entries => uptoBulkEntries entries + 1
  | .held _ => 1
def uptoBulkAll {H : Type} : List (DataW H) → Nat
  | [] => 0
  | d :: r => uptoBulk d + uptoBulkAll r
def uptoBulkEntries {H : Type} : List (Lit × DataW H) → Nat
  | [] => 0
  | x :: r => uptoBulkEntry x + uptoBulkEntries r
def uptoBulkEntry {H : Type} : Lit × DataW H → Nat
  | (.string bytes, d) => bytes.length + uptoBulk d + 1
  | (_, d) => uptoBulk d + 1
 end
def uptoSmall : (H : Type) → List (DataW H) → Bool := fun _ ds => decide (uptoBulkAll ds ≤ 1048576)
def OpenSpec.upto (s : _root_.Go.ChangeSpec) : _root_.Go.OpenSpec := { _root_.Go.OpenSpec.ofChange s with cond := some uptoSmall }

/-- 'effigylaw24.AuditCollections', WHERE WHAT IT READS IS OF BULK AT MOST 1048576: true; the input reads as it did. -/
def auditCollectionsUptoRow : OpenClaim := { program := "ytaggadjiefgpoaagreatdoor", sum := "7c10c1b771bf58080592e9b2c26a47bd5e8d707b845acfe6374216d308e6900c", func := "effigy/effigylaw24.AuditCollections", spec := "auditCollections", unfollowed := true, recurses := true, named := ["effigy/oop.spares"], apart := false, laid := [("effigy/oop.spares", laid_effigy_oop_spares)], narrowed := true }
def AuditCollectionsUptoSaid : Prop := auditCollectionsUptoRow.holds Tryz.pinned (OpenSpec.upto auditCollectionsSpec)

/-- 'effigylaw24.AuditHandles', WHERE WHAT IT READS IS OF BULK AT MOST 1048576: true; the input reads as it did. -/
def auditHandlesUptoRow : OpenClaim := { program := "ytaggadjiefgpoaagreatdoor", sum := "7c10c1b771bf58080592e9b2c26a47bd5e8d707b845acfe6374216d308e6900c", func := "effigy/effigylaw24.AuditHandles", spec := "auditHandles", unfollowed := true, recurses := true, named := ["effigy/oop.spares"], apart := false, laid := [("effigy/oop.spares", laid_effigy_oop_spares)], narrowed := true }
def AuditHandlesUptoSaid : Prop := auditHandlesUptoRow.holds Tryz.pinned (OpenSpec.upto auditHandlesSpec)

/-- 'effigylaw24.AuditSlides', WHERE WHAT IT READS IS OF BULK AT MOST 1048576: true; the input reads as it did. -/
def auditSlidesUptoRow : OpenClaim := { program := "ytaggadjiefgpoaagreatdoor", sum := "7c10c1b771bf58080592e9b2c26a47bd5e8d707b845acfe6374216d308e6900c", func := "effigy/effigylaw24.AuditSlides", spec := "auditSlides", unfollowed := true, recurses := true, named := ["effigy/oop.spares"], apart := false, laid := [("effigy/oop.spares", laid_effigy_oop_spares)], narrowed := true }
def AuditSlidesUptoSaid : Prop := auditSlidesUptoRow.holds Tryz.pinned (OpenSpec.upto auditSlidesSpec)

/-- 'effigylaw24.AuditTables', WHERE WHAT IT READS IS OF BULK AT MOST 1048576: true; the input reads as it did. -/
def auditTablesUptoRow : OpenClaim := { program := "ytaggadjiefgpoaagreatdoor", sum := "7c10c1b771bf58080592e9b2c26a47bd5e8d707b845acfe6374216d308e6900c", func := "effigy/effigylaw24.AuditTables", spec := "auditTables", unfollowed := true, recurses := true, named := ["effigy/oop.spares"], apart := false, laid := [("effigy/oop.spares", laid_effigy_oop_spares)], narrowed := true }
def AuditTablesUptoSaid : Prop := auditTablesUptoRow.holds Tryz.pinned (OpenSpec.upto auditTablesSpec)

/-- 'effigylaw24.AuditSessions', WHERE WHAT IT READS IS OF BULK AT MOST 1048576: true; the input reads as it did. -/
def auditSessionsUptoRow : OpenClaim := { program := "ytaggadjiefgpoaagreatdoor", sum := "7c10c1b771bf58080592e9b2c26a47bd5e8d707b845acfe6374216d308e6900c", func := "effigy/effigylaw24.AuditSessions", spec := "auditSessions", unfollowed := true, recurses := true, named := ["effigy/oop.spares"], apart := false, laid := [("effigy/oop.spares", laid_effigy_oop_spares)], narrowed := true }
def AuditSessionsUptoSaid : Prop := auditSessionsUptoRow.holds Tryz.pinned (OpenSpec.upto auditSessionsSpec)

end Rows
end Go.Proofs.YtaggadjiefgpoaaGreatDoor
