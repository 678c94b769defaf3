/- wire.NewReader, Reader.Reset; audit.session.applied, ours; the document's find. -/
import Derived.Test.YtaggadjiefgpoaaGreatDoorSy14
import Derived.BigRegion
namespace Go.Proofs.Eff
open Go.RowKit

set_option maxRecDepth 100000 in
set_option maxHeartbeats 1000000 in
theorem NewReader94 (w : World) : Calls Tryz.prog 94 #[] w fun e w' => e = .returned (.pointer (some ⟨w.heap.size, 0, none⟩)) ∧ w' = w.alloc (.cells #[.bool true, .slice none 0 0, .int .i64 0] 249) := by
  go_enter Tryz.func94, Tryz.ntmps94
  go_wp2_with fail
  go_ret
  exact ⟨rfl, rfl⟩
set_option maxRecDepth 100000 in
set_option maxHeartbeats 1000000 in
theorem Reset95 {w : World} {rb kn kc : Nat} {ka : Option Addr} {d : Int} (h : w.heap[rb]? = some (.cells #[.bool true, .slice ka kn kc, .int .i64 d] 249)) :
    Calls Tryz.prog 95 #[.pointer (some ⟨rb, 0, none⟩)] w fun e w' => e = .returned (.tuple #[]) ∧ Mod [rb] w w' ∧ ∃ d', w'.heap[rb]? = some (.cells #[.bool true, .slice none 0 0, .int .i64 d'] 249) := by
  have HB := Lib.hid h
  obtain ⟨b1, b2⟩ := blk h
  clear h
  go_enter Tryz.func95, Tryz.ntmps95
  go_wp2_with fail
  go_region
  go_wp2
  go_end0
  refine ⟨rfl, ?_, wrap64 (d + kn), ?_⟩
  · have h7 := (mod_setCell w ⟨rb, 2, none⟩ (.int .i64 (wrap64 (d + kn)))).trans (mod_setCell _ ⟨rb, 1, none⟩ (.slice none 0 0))
    exact h7.ext ((Ext.refl _).drew)
  · exact ((Ext.refl _).drew).keep (setB (setB HB.out _) _)
end Go.Proofs.Eff
