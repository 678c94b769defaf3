/- handles: clear, broken. -/
import Derived.Test.YtaggadjiefgpoaaGreatDoorTb3
namespace Go.Proofs.Eff
open Go.RowKit

section
variable {w : World} {L : HLoc} {h : HeapS} {os : List Nat} {a cap tb : Nat} {T : HTab}
/-- What clearing a slot makes. -/
def ClearR (w : World) (L : HLoc) (h : HeapS) (os : List Nat) (a cap tb : Nat) (T : HTab) (k : Nat) (e : Ending) (w' : World) : Prop :=
  e = .returned (.tuple #[]) ∧ TBx w' L (setW h (a + 3 + k) (wd h.roots 0)) os a cap tb { T with slots := T.slots.set k (0, 0) } ∧ Mod [tb, L.gw] w w'

set_option maxRecDepth 100000 in
set_option maxHeartbeats 1000000 in
theorem clear92 (t : TBx w L h os a cap tb T) (hs : Spares w) (htb : tb ≠ 0) (k : Nat) (hk : k < cap) :
    Calls Tryz.prog 92 #[.pointer (some ⟨tb, 0, none⟩), .int .i64 k] w (ClearR w L h os a cap tb T k) := by
  have hk2 : k < 256 := by have := t.cap2; omega
  have ts : TBx ((w.setCell ⟨tb, 1 + 2 * k, none⟩ (.int .u64 0)).setCell ⟨tb, 1 + 2 * k + 1, none⟩ (.int .i64 0)) L h os a cap tb { T with slots := T.slots.set k (0, 0) } := t.setSlot k hk2 (0, 0)
  have ms := mod_setSlot w tb k (.int .u64 0) (.int .i64 0)
  obtain ⟨z1, s1⟩ : ∃ z, w.cell? ⟨tb, 1 + 2 * k, none⟩ = some (.int .u64 z) := ⟨_, (t.tab.slot k hk2).1⟩
  obtain ⟨z2, s2⟩ : ∃ z, w.cell? ⟨tb, 1 + 2 * k + 1, none⟩ = some (.int .i64 z) := ⟨_, (t.tab.slot k hk2).2⟩
  have f1 := t.tab.fr (1 + 2 * k)
  have f2 := t.tab.fr (1 + 2 * k + 1)
  have hss := hs.mod ms (by simpa using htb.symm)
  have RT := Lib.hid (root135 ts.heap ts.wf 0 (by omega) (by omega))
  have hr0 := t.wf.root 0
  have hin : wd h.roots 0 ∈ h.roots := wd_mem (by have := t.wf.rlen; omega)
  have PU := Lib.hid (put89 ts hss k hk (wd h.roots 0) hr0.1 hr0.2 (t.so.root _ hin))
  rw [show (0 : Int).toNat = 0 from rfl] at RT
  have hpt := ts.tab.ptr
  have MS := Lib.hid ms
  have hk3 : (k : Int) < 256 := by omega
  have e1 : 1 + k * 2 = 1 + 2 * k := by omega
  clear t ts ms hs hss hr0 hin
  go_enter Tryz.func92, Tryz.ntmps92
  go_wp2_with fail
  generalize (w.setCell ⟨tb, 1 + 2 * k, none⟩ (.int .u64 0)).setCell ⟨tb, 1 + 2 * k + 1, none⟩ (.int .i64 0) = W1 at *
  refine RT.out.mono ?_
  rintro e w' ⟨rfl, rfl⟩
  go_wp2_with fail
  refine PU.out.mono ?_
  rintro e w2 ⟨rfl, hT2, hM2⟩
  have T2 := Lib.hid hT2
  have M2 := Lib.hid ((MS.out.mono (S' := [tb, L.gw]) (by simp)).trans (hM2.mono (S' := [tb, L.gw]) (by simp)))
  clear hT2 hM2
  go_wp2
  go_end0
  exact ⟨rfl, T2.out, M2.out⟩
end
end Go.Proofs.Eff
